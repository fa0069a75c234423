/-
  The walks of a strings.Replacer that cleans texts: what it builds, what it finds, what it writes. Printed by a program.
-/
import Derived.Test.YtfancfogkhclfaaGreatDoorRows
import Derived.Test.YtfancfogkhclfaaGreatDoorK
set_option linter.unusedVariables false
set_option maxRecDepth 20000
set_option maxHeartbeats 4000000
namespace Go.Proofs.YtfancfogkhclfaaGreatDoor
open Go.V Go.RowKit

abbrev vS (l : Str) : Value := .string ⟨⟨l⟩⟩
abbrev vN : Value := .string ⟨⟨[]⟩⟩
abbrev vI (n : Int) : Value := .int .i64 n
abbrev vU (n : Int) : Value := .int .u8 n
abbrev vT : Value := .bool true
abbrev vF : Value := .bool false
abbrev vP (b : Nat) : Value := .pointer (some ⟨b, 0, none⟩)
abbrev vA (b o : Nat) : Value := .pointer (some ⟨b, o, none⟩)
abbrev vQ : Value := .pointer none
abbrev vO : Value := .slice none 0 0
abbrev vL {α : Type} (g : Gh) (l : List α) : Value := .slice g.a l.length g.c
abbrev eO {α : Type} (E : TypeId) (T : Ty α) (l : List α) (g : Gh) : Ent := .own E T l g
abbrev eI {α : Type} (T : Ty α) (l : List α) (g : Gh) : Ent := .im T l g
abbrev eB (b : Nat) (cs : List Value) : Ent := .blk b cs
abbrev zN : List Value := [vN, vI 0, vN, vQ, vO]
theorem gsw {x : Value} (M : Av) (w : World) (hS : S0 M [] w) : DoesX Tryz.prog 177 ⟨[.iface 199 (x)]⟩ w (fun v w' => v = .iface 199 (x) ∧ SH M (fpl []) w [] w') := by
 refine ⟨Tryz.call177 _, ?_⟩
 have hS0 : SH M (fpl []) w [] w := hS
 generalize hX : fpl [] = X at hS0 ⊢
 clear hS hX
 have hS := hS0
 clear hS0
 refine calls_entryP Tryz.func177 rfl Tryz.ntmps177 rfl fun _ H => ?_
 refine s_reg [] [0] [(0, [], .iface 199 (x))] [] H (by kernel_rfl) trivial fun _ wd1k H2k hb => ?_
 clear H
 replace hS := hS.below hb
 clear hb
 refine s_reg [] [0, 3, 4] [(0, [], .iface 199 (x)), (3, [], .iface 199 (x)), (4, [], vT)] [] H2k (by kernel_rfl) trivial fun _ wd3k H4k hb => ?_
 clear H2k
 replace hS := hS.below hb
 clear hb
 refine w_seq ?_
 refine s_reg [] [0, 3, 11] [(0, [], .iface 199 (x)), (3, [], .iface 199 (x)), (11, [], vF)] [] H4k (by kernel_rfl) trivial fun _ wd5k H6k hb => ?_
 clear H4k
 replace hS := hS.below hb
 clear hb
 refine w_if H6k rfl (fun hc => by cases hc) (fun _ => ?_)
 refine w_skip ?_
 refine s_reg [] [2] [(2, [], .iface 199 (x))] [] H6k (by kernel_rfl) trivial fun _ wd7k H8k hb => ?_
 clear H6k
 replace hS := hS.below hb
 clear hb
 refine w_ret ?_
 exact retR1 H8k rfl rfl ⟨_, rfl, rfl, (hS.sel [] rfl)⟩

theorem gsw_ok (x : Value) : Ret Tryz.prog 177 ⟨[.iface 199 (x)]⟩ (.iface 199 (x)) := retP_of (Tryz.call177 _) (fun w h => (gsw (x := x) F0 w h).run)

def lit8 : List Str := [[13, 10], [10], [13], [10], [12], [10], [0], [239, 191, 189]]
theorem strings_trieNode_add_cs3 {b3m : Nat} {b146m : Nat} {b13n : Nat} {b13o : Nat} (M : Av) (w : World) (hS : S0 M [eB b13n [vN, vI 0, vS [10], vP b13o, vO], eB b13o zN, eB b146m [vQ, vQ, vQ, vP b13n], Ent.mix .u8 b3m [vN, vI 0, vN, vQ, .slice (some ⟨b146m, 0, none⟩) 4 4, vI 4] gmap (256 : Int)] w) : DoesX Tryz.prog 130 ⟨[vP b13o, vN, vS [10], vI 8, vP b3m]⟩ w (fun v w' => v = .tuple ⟨[]⟩ ∧ SH M (fpl [eB b13n [vN, vI 0, vS [10], vP b13o, vO], eB b13o zN, eB b146m [vQ, vQ, vQ, vP b13n], Ent.mix .u8 b3m [vN, vI 0, vN, vQ, .slice (some ⟨b146m, 0, none⟩) 4 4, vI 4] gmap (256 : Int)]) w [eB b13o [vS [10], vI 8, vN, vQ, vO], eB b13n [vN, vI 0, vS [10], vP b13o, vO], eB b146m [vQ, vQ, vQ, vP b13n], Ent.mix .u8 b3m [vN, vI 0, vN, vQ, .slice (some ⟨b146m, 0, none⟩) 4 4, vI 4] gmap (256 : Int)] w') := by
 refine ⟨Tryz.call130 _, ?_⟩
 have hS0 : SH M (fpl [eB b13n [vN, vI 0, vS [10], vP b13o, vO], eB b13o zN, eB b146m [vQ, vQ, vQ, vP b13n], Ent.mix .u8 b3m [vN, vI 0, vN, vQ, .slice (some ⟨b146m, 0, none⟩) 4 4, vI 4] gmap (256 : Int)]) w [eB b13n [vN, vI 0, vS [10], vP b13o, vO], eB b13o zN, eB b146m [vQ, vQ, vQ, vP b13n], Ent.mix .u8 b3m [vN, vI 0, vN, vQ, .slice (some ⟨b146m, 0, none⟩) 4 4, vI 4] gmap (256 : Int)] w := hS
 generalize hX : fpl [eB b13n [vN, vI 0, vS [10], vP b13o, vO], eB b13o zN, eB b146m [vQ, vQ, vQ, vP b13n], Ent.mix .u8 b3m [vN, vI 0, vN, vQ, .slice (some ⟨b146m, 0, none⟩) 4 4, vI 4] gmap (256 : Int)] = X at hS0 ⊢
 clear hS hX
 have hS := hS0
 clear hS0
 refine calls_entryP Tryz.func130 rfl Tryz.ntmps130 rfl fun _ H => ?_
 refine w_seq ?_
 refine s_reg [] [0, 1, 2, 3, 4, 16] [(0, [], vP b13o), (1, [], vN), (2, [], vS [10]), (3, [], vI 8), (4, [], vP b3m), (16, [], vT)] [] H (by kernel_rfl) trivial fun _ wd1p H2p hb => ?_
 clear H
 replace hS := hS.below hb
 clear hb
 refine w_if H2p rfl (fun _ => ?_) (fun hc => by cases hc)
 refine w_seq ?_
 refine s_reg [(vI 0)] [0, 2, 3, 21] [(0, [], vP b13o), (2, [], vS [10]), (3, [], vI 8), (21, [], vT)] [fun wz => V.at1 ⟨b13o, 1, none⟩ (vI 0) wz] H2p (by kernel_rfl) ⟨((hS.bk 1 rfl).at1 rfl), trivial⟩ fun _ wd3p H4p hb => ?_
 clear H2p
 replace hS := hS.below hb
 clear hb
 refine w_if H4p rfl (fun _ => ?_) (fun hc => by cases hc)
 refine w_seq ?_
 refine wl_start ?_
 refine wl_batch 0 4 [] [0, 3, 23, 25] [(0, [], vP b13o), (3, [], vI 8), (23, [], vS [10]), (25, [], vP b13o)] [] H4p (by decide) (by kernel_rfl) trivial fun _ wd5p H6p hb => ?_
 clear H4p
 replace hS := hS.below hb
 clear hb
 have hd := hS.hand [1] [0, 2, 3] rfl rfl
 refine m_stp0 [0, 3] [(0, [], vP b13o), (3, [], vI 8)] H6p rfl rfl rfl (o_store [vS [10], vI 0, vN, vQ, vO] H6p hd rfl rfl (by kernel_rfl) rfl rfl rfl) rfl fun _ wd7p H8p hq => ?_
 clear H6p hd
 obtain ⟨_, hq⟩ := hq
 replace hS : SH M X w [eB b13o [vS [10], vI 0, vN, vQ, vO], eB b13n [vN, vI 0, vS [10], vP b13o, vO], eB b146m [vQ, vQ, vQ, vP b13n], Ent.mix .u8 b3m [vN, vI 0, vN, vQ, .slice (some ⟨b146m, 0, none⟩) 4 4, vI 4] gmap (256 : Int)] _ := hS.join [1] [0, 2, 3] rfl rfl hq
 clear hq
 refine wl_end rfl ?_
 refine wl_start ?_
 refine wl_batch 0 4 [] [27, 29] [(27, [], vI 8), (29, [], vA b13o 1)] [] H8p (by decide) (by kernel_rfl) trivial fun _ wd9p H10p hb => ?_
 clear H8p
 replace hS := hS.below hb
 clear hb
 have hd := hS.hand [0] [1, 2, 3] rfl rfl
 refine m_stp0 [] [] H10p rfl rfl rfl (o_store [vS [10], vI 8, vN, vQ, vO] H10p hd rfl rfl (by kernel_rfl) rfl rfl rfl) rfl fun _ wd11p H12p hq => ?_
 clear H10p hd
 obtain ⟨_, hq⟩ := hq
 replace hS : SH M X w [eB b13o [vS [10], vI 8, vN, vQ, vO], eB b13n [vN, vI 0, vS [10], vP b13o, vO], eB b146m [vQ, vQ, vQ, vP b13n], Ent.mix .u8 b3m [vN, vI 0, vN, vQ, .slice (some ⟨b146m, 0, none⟩) 4 4, vI 4] gmap (256 : Int)] _ := hS.join [0] [1, 2, 3] rfl rfl hq
 clear hq
 refine wl_end rfl ?_
 refine w_ret ?_
 try dsimp only
 exact retR0 H12p rfl ⟨_, rfl, rfl, (hS.sel [0, 1, 2, 3] rfl)⟩

theorem strings_trieNode_add_cs2 {b3m : Nat} {b146m : Nat} {b13n : Nat} (M : Av) (w : World) (hS : S0 M [eB b146m [vQ, vQ, vQ, vP b13n], eB b13n zN, Ent.mix .u8 b3m [vN, vI 0, vN, vQ, .slice (some ⟨b146m, 0, none⟩) 4 4, vI 4] gmap (256 : Int)] w) : DoesX Tryz.prog 130 ⟨[vP b13n, vS [10], vS [10], vI 8, vP b3m]⟩ w (fun v w' => ∃ (b13o : Nat), v = .tuple ⟨[]⟩ ∧ SH M (fpl [eB b146m [vQ, vQ, vQ, vP b13n], eB b13n zN, Ent.mix .u8 b3m [vN, vI 0, vN, vQ, .slice (some ⟨b146m, 0, none⟩) 4 4, vI 4] gmap (256 : Int)]) w [eB b13o [vS [10], vI 8, vN, vQ, vO], eB b13n [vN, vI 0, vS [10], vP b13o, vO], eB b146m [vQ, vQ, vQ, vP b13n], Ent.mix .u8 b3m [vN, vI 0, vN, vQ, .slice (some ⟨b146m, 0, none⟩) 4 4, vI 4] gmap (256 : Int)] w') := by
 refine ⟨Tryz.call130 _, ?_⟩
 have hS0 : SH M (fpl [eB b146m [vQ, vQ, vQ, vP b13n], eB b13n zN, Ent.mix .u8 b3m [vN, vI 0, vN, vQ, .slice (some ⟨b146m, 0, none⟩) 4 4, vI 4] gmap (256 : Int)]) w [eB b146m [vQ, vQ, vQ, vP b13n], eB b13n zN, Ent.mix .u8 b3m [vN, vI 0, vN, vQ, .slice (some ⟨b146m, 0, none⟩) 4 4, vI 4] gmap (256 : Int)] w := hS
 generalize hX : fpl [eB b146m [vQ, vQ, vQ, vP b13n], eB b13n zN, Ent.mix .u8 b3m [vN, vI 0, vN, vQ, .slice (some ⟨b146m, 0, none⟩) 4 4, vI 4] gmap (256 : Int)] = X at hS0 ⊢
 clear hS hX
 have hS := hS0
 clear hS0
 refine calls_entryP Tryz.func130 rfl Tryz.ntmps130 rfl fun _ H => ?_
 refine w_seq ?_
 refine s_reg [] [0, 1, 2, 3, 4, 16] [(0, [], vP b13n), (1, [], vS [10]), (2, [], vS [10]), (3, [], vI 8), (4, [], vP b3m), (16, [], vF)] [] H (by kernel_rfl) trivial fun _ wd1o H2o hb => ?_
 clear H
 replace hS := hS.below hb
 clear hb
 refine w_if H2o rfl (fun hc => by cases hc) (fun _ => ?_)
 refine w_skip ?_
 refine s_reg [(vN)] [0, 1, 2, 3, 4, 34] [(0, [], vP b13n), (1, [], vS [10]), (2, [], vS [10]), (3, [], vI 8), (4, [], vP b3m), (34, [], vF)] [fun wz => V.at1 ⟨b13n, 2, none⟩ (vN) wz] H2o (by kernel_rfl) ⟨((hS.bk 1 rfl).at1 rfl), trivial⟩ fun _ wd3o H4o hb => ?_
 clear H2o
 replace hS := hS.below hb
 clear hb
 refine w_if H4o rfl (fun hc => by cases hc) (fun _ => ?_)
 refine s_reg [(vO)] [0, 1, 2, 3, 4, 189] [(0, [], vP b13n), (1, [], vS [10]), (2, [], vS [10]), (3, [], vI 8), (4, [], vP b3m), (189, [], vF)] [fun wz => V.at1 ⟨b13n, 4, none⟩ (vO) wz] H4o (by kernel_rfl) ⟨((hS.bk 1 rfl).at1 rfl), trivial⟩ fun _ wd5o H6o hb => ?_
 clear H4o
 replace hS := hS.below hb
 clear hb
 refine w_if H6o rfl (fun hc => by cases hc) (fun _ => ?_)
 refine w_seq ?_
 refine wl_start ?_
 refine wl_batch 0 4 [] [0, 2, 3, 4, 226, 228] [(0, [], vP b13n), (2, [], vS [10]), (3, [], vI 8), (4, [], vP b3m), (226, [], vS [10]), (228, [], vA b13n 2)] [] H6o (by decide) (by kernel_rfl) trivial fun _ wd7o H8o hb => ?_
 clear H6o
 replace hS := hS.below hb
 clear hb
 have hd := hS.hand [1] [0, 2] rfl rfl
 refine m_stp0 [0, 2, 3, 4] [(0, [], vP b13n), (2, [], vS [10]), (3, [], vI 8), (4, [], vP b3m)] H8o rfl rfl rfl (o_store [vN, vI 0, vS [10], vQ, vO] H8o hd rfl rfl (by kernel_rfl) rfl rfl rfl) rfl fun _ wd9o H10o hq => ?_
 clear H8o hd
 obtain ⟨_, hq⟩ := hq
 replace hS : SH M X w [eB b13n [vN, vI 0, vS [10], vQ, vO], eB b146m [vQ, vQ, vQ, vP b13n], Ent.mix .u8 b3m [vN, vI 0, vN, vQ, .slice (some ⟨b146m, 0, none⟩) 4 4, vI 4] gmap (256 : Int)] _ := hS.join [1] [0, 2] rfl rfl hq
 clear hq
 refine wl_end rfl ?_
 refine w_seq ?_
 refine wl_start ?_
 refine wl_batch 0 1 [] [0, 2, 3, 4, 229] [(0, [], vP b13n), (2, [], vS [10]), (3, [], vI 8), (4, [], vP b3m), (229, [], vP b13n)] [] H10o (by decide) (by kernel_rfl) trivial fun _ wd11o H12o hb => ?_
 clear H10o
 replace hS := hS.below hb
 clear hb
 have hd := hS.hand [] [0, 1, 2] rfl rfl
 refine m_stp [230, 0, 2, 3, 4, 229] [(0, [], vP b13n), (2, [], vS [10]), (3, [], vI 8), (4, [], vP b3m), (229, [], vP b13n)] H12o rfl rfl rfl rfl (o_alloc zN (z := .agg ⟨zN⟩) hd (by kernel_rfl) rfl) (fun _ => rfl) fun _ wd14o v H15o hq => ?_
 clear H12o hd
 obtain ⟨b13o, rfl, hq⟩ := hq
 replace hS : SH M X w [eB b13o zN, eB b13n [vN, vI 0, vS [10], vQ, vO], eB b146m [vQ, vQ, vQ, vP b13n], Ent.mix .u8 b3m [vN, vI 0, vN, vQ, .slice (some ⟨b146m, 0, none⟩) 4 4, vI 4] gmap (256 : Int)] _ := hS.join [] [0, 1, 2] rfl rfl hq
 clear hq
 refine wl_batch 2 4 [] [0, 2, 3, 4, 230, 232] [(0, [], vP b13n), (2, [], vS [10]), (3, [], vI 8), (4, [], vP b3m), (230, [], vP b13o), (232, [], vA b13n 3)] [] H15o (by decide) (by kernel_rfl) trivial fun _ wd16o H17o hb => ?_
 clear H15o
 replace hS := hS.below hb
 clear hb
 have hd := hS.hand [1] [0, 2, 3] rfl rfl
 refine m_stp0 [0, 2, 3, 4] [(0, [], vP b13n), (2, [], vS [10]), (3, [], vI 8), (4, [], vP b3m)] H17o rfl rfl rfl (o_store [vN, vI 0, vS [10], vP b13o, vO] H17o hd rfl rfl (by kernel_rfl) rfl rfl rfl) rfl fun _ wd18o H19o hq => ?_
 clear H17o hd
 obtain ⟨_, hq⟩ := hq
 replace hS : SH M X w [eB b13n [vN, vI 0, vS [10], vP b13o, vO], eB b13o zN, eB b146m [vQ, vQ, vQ, vP b13n], Ent.mix .u8 b3m [vN, vI 0, vN, vQ, .slice (some ⟨b146m, 0, none⟩) 4 4, vI 4] gmap (256 : Int)] _ := hS.join [1] [0, 2, 3] rfl rfl hq
 clear hq
 refine wl_end rfl ?_
 refine wl_start ?_
 refine wl_batch 0 7 [(vP b13o)] [236, 237, 238, 239] [(236, [], vP b13o), (237, [], vS [10]), (238, [], vI 8), (239, [], vP b3m)] [fun wz => V.at1 ⟨b13n, 3, none⟩ (vP b13o) wz] H19o (by decide) (by kernel_rfl) ⟨((hS.bk 0 rfl).at1 rfl), trivial⟩ fun _ wd20o H21o hb => ?_
 clear H19o
 replace hS := hS.below hb
 clear hb
 have hd := hS.hand [0, 1, 2, 3] [] rfl rfl
 refine m_stp [240] [] H21o rfl rfl rfl rfl (o_callx H21o rfl rfl (strings_trieNode_add_cs3 _ _ hd)) (fun _ => rfl) fun _ wd22o v H23o hq => ?_
 clear H21o hd
 obtain ⟨rfl, hq⟩ := hq
 replace hS : SH M X w [eB b13o [vS [10], vI 8, vN, vQ, vO], eB b13n [vN, vI 0, vS [10], vP b13o, vO], eB b146m [vQ, vQ, vQ, vP b13n], Ent.mix .u8 b3m [vN, vI 0, vN, vQ, .slice (some ⟨b146m, 0, none⟩) 4 4, vI 4] gmap (256 : Int)] _ := hS.join [0, 1, 2, 3] [] rfl rfl hq
 clear hq
 refine wl_end rfl ?_
 try dsimp only
 exact retR0 H23o rfl ⟨_, rfl, b13o, rfl, (hS.sel [0, 1, 2, 3] rfl)⟩

theorem strings_trieNode_add_cs {b3m : Nat} {b146m : Nat} (M : Av) (w : World) (hS : S0 M [Ent.mix .u8 b3m [vN, vI 0, vN, vQ, .slice (some ⟨b146m, 0, none⟩) 4 4, vI 4] gmap (256 : Int), eB b146m [vQ, vQ, vQ, vQ]] w) : DoesX Tryz.prog 130 ⟨[vP b3m, vS [13, 10], vS [10], vI 8, vP b3m]⟩ w (fun v w' => ∃ (b13n : Nat) (b25n : Nat), v = .tuple ⟨[]⟩ ∧ SH M (fpl [Ent.mix .u8 b3m [vN, vI 0, vN, vQ, .slice (some ⟨b146m, 0, none⟩) 4 4, vI 4] gmap (256 : Int), eB b146m [vQ, vQ, vQ, vQ]]) w [eB b25n [vS [10], vI 8, vN, vQ, vO], eB b13n [vN, vI 0, vS [10], vP b25n, vO], eB b146m [vQ, vQ, vQ, vP b13n], Ent.mix .u8 b3m [vN, vI 0, vN, vQ, .slice (some ⟨b146m, 0, none⟩) 4 4, vI 4] gmap (256 : Int)] w') := by
 refine ⟨Tryz.call130 _, ?_⟩
 have hS0 : SH M (fpl [Ent.mix .u8 b3m [vN, vI 0, vN, vQ, .slice (some ⟨b146m, 0, none⟩) 4 4, vI 4] gmap (256 : Int), eB b146m [vQ, vQ, vQ, vQ]]) w [Ent.mix .u8 b3m [vN, vI 0, vN, vQ, .slice (some ⟨b146m, 0, none⟩) 4 4, vI 4] gmap (256 : Int), eB b146m [vQ, vQ, vQ, vQ]] w := hS
 generalize hX : fpl [Ent.mix .u8 b3m [vN, vI 0, vN, vQ, .slice (some ⟨b146m, 0, none⟩) 4 4, vI 4] gmap (256 : Int), eB b146m [vQ, vQ, vQ, vQ]] = X at hS0 ⊢
 clear hS hX
 have hS := hS0
 clear hS0
 refine calls_entryP Tryz.func130 rfl Tryz.ntmps130 rfl fun _ H => ?_
 refine w_seq ?_
 refine s_reg [] [0, 1, 2, 3, 4, 16] [(0, [], vP b3m), (1, [], vS [13, 10]), (2, [], vS [10]), (3, [], vI 8), (4, [], vP b3m), (16, [], vF)] [] H (by kernel_rfl) trivial fun _ wd1n H2n hb => ?_
 clear H
 replace hS := hS.below hb
 clear hb
 refine w_if H2n rfl (fun hc => by cases hc) (fun _ => ?_)
 refine w_skip ?_
 refine s_reg [(vN)] [0, 1, 2, 3, 4, 34] [(0, [], vP b3m), (1, [], vS [13, 10]), (2, [], vS [10]), (3, [], vI 8), (4, [], vP b3m), (34, [], vF)] [fun wz => V.at1 ⟨b3m, 2, none⟩ (vN) wz] H2n (by kernel_rfl) ⟨((hS.mix 0 rfl).1.at1 rfl), trivial⟩ fun _ wd3n H4n hb => ?_
 clear H2n
 replace hS := hS.below hb
 clear hb
 refine w_if H4n rfl (fun hc => by cases hc) (fun _ => ?_)
 refine s_reg [(.slice (some ⟨b146m, 0, none⟩) 4 4)] [0, 1, 2, 3, 4, 189] [(0, [], vP b3m), (1, [], vS [13, 10]), (2, [], vS [10]), (3, [], vI 8), (4, [], vP b3m), (189, [], vT)] [fun wz => V.at1 ⟨b3m, 4, none⟩ (.slice (some ⟨b146m, 0, none⟩) 4 4) wz] H4n (by kernel_rfl) ⟨((hS.mix 0 rfl).1.at1 rfl), trivial⟩ fun _ wd5n H6n hb => ?_
 clear H4n
 replace hS := hS.below hb
 clear hb
 refine w_if H6n rfl (fun _ => ?_) (fun hc => by cases hc)
 refine s_draw [(vU 3)] [0, 1, 2, 3, 4, 14] [(0, [], vP b3m), (1, [], vS [13, 10]), (2, [], vS [10]), (3, [], vI 8), (4, [], vP b3m), (14, [], vU 3)] [fun _ => 0 ≤ (0 : Int) ∧ (0 : Int) < ln ([13, 10] : Str), fun _ => 0 ≤ (13 : Int) ∧ (13 : Int) < (256 : Int), fun wz => V.at1 ⟨b3m, 6 + ((13 : Int)).toNat * 1, none⟩ (vU 3) wz] H6n (by kernel_rfl) (by kernel_rfl) (by kernel_rfl) ⟨(show 0 ≤ (0 : Int) ∧ (0 : Int) < ln ([13, 10] : Str) from by decide), (show 0 ≤ (13 : Int) ∧ (13 : Int) < (256 : Int) from by decide), (Mix.ixn (hS.mix 0 rfl) rfl (show 0 ≤ (13 : Int) ∧ (13 : Int) < (256 : Int) from by decide)), trivial⟩ fun _ wd7n H8n hb => ?_
 clear H6n
 replace hS := hS.below hb
 clear hb
 refine w_seq ?_
 refine s_reg [(.slice (some ⟨b146m, 0, none⟩) 4 4), (vQ)] [0, 1, 2, 3, 4, 14, 204] [(0, [], vP b3m), (1, [], vS [13, 10]), (2, [], vS [10]), (3, [], vI 8), (4, [], vP b3m), (14, [], vU 3), (204, [], vT)] [fun wz => V.at1 ⟨b3m, 4, none⟩ (.slice (some ⟨b146m, 0, none⟩) 4 4) wz, fun _ => oka (some ⟨b146m, 0, none⟩) ∧ 0 ≤ (3 : Int) ∧ (3 : Int) < 4, fun wz => V.at1 ⟨b146m, 3, none⟩ (vQ) wz] H8n (by kernel_rfl) ⟨((hS.mix 0 rfl).1.at1 rfl), (⟨rfl, (show 0 ≤ (3 : Int) ∧ (3 : Int) < 4 from by decide)⟩), ((hS.bk 1 rfl).at1 rfl), trivial⟩ fun _ wd9n H10n hb => ?_
 clear H8n
 replace hS := hS.below hb
 clear hb
 refine w_if H10n rfl (fun _ => ?_) (fun hc => by cases hc)
 refine wl_start ?_
 refine wl_batch 0 5 [(.slice (some ⟨b146m, 0, none⟩) 4 4)] [0, 1, 2, 3, 4, 14, 208, 209] [(0, [], vP b3m), (1, [], vS [13, 10]), (2, [], vS [10]), (3, [], vI 8), (4, [], vP b3m), (14, [], vU 3), (208, [], .slice (some ⟨b146m, 0, none⟩) 4 4), (209, [], vU 3)] [fun wz => V.at1 ⟨b3m, 4, none⟩ (.slice (some ⟨b146m, 0, none⟩) 4 4) wz] H10n (by decide) (by kernel_rfl) ⟨((hS.mix 0 rfl).1.at1 rfl), trivial⟩ fun _ wd11n H12n hb => ?_
 clear H10n
 replace hS := hS.below hb
 clear hb
 have hd := hS.hand [] [0, 1] rfl rfl
 refine m_stp [210, 0, 1, 2, 3, 4, 14, 208, 209] [(0, [], vP b3m), (1, [], vS [13, 10]), (2, [], vS [10]), (3, [], vI 8), (4, [], vP b3m), (14, [], vU 3), (208, [], .slice (some ⟨b146m, 0, none⟩) 4 4), (209, [], vU 3)] H12n rfl rfl rfl rfl (o_alloc zN (z := .agg ⟨zN⟩) hd (by kernel_rfl) rfl) (fun _ => rfl) fun _ wd14n v H15n hq => ?_
 clear H12n hd
 obtain ⟨b13n, rfl, hq⟩ := hq
 replace hS : SH M X w [eB b13n zN, Ent.mix .u8 b3m [vN, vI 0, vN, vQ, .slice (some ⟨b146m, 0, none⟩) 4 4, vI 4] gmap (256 : Int), eB b146m [vQ, vQ, vQ, vQ]] _ := hS.join [] [0, 1] rfl rfl hq
 clear hq
 refine wl_batch 6 7 [] [0, 1, 2, 3, 4, 14, 210, 211] [(0, [], vP b3m), (1, [], vS [13, 10]), (2, [], vS [10]), (3, [], vI 8), (4, [], vP b3m), (14, [], vU 3), (210, [], vP b13n), (211, [], vA b146m 3)] [fun _ => oka (some ⟨b146m, 0, none⟩) ∧ 0 ≤ (3 : Int) ∧ (3 : Int) < 4] H15n (by decide) (by kernel_rfl) ⟨(⟨rfl, (show 0 ≤ (3 : Int) ∧ (3 : Int) < 4 from by decide)⟩), trivial⟩ fun _ wd16n H17n hb => ?_
 clear H15n
 replace hS := hS.below hb
 clear hb
 have hd := hS.hand [2] [0, 1] rfl rfl
 refine m_stp0 [0, 1, 2, 3, 4, 14] [(0, [], vP b3m), (1, [], vS [13, 10]), (2, [], vS [10]), (3, [], vI 8), (4, [], vP b3m), (14, [], vU 3)] H17n rfl rfl rfl (o_store [vQ, vQ, vQ, vP b13n] H17n hd rfl rfl (by kernel_rfl) rfl rfl rfl) rfl fun _ wd18n H19n hq => ?_
 clear H17n hd
 obtain ⟨_, hq⟩ := hq
 replace hS : SH M X w [eB b146m [vQ, vQ, vQ, vP b13n], eB b13n zN, Ent.mix .u8 b3m [vN, vI 0, vN, vQ, .slice (some ⟨b146m, 0, none⟩) 4 4, vI 4] gmap (256 : Int)] _ := hS.join [2] [0, 1] rfl rfl hq
 clear hq
 refine wl_end rfl ?_
 refine w_drawS (base := [(0, [], vP b3m), (1, [], vS [13, 10]), (2, [], vS [10]), (3, [], vI 8), (4, [], vP b3m), (14, [], vU 3)]) (L := [eB b146m [vQ, vQ, vQ, vP b13n], eB b13n zN, Ent.mix .u8 b3m [vN, vI 0, vN, vQ, .slice (some ⟨b146m, 0, none⟩) 4 4, vI 4] gmap (256 : Int)]) 13 3 (fun yg20n => [vP b3m, vP b3m, vA b3m 4, .slice (some ⟨b146m, 0, none⟩) 4 4, vU 3, vA b146m 3, vP b13n, vS [13, 10], vS [10], vS [10], vI 8, vP b3m, .tuple ⟨[]⟩]) (fun yg20n => [[], [], [], [], [], [], [], [], [], [], [], [], [eB (ab (yg20n 12 0).a) [vS [10], vI 8, vN, vQ, vO], eB b13n [vN, vI 0, vS [10], .pointer (some ⟨(ab (yg20n 12 0).a), 0, none⟩), vO]]]) [[13, 14, 15], [13, 14, 15], [13, 14, 15], [13, 14, 15], [], [13, 14], [13, 14], [], [], [], [], [13, 14, 15], [13, 14, 15]] [[], [], [], [], [], [], [], [], [], [], [], [], [14]] [[0], [0, 1], [0, 1, 2], [0, 1, 2, 3], [4], [0, 1, 2, 3, 4, 5], [0, 1, 2, 3, 4, 5, 6], [7], [7, 8], [9], [10], [11], [0, 1, 2, 3, 4, 5, 6, 7, 8, 9, 10, 11, 12]] [] (FrG.keep (ks := [0, 1, 2, 3, 4, 14]) H19n (by kernel_rfl)) (fun _ _ h => by cases h) (by kernel_rfl) hS (by kernel_rfl) rfl rfl (by kernel_rfl) (by kernel_rfl) (by kernel_rfl) (gd_none (by kernel_rfl) _ _) ?hloc_yg20n ?hstep_yg20n fun _ wd22n yg20n H23n hv hS => ?hK_yg20n
 case hloc_yg20n => exact ⟨(fun _ _ _ _ => ⟨rfl, rfl⟩), (fun _ _ _ _ => ⟨rfl, rfl⟩), (fun _ _ _ _ => ⟨rfl, rfl⟩), (fun _ _ _ _ => ⟨rfl, rfl⟩), (fun _ _ _ _ => ⟨rfl, rfl⟩), (fun _ _ _ _ => ⟨rfl, rfl⟩), (fun _ _ _ _ => ⟨rfl, rfl⟩), (fun _ _ _ _ => ⟨rfl, rfl⟩), (fun _ _ _ _ => ⟨rfl, rfl⟩), (fun _ _ _ _ => ⟨rfl, rfl⟩), (fun _ _ _ _ => ⟨rfl, rfl⟩), (fun _ _ _ _ => ⟨rfl, rfl⟩), (fun yg20n i g hi => by have h12 : updC yg20n i g 12 = yg20n 12 := updC_out hi rfl; exact ⟨(show (.tuple ⟨[]⟩ : Value) = .tuple ⟨[]⟩ by simp only []), (show ([eB (ab ((updC yg20n i g) 12 0).a) [vS [10], vI 8, vN, vQ, vO], eB b13n [vN, vI 0, vS [10], .pointer (some ⟨(ab ((updC yg20n i g) 12 0).a), 0, none⟩), vO]] : List Ent) = [eB (ab (yg20n 12 0).a) [vS [10], vI 8, vN, vQ, vO], eB b13n [vN, vI 0, vS [10], .pointer (some ⟨(ab (yg20n 12 0).a), 0, none⟩), vO]] by simp only [h12])⟩), trivial⟩
 case hstep_yg20n =>
  refine ⟨?_, ?_, ?_, ?_, ?_, ?_, ?_, ?_, ?_, ?_, ?_, ?_, ?_, trivial⟩
  ·intro o ho a w yg20n M Hb hv hO hS
   obtain rfl := Option.some.inj ho
   exact Stp.mono (o_evs [] (vP b3m) none [] Hb rfl (by kernel_rfl) (fun q e => by cases e)) fun _ _ hq => ⟨gL [], fun _ _ => hq.1, (hS.below hq.2.below).sel [0, 1, 2] rfl⟩
  ·intro o ho a w yg20n M Hb hv hO hS
   obtain rfl := Option.some.inj ho
   exact Stp.mono (o_evs [] (vP b3m) none [] ((Hb).add (hv 0 (by decide) (by decide) 212 rfl)) rfl (by kernel_rfl) (fun q e => by cases e)) fun _ _ hq => ⟨gL [], fun _ _ => hq.1, (hS.below hq.2.below).sel [0, 1, 2] rfl⟩
  ·intro o ho a w yg20n M Hb hv hO hS
   obtain rfl := Option.some.inj ho
   exact Stp.mono (o_evs [] (vA b3m 4) none [] ((Hb).add (hv 1 (by decide) (by decide) 213 rfl)) rfl (by kernel_rfl) (fun q e => by cases e)) fun _ _ hq => ⟨gL [], fun _ _ => hq.1, (hS.below hq.2.below).sel [0, 1, 2] rfl⟩
  ·intro o ho a w yg20n M Hb hv hO hS
   obtain rfl := Option.some.inj ho
   exact Stp.mono (o_evs [(.slice (some ⟨b146m, 0, none⟩) 4 4)] (.slice (some ⟨b146m, 0, none⟩) 4 4) (some (fun wz => V.at1 ⟨b3m, 4, none⟩ (.slice (some ⟨b146m, 0, none⟩) 4 4) wz)) [] ((Hb).add (hv 2 (by decide) (by decide) 214 rfl)) rfl (by kernel_rfl) (fun q e => by cases e; exact ((hS.mix 2 rfl).1.at1 rfl))) fun _ _ hq => ⟨gL [], fun _ _ => hq.1, (hS.below hq.2.below).sel [0, 1, 2] rfl⟩
  ·intro o ho a w yg20n M Hb hv hO hS
   obtain rfl := Option.some.inj ho
   exact Stp.mono (o_evs [] (vU 3) none [] Hb rfl (by kernel_rfl) (fun q e => by cases e)) fun _ _ hq => ⟨gL [], fun _ _ => hq.1, (hS.below hq.2.below).sel [] rfl⟩
  ·intro o ho a w yg20n M Hb hv hO hS
   obtain rfl := Option.some.inj ho
   exact Stp.mono (o_evs [] (vA b146m 3) (some (fun _ => oka (some ⟨b146m, 0, none⟩) ∧ 0 ≤ (3 : Int) ∧ (3 : Int) < 4)) [] (((Hb).add (hv 3 (by decide) (by decide) 215 rfl)).add (hv 4 (by decide) (by decide) 216 rfl)) rfl (by kernel_rfl) (fun q e => by cases e; exact (⟨rfl, (show 0 ≤ (3 : Int) ∧ (3 : Int) < 4 from by decide)⟩))) fun _ _ hq => ⟨gL [], fun _ _ => hq.1, (hS.below hq.2.below).sel [0, 1] rfl⟩
  ·intro o ho a w yg20n M Hb hv hO hS
   obtain rfl := Option.some.inj ho
   exact Stp.mono (o_evs [(vP b13n)] (vP b13n) (some (fun wz => V.at1 ⟨b146m, 3, none⟩ (vP b13n) wz)) [] ((Hb).add (hv 5 (by decide) (by decide) 217 rfl)) rfl (by kernel_rfl) (fun q e => by cases e; exact ((hS.bk 0 rfl).at1 rfl))) fun _ _ hq => ⟨gL [], fun _ _ => hq.1, (hS.below hq.2.below).sel [0, 1] rfl⟩
  ·intro o ho a w yg20n M Hb hv hO hS
   obtain rfl := Option.some.inj ho
   exact Stp.mono (o_evs [] (vS [13, 10]) none [] Hb rfl (by kernel_rfl) (fun q e => by cases e)) fun _ _ hq => ⟨gL [], fun _ _ => hq.1, (hS.below hq.2.below).sel [] rfl⟩
  ·intro o ho a w yg20n M Hb hv hO hS
   obtain rfl := Option.some.inj ho
   exact Stp.mono (o_evs [] (vS [10]) (some (fun _ => 0 ≤ (1 : Int) ∧ (1 : Int) ≤ ln ([13, 10] : Str))) [] ((Hb).add (hv 7 (by decide) (by decide) 219 rfl)) rfl (by kernel_rfl) (fun q e => by cases e; exact (show 0 ≤ (1 : Int) ∧ (1 : Int) ≤ ln ([13, 10] : Str) from by decide))) fun _ _ hq => ⟨gL [], fun _ _ => hq.1, (hS.below hq.2.below).sel [] rfl⟩
  ·intro o ho a w yg20n M Hb hv hO hS
   obtain rfl := Option.some.inj ho
   exact Stp.mono (o_evs [] (vS [10]) none [] Hb rfl (by kernel_rfl) (fun q e => by cases e)) fun _ _ hq => ⟨gL [], fun _ _ => hq.1, (hS.below hq.2.below).sel [] rfl⟩
  ·intro o ho a w yg20n M Hb hv hO hS
   obtain rfl := Option.some.inj ho
   exact Stp.mono (o_evs [] (vI 8) none [] Hb rfl (by kernel_rfl) (fun q e => by cases e)) fun _ _ hq => ⟨gL [], fun _ _ => hq.1, (hS.below hq.2.below).sel [] rfl⟩
  ·intro o ho a w yg20n M Hb hv hO hS
   obtain rfl := Option.some.inj ho
   exact Stp.mono (o_evs [] (vP b3m) none [] Hb rfl (by kernel_rfl) (fun q e => by cases e)) fun _ _ hq => ⟨gL [], fun _ _ => hq.1, (hS.below hq.2.below).sel [0, 1, 2] rfl⟩
  ·intro o ho a w yg20n M Hb hv hO hS0
   obtain rfl := Option.some.inj ho
   have H : Fr 241 ([(223, [], vP b3m), (222, [], vI 8), (221, [], vS [10]), (220, [], vS [10]), (218, [], vP b13n)] ++ [(0, [], vP b3m), (1, [], vS [13, 10]), (2, [], vS [10]), (3, [], vI 8), (4, [], vP b3m), (14, [], vU 3)]) _ := (((((Hb).add (hv 6 (by decide) (by decide) 218 rfl)).add (hv 8 (by decide) (by decide) 220 rfl)).add (hv 9 (by decide) (by decide) 221 rfl)).add (hv 10 (by decide) (by decide) 222 rfl)).add (hv 11 (by decide) (by decide) 223 rfl)
   obtain ⟨X, hX⟩ : ∃ X, X = fpl [eB b146m [vQ, vQ, vQ, vP b13n], eB b13n zN, Ent.mix .u8 b3m [vN, vI 0, vN, vQ, .slice (some ⟨b146m, 0, none⟩) 4 4, vI 4] gmap (256 : Int)] := ⟨_, rfl⟩
   have hS : SH M X w [eB b146m [vQ, vQ, vQ, vP b13n], eB b13n zN, Ent.mix .u8 b3m [vN, vI 0, vN, vQ, .slice (some ⟨b146m, 0, none⟩) 4 4, vI 4] gmap (256 : Int)] w := by rw [hX]; exact hS0
   have hd := hS.hand [0, 1, 2] [] rfl rfl
   refine Stp.mono (o_callx H rfl rfl (strings_trieNode_add_cs2 _ _ hd)) ?_
   rintro v w2 hq
   obtain ⟨b21n, rfl, hq⟩ := hq
   replace hS : SH M X w [eB b21n [vS [10], vI 8, vN, vQ, vO], eB b13n [vN, vI 0, vS [10], vP b21n, vO], eB b146m [vQ, vQ, vQ, vP b13n], Ent.mix .u8 b3m [vN, vI 0, vN, vQ, .slice (some ⟨b146m, 0, none⟩) 4 4, vI 4] gmap (256 : Int)] _ := hS.join [0, 1, 2] [] rfl rfl hq
   clear hq
   rw [hX] at hS
   exact ⟨gL [Gh.mk (some ⟨b21n, 0, none⟩) 0 fun _ _ => .nil], fun _ _ => rfl, hS.sel [0, 1, 2, 3] rfl⟩
 have H24n : Fr 241 [] _ := (FrG.keep (ks := []) H23n (by kernel_rfl))
 replace hS : SH M X w [eB (ab (yg20n 12 0).a) [vS [10], vI 8, vN, vQ, vO], eB b13n [vN, vI 0, vS [10], .pointer (some ⟨(ab (yg20n 12 0).a), 0, none⟩), vO], eB b146m [vQ, vQ, vQ, vP b13n], Ent.mix .u8 b3m [vN, vI 0, vN, vQ, .slice (some ⟨b146m, 0, none⟩) 4 4, vI 4] gmap (256 : Int)] _ := hS
 clear hv H23n
 generalize ab (yg20n 12 0).a = b25n at H24n hS
 try dsimp only
 exact retR0 H24n rfl ⟨_, rfl, b13n, b25n, rfl, (hS.sel [0, 1, 2, 3] rfl)⟩

theorem strings_trieNode_add_cs5 {b3m : Nat} {b146m : Nat} {b163m : Nat} {b164m : Nat} (M : Av) (w : World) (hS : S0 M [eB b163m [vS [10], vI 8, vN, vQ, vO], eB b164m [vN, vI 0, vS [10], vP b163m, vO], eB b146m [vQ, vQ, vQ, vP b164m], Ent.mix .u8 b3m [vN, vI 0, vN, vQ, .slice (some ⟨b146m, 0, none⟩) 4 4, vI 4] gmap (256 : Int)] w) : DoesX Tryz.prog 130 ⟨[vP b164m, vN, vS [10], vI 6, vP b3m]⟩ w (fun v w' => v = .tuple ⟨[]⟩ ∧ SH M (fpl [eB b163m [vS [10], vI 8, vN, vQ, vO], eB b164m [vN, vI 0, vS [10], vP b163m, vO], eB b146m [vQ, vQ, vQ, vP b164m], Ent.mix .u8 b3m [vN, vI 0, vN, vQ, .slice (some ⟨b146m, 0, none⟩) 4 4, vI 4] gmap (256 : Int)]) w [eB b164m [vS [10], vI 6, vS [10], vP b163m, vO], eB b163m [vS [10], vI 8, vN, vQ, vO], eB b146m [vQ, vQ, vQ, vP b164m], Ent.mix .u8 b3m [vN, vI 0, vN, vQ, .slice (some ⟨b146m, 0, none⟩) 4 4, vI 4] gmap (256 : Int)] w') := by
 refine ⟨Tryz.call130 _, ?_⟩
 have hS0 : SH M (fpl [eB b163m [vS [10], vI 8, vN, vQ, vO], eB b164m [vN, vI 0, vS [10], vP b163m, vO], eB b146m [vQ, vQ, vQ, vP b164m], Ent.mix .u8 b3m [vN, vI 0, vN, vQ, .slice (some ⟨b146m, 0, none⟩) 4 4, vI 4] gmap (256 : Int)]) w [eB b163m [vS [10], vI 8, vN, vQ, vO], eB b164m [vN, vI 0, vS [10], vP b163m, vO], eB b146m [vQ, vQ, vQ, vP b164m], Ent.mix .u8 b3m [vN, vI 0, vN, vQ, .slice (some ⟨b146m, 0, none⟩) 4 4, vI 4] gmap (256 : Int)] w := hS
 generalize hX : fpl [eB b163m [vS [10], vI 8, vN, vQ, vO], eB b164m [vN, vI 0, vS [10], vP b163m, vO], eB b146m [vQ, vQ, vQ, vP b164m], Ent.mix .u8 b3m [vN, vI 0, vN, vQ, .slice (some ⟨b146m, 0, none⟩) 4 4, vI 4] gmap (256 : Int)] = X at hS0 ⊢
 clear hS hX
 have hS := hS0
 clear hS0
 refine calls_entryP Tryz.func130 rfl Tryz.ntmps130 rfl fun _ H => ?_
 refine w_seq ?_
 refine s_reg [] [0, 1, 2, 3, 4, 16] [(0, [], vP b164m), (1, [], vN), (2, [], vS [10]), (3, [], vI 6), (4, [], vP b3m), (16, [], vT)] [] H (by kernel_rfl) trivial fun _ wd1o H2o hb => ?_
 clear H
 replace hS := hS.below hb
 clear hb
 refine w_if H2o rfl (fun _ => ?_) (fun hc => by cases hc)
 refine w_seq ?_
 refine s_reg [(vI 0)] [0, 2, 3, 21] [(0, [], vP b164m), (2, [], vS [10]), (3, [], vI 6), (21, [], vT)] [fun wz => V.at1 ⟨b164m, 1, none⟩ (vI 0) wz] H2o (by kernel_rfl) ⟨((hS.bk 1 rfl).at1 rfl), trivial⟩ fun _ wd3o H4o hb => ?_
 clear H2o
 replace hS := hS.below hb
 clear hb
 refine w_if H4o rfl (fun _ => ?_) (fun hc => by cases hc)
 refine w_seq ?_
 refine wl_start ?_
 refine wl_batch 0 4 [] [0, 3, 23, 25] [(0, [], vP b164m), (3, [], vI 6), (23, [], vS [10]), (25, [], vP b164m)] [] H4o (by decide) (by kernel_rfl) trivial fun _ wd5o H6o hb => ?_
 clear H4o
 replace hS := hS.below hb
 clear hb
 have hd := hS.hand [1] [0, 2, 3] rfl rfl
 refine m_stp0 [0, 3] [(0, [], vP b164m), (3, [], vI 6)] H6o rfl rfl rfl (o_store [vS [10], vI 0, vS [10], vP b163m, vO] H6o hd rfl rfl (by kernel_rfl) rfl rfl rfl) rfl fun _ wd7o H8o hq => ?_
 clear H6o hd
 obtain ⟨_, hq⟩ := hq
 replace hS : SH M X w [eB b164m [vS [10], vI 0, vS [10], vP b163m, vO], eB b163m [vS [10], vI 8, vN, vQ, vO], eB b146m [vQ, vQ, vQ, vP b164m], Ent.mix .u8 b3m [vN, vI 0, vN, vQ, .slice (some ⟨b146m, 0, none⟩) 4 4, vI 4] gmap (256 : Int)] _ := hS.join [1] [0, 2, 3] rfl rfl hq
 clear hq
 refine wl_end rfl ?_
 refine wl_start ?_
 refine wl_batch 0 4 [] [27, 29] [(27, [], vI 6), (29, [], vA b164m 1)] [] H8o (by decide) (by kernel_rfl) trivial fun _ wd9o H10o hb => ?_
 clear H8o
 replace hS := hS.below hb
 clear hb
 have hd := hS.hand [0] [1, 2, 3] rfl rfl
 refine m_stp0 [] [] H10o rfl rfl rfl (o_store [vS [10], vI 6, vS [10], vP b163m, vO] H10o hd rfl rfl (by kernel_rfl) rfl rfl rfl) rfl fun _ wd11o H12o hq => ?_
 clear H10o hd
 obtain ⟨_, hq⟩ := hq
 replace hS : SH M X w [eB b164m [vS [10], vI 6, vS [10], vP b163m, vO], eB b163m [vS [10], vI 8, vN, vQ, vO], eB b146m [vQ, vQ, vQ, vP b164m], Ent.mix .u8 b3m [vN, vI 0, vN, vQ, .slice (some ⟨b146m, 0, none⟩) 4 4, vI 4] gmap (256 : Int)] _ := hS.join [0] [1, 2, 3] rfl rfl hq
 clear hq
 refine wl_end rfl ?_
 refine w_ret ?_
 try dsimp only
 exact retR0 H12o rfl ⟨_, rfl, rfl, (hS.sel [0, 1, 2, 3] rfl)⟩

theorem strings_trieNode_add_cs4 {b3m : Nat} {b146m : Nat} {b163m : Nat} {b164m : Nat} (M : Av) (w : World) (hS : S0 M [eB b163m [vS [10], vI 8, vN, vQ, vO], eB b164m [vN, vI 0, vS [10], vP b163m, vO], eB b146m [vQ, vQ, vQ, vP b164m], Ent.mix .u8 b3m [vN, vI 0, vN, vQ, .slice (some ⟨b146m, 0, none⟩) 4 4, vI 4] gmap (256 : Int)] w) : DoesX Tryz.prog 130 ⟨[vP b3m, vS [13], vS [10], vI 6, vP b3m]⟩ w (fun v w' => v = .tuple ⟨[]⟩ ∧ SH M (fpl [eB b163m [vS [10], vI 8, vN, vQ, vO], eB b164m [vN, vI 0, vS [10], vP b163m, vO], eB b146m [vQ, vQ, vQ, vP b164m], Ent.mix .u8 b3m [vN, vI 0, vN, vQ, .slice (some ⟨b146m, 0, none⟩) 4 4, vI 4] gmap (256 : Int)]) w [eB b164m [vS [10], vI 6, vS [10], vP b163m, vO], eB b163m [vS [10], vI 8, vN, vQ, vO], eB b146m [vQ, vQ, vQ, vP b164m], Ent.mix .u8 b3m [vN, vI 0, vN, vQ, .slice (some ⟨b146m, 0, none⟩) 4 4, vI 4] gmap (256 : Int)] w') := by
 refine ⟨Tryz.call130 _, ?_⟩
 have hS0 : SH M (fpl [eB b163m [vS [10], vI 8, vN, vQ, vO], eB b164m [vN, vI 0, vS [10], vP b163m, vO], eB b146m [vQ, vQ, vQ, vP b164m], Ent.mix .u8 b3m [vN, vI 0, vN, vQ, .slice (some ⟨b146m, 0, none⟩) 4 4, vI 4] gmap (256 : Int)]) w [eB b163m [vS [10], vI 8, vN, vQ, vO], eB b164m [vN, vI 0, vS [10], vP b163m, vO], eB b146m [vQ, vQ, vQ, vP b164m], Ent.mix .u8 b3m [vN, vI 0, vN, vQ, .slice (some ⟨b146m, 0, none⟩) 4 4, vI 4] gmap (256 : Int)] w := hS
 generalize hX : fpl [eB b163m [vS [10], vI 8, vN, vQ, vO], eB b164m [vN, vI 0, vS [10], vP b163m, vO], eB b146m [vQ, vQ, vQ, vP b164m], Ent.mix .u8 b3m [vN, vI 0, vN, vQ, .slice (some ⟨b146m, 0, none⟩) 4 4, vI 4] gmap (256 : Int)] = X at hS0 ⊢
 clear hS hX
 have hS := hS0
 clear hS0
 refine calls_entryP Tryz.func130 rfl Tryz.ntmps130 rfl fun _ H => ?_
 refine w_seq ?_
 refine s_reg [] [0, 1, 2, 3, 4, 16] [(0, [], vP b3m), (1, [], vS [13]), (2, [], vS [10]), (3, [], vI 6), (4, [], vP b3m), (16, [], vF)] [] H (by kernel_rfl) trivial fun _ wd1n H2n hb => ?_
 clear H
 replace hS := hS.below hb
 clear hb
 refine w_if H2n rfl (fun hc => by cases hc) (fun _ => ?_)
 refine w_skip ?_
 refine s_reg [(vN)] [0, 1, 2, 3, 4, 34] [(0, [], vP b3m), (1, [], vS [13]), (2, [], vS [10]), (3, [], vI 6), (4, [], vP b3m), (34, [], vF)] [fun wz => V.at1 ⟨b3m, 2, none⟩ (vN) wz] H2n (by kernel_rfl) ⟨((hS.mix 3 rfl).1.at1 rfl), trivial⟩ fun _ wd3n H4n hb => ?_
 clear H2n
 replace hS := hS.below hb
 clear hb
 refine w_if H4n rfl (fun hc => by cases hc) (fun _ => ?_)
 refine s_reg [(.slice (some ⟨b146m, 0, none⟩) 4 4)] [0, 1, 2, 3, 4, 189] [(0, [], vP b3m), (1, [], vS [13]), (2, [], vS [10]), (3, [], vI 6), (4, [], vP b3m), (189, [], vT)] [fun wz => V.at1 ⟨b3m, 4, none⟩ (.slice (some ⟨b146m, 0, none⟩) 4 4) wz] H4n (by kernel_rfl) ⟨((hS.mix 3 rfl).1.at1 rfl), trivial⟩ fun _ wd5n H6n hb => ?_
 clear H4n
 replace hS := hS.below hb
 clear hb
 refine w_if H6n rfl (fun _ => ?_) (fun hc => by cases hc)
 refine s_draw [(vU 3)] [0, 1, 2, 3, 4, 14] [(0, [], vP b3m), (1, [], vS [13]), (2, [], vS [10]), (3, [], vI 6), (4, [], vP b3m), (14, [], vU 3)] [fun _ => 0 ≤ (0 : Int) ∧ (0 : Int) < ln ([13] : Str), fun _ => 0 ≤ (13 : Int) ∧ (13 : Int) < (256 : Int), fun wz => V.at1 ⟨b3m, 6 + ((13 : Int)).toNat * 1, none⟩ (vU 3) wz] H6n (by kernel_rfl) (by kernel_rfl) (by kernel_rfl) ⟨(show 0 ≤ (0 : Int) ∧ (0 : Int) < ln ([13] : Str) from by decide), (show 0 ≤ (13 : Int) ∧ (13 : Int) < (256 : Int) from by decide), (Mix.ixn (hS.mix 3 rfl) rfl (show 0 ≤ (13 : Int) ∧ (13 : Int) < (256 : Int) from by decide)), trivial⟩ fun _ wd7n H8n hb => ?_
 clear H6n
 replace hS := hS.below hb
 clear hb
 refine w_seq ?_
 refine s_reg [(.slice (some ⟨b146m, 0, none⟩) 4 4), (vP b164m)] [0, 1, 2, 3, 4, 14, 204] [(0, [], vP b3m), (1, [], vS [13]), (2, [], vS [10]), (3, [], vI 6), (4, [], vP b3m), (14, [], vU 3), (204, [], vF)] [fun wz => V.at1 ⟨b3m, 4, none⟩ (.slice (some ⟨b146m, 0, none⟩) 4 4) wz, fun _ => oka (some ⟨b146m, 0, none⟩) ∧ 0 ≤ (3 : Int) ∧ (3 : Int) < 4, fun wz => V.at1 ⟨b146m, 3, none⟩ (vP b164m) wz] H8n (by kernel_rfl) ⟨((hS.mix 3 rfl).1.at1 rfl), (⟨rfl, (show 0 ≤ (3 : Int) ∧ (3 : Int) < 4 from by decide)⟩), ((hS.bk 2 rfl).at1 rfl), trivial⟩ fun _ wd9n H10n hb => ?_
 clear H8n
 replace hS := hS.below hb
 clear hb
 refine w_if H10n rfl (fun hc => by cases hc) (fun _ => ?_)
 refine w_skip ?_
 refine w_drawS (base := [(0, [], vP b3m), (1, [], vS [13]), (2, [], vS [10]), (3, [], vI 6), (4, [], vP b3m), (14, [], vU 3)]) (L := [eB b163m [vS [10], vI 8, vN, vQ, vO], eB b164m [vN, vI 0, vS [10], vP b163m, vO], eB b146m [vQ, vQ, vQ, vP b164m], Ent.mix .u8 b3m [vN, vI 0, vN, vQ, .slice (some ⟨b146m, 0, none⟩) 4 4, vI 4] gmap (256 : Int)]) 13 4 (fun yg11n => [vP b3m, vP b3m, vA b3m 4, .slice (some ⟨b146m, 0, none⟩) 4 4, vU 3, vA b146m 3, vP b164m, vS [13], vN, vS [10], vI 6, vP b3m, .tuple ⟨[]⟩]) (fun yg11n => [[], [], [], [], [], [], [], [], [], [], [], [], [eB b164m [vS [10], vI 6, vS [10], vP b163m, vO]]]) [[13, 14, 15, 16], [13, 14, 15, 16], [13, 14, 15, 16], [13, 14, 15, 16], [], [13, 14, 15], [13, 14, 15], [], [], [], [], [13, 14, 15, 16], [13, 14, 15, 16]] [[], [], [], [], [], [], [], [], [], [], [], [], [14]] [[0], [0, 1], [0, 1, 2], [0, 1, 2, 3], [4], [0, 1, 2, 3, 4, 5], [0, 1, 2, 3, 4, 5, 6], [7], [7, 8], [9], [10], [11], [0, 1, 2, 3, 4, 5, 6, 7, 8, 9, 10, 11, 12]] [] (FrG.keep (ks := [0, 1, 2, 3, 4, 14]) H10n (by kernel_rfl)) (fun _ _ h => by cases h) (by kernel_rfl) hS (by kernel_rfl) rfl rfl (by kernel_rfl) (by kernel_rfl) (by kernel_rfl) (gd_none (by kernel_rfl) _ _) ?hloc_yg11n ?hstep_yg11n fun _ wd12n yg11n H13n hv hS => ?hK_yg11n
 case hloc_yg11n => exact ⟨(fun _ _ _ _ => ⟨rfl, rfl⟩), (fun _ _ _ _ => ⟨rfl, rfl⟩), (fun _ _ _ _ => ⟨rfl, rfl⟩), (fun _ _ _ _ => ⟨rfl, rfl⟩), (fun _ _ _ _ => ⟨rfl, rfl⟩), (fun _ _ _ _ => ⟨rfl, rfl⟩), (fun _ _ _ _ => ⟨rfl, rfl⟩), (fun _ _ _ _ => ⟨rfl, rfl⟩), (fun _ _ _ _ => ⟨rfl, rfl⟩), (fun _ _ _ _ => ⟨rfl, rfl⟩), (fun _ _ _ _ => ⟨rfl, rfl⟩), (fun _ _ _ _ => ⟨rfl, rfl⟩), (fun _ _ _ _ => ⟨rfl, rfl⟩), trivial⟩
 case hstep_yg11n =>
  refine ⟨?_, ?_, ?_, ?_, ?_, ?_, ?_, ?_, ?_, ?_, ?_, ?_, ?_, trivial⟩
  ·intro o ho a w yg11n M Hb hv hO hS
   obtain rfl := Option.some.inj ho
   exact Stp.mono (o_evs [] (vP b3m) none [] Hb rfl (by kernel_rfl) (fun q e => by cases e)) fun _ _ hq => ⟨gL [], fun _ _ => hq.1, (hS.below hq.2.below).sel [0, 1, 2, 3] rfl⟩
  ·intro o ho a w yg11n M Hb hv hO hS
   obtain rfl := Option.some.inj ho
   exact Stp.mono (o_evs [] (vP b3m) none [] ((Hb).add (hv 0 (by decide) (by decide) 212 rfl)) rfl (by kernel_rfl) (fun q e => by cases e)) fun _ _ hq => ⟨gL [], fun _ _ => hq.1, (hS.below hq.2.below).sel [0, 1, 2, 3] rfl⟩
  ·intro o ho a w yg11n M Hb hv hO hS
   obtain rfl := Option.some.inj ho
   exact Stp.mono (o_evs [] (vA b3m 4) none [] ((Hb).add (hv 1 (by decide) (by decide) 213 rfl)) rfl (by kernel_rfl) (fun q e => by cases e)) fun _ _ hq => ⟨gL [], fun _ _ => hq.1, (hS.below hq.2.below).sel [0, 1, 2, 3] rfl⟩
  ·intro o ho a w yg11n M Hb hv hO hS
   obtain rfl := Option.some.inj ho
   exact Stp.mono (o_evs [(.slice (some ⟨b146m, 0, none⟩) 4 4)] (.slice (some ⟨b146m, 0, none⟩) 4 4) (some (fun wz => V.at1 ⟨b3m, 4, none⟩ (.slice (some ⟨b146m, 0, none⟩) 4 4) wz)) [] ((Hb).add (hv 2 (by decide) (by decide) 214 rfl)) rfl (by kernel_rfl) (fun q e => by cases e; exact ((hS.mix 3 rfl).1.at1 rfl))) fun _ _ hq => ⟨gL [], fun _ _ => hq.1, (hS.below hq.2.below).sel [0, 1, 2, 3] rfl⟩
  ·intro o ho a w yg11n M Hb hv hO hS
   obtain rfl := Option.some.inj ho
   exact Stp.mono (o_evs [] (vU 3) none [] Hb rfl (by kernel_rfl) (fun q e => by cases e)) fun _ _ hq => ⟨gL [], fun _ _ => hq.1, (hS.below hq.2.below).sel [] rfl⟩
  ·intro o ho a w yg11n M Hb hv hO hS
   obtain rfl := Option.some.inj ho
   exact Stp.mono (o_evs [] (vA b146m 3) (some (fun _ => oka (some ⟨b146m, 0, none⟩) ∧ 0 ≤ (3 : Int) ∧ (3 : Int) < 4)) [] (((Hb).add (hv 3 (by decide) (by decide) 215 rfl)).add (hv 4 (by decide) (by decide) 216 rfl)) rfl (by kernel_rfl) (fun q e => by cases e; exact (⟨rfl, (show 0 ≤ (3 : Int) ∧ (3 : Int) < 4 from by decide)⟩))) fun _ _ hq => ⟨gL [], fun _ _ => hq.1, (hS.below hq.2.below).sel [0, 1, 2] rfl⟩
  ·intro o ho a w yg11n M Hb hv hO hS
   obtain rfl := Option.some.inj ho
   exact Stp.mono (o_evs [(vP b164m)] (vP b164m) (some (fun wz => V.at1 ⟨b146m, 3, none⟩ (vP b164m) wz)) [] ((Hb).add (hv 5 (by decide) (by decide) 217 rfl)) rfl (by kernel_rfl) (fun q e => by cases e; exact ((hS.bk 2 rfl).at1 rfl))) fun _ _ hq => ⟨gL [], fun _ _ => hq.1, (hS.below hq.2.below).sel [0, 1, 2] rfl⟩
  ·intro o ho a w yg11n M Hb hv hO hS
   obtain rfl := Option.some.inj ho
   exact Stp.mono (o_evs [] (vS [13]) none [] Hb rfl (by kernel_rfl) (fun q e => by cases e)) fun _ _ hq => ⟨gL [], fun _ _ => hq.1, (hS.below hq.2.below).sel [] rfl⟩
  ·intro o ho a w yg11n M Hb hv hO hS
   obtain rfl := Option.some.inj ho
   exact Stp.mono (o_evs [] (vN) (some (fun _ => 0 ≤ (1 : Int) ∧ (1 : Int) ≤ ln ([13] : Str))) [] ((Hb).add (hv 7 (by decide) (by decide) 219 rfl)) rfl (by kernel_rfl) (fun q e => by cases e; exact (show 0 ≤ (1 : Int) ∧ (1 : Int) ≤ ln ([13] : Str) from by decide))) fun _ _ hq => ⟨gL [], fun _ _ => hq.1, (hS.below hq.2.below).sel [] rfl⟩
  ·intro o ho a w yg11n M Hb hv hO hS
   obtain rfl := Option.some.inj ho
   exact Stp.mono (o_evs [] (vS [10]) none [] Hb rfl (by kernel_rfl) (fun q e => by cases e)) fun _ _ hq => ⟨gL [], fun _ _ => hq.1, (hS.below hq.2.below).sel [] rfl⟩
  ·intro o ho a w yg11n M Hb hv hO hS
   obtain rfl := Option.some.inj ho
   exact Stp.mono (o_evs [] (vI 6) none [] Hb rfl (by kernel_rfl) (fun q e => by cases e)) fun _ _ hq => ⟨gL [], fun _ _ => hq.1, (hS.below hq.2.below).sel [] rfl⟩
  ·intro o ho a w yg11n M Hb hv hO hS
   obtain rfl := Option.some.inj ho
   exact Stp.mono (o_evs [] (vP b3m) none [] Hb rfl (by kernel_rfl) (fun q e => by cases e)) fun _ _ hq => ⟨gL [], fun _ _ => hq.1, (hS.below hq.2.below).sel [0, 1, 2, 3] rfl⟩
  ·intro o ho a w yg11n M Hb hv hO hS0
   obtain rfl := Option.some.inj ho
   have H : Fr 241 ([(223, [], vP b3m), (222, [], vI 6), (221, [], vS [10]), (220, [], vN), (218, [], vP b164m)] ++ [(0, [], vP b3m), (1, [], vS [13]), (2, [], vS [10]), (3, [], vI 6), (4, [], vP b3m), (14, [], vU 3)]) _ := (((((Hb).add (hv 6 (by decide) (by decide) 218 rfl)).add (hv 8 (by decide) (by decide) 220 rfl)).add (hv 9 (by decide) (by decide) 221 rfl)).add (hv 10 (by decide) (by decide) 222 rfl)).add (hv 11 (by decide) (by decide) 223 rfl)
   obtain ⟨X, hX⟩ : ∃ X, X = fpl [eB b163m [vS [10], vI 8, vN, vQ, vO], eB b164m [vN, vI 0, vS [10], vP b163m, vO], eB b146m [vQ, vQ, vQ, vP b164m], Ent.mix .u8 b3m [vN, vI 0, vN, vQ, .slice (some ⟨b146m, 0, none⟩) 4 4, vI 4] gmap (256 : Int)] := ⟨_, rfl⟩
   have hS : SH M X w [eB b163m [vS [10], vI 8, vN, vQ, vO], eB b164m [vN, vI 0, vS [10], vP b163m, vO], eB b146m [vQ, vQ, vQ, vP b164m], Ent.mix .u8 b3m [vN, vI 0, vN, vQ, .slice (some ⟨b146m, 0, none⟩) 4 4, vI 4] gmap (256 : Int)] w := by rw [hX]; exact hS0
   have hd := hS.hand [0, 1, 2, 3] [] rfl rfl
   refine Stp.mono (o_callx H rfl rfl (strings_trieNode_add_cs5 _ _ hd)) ?_
   rintro v w2 hq
   obtain ⟨rfl, hq⟩ := hq
   replace hS : SH M X w [eB b164m [vS [10], vI 6, vS [10], vP b163m, vO], eB b163m [vS [10], vI 8, vN, vQ, vO], eB b146m [vQ, vQ, vQ, vP b164m], Ent.mix .u8 b3m [vN, vI 0, vN, vQ, .slice (some ⟨b146m, 0, none⟩) 4 4, vI 4] gmap (256 : Int)] _ := hS.join [0, 1, 2, 3] [] rfl rfl hq
   clear hq
   rw [hX] at hS
   exact ⟨gL [], fun _ _ => rfl, hS.sel [0, 1, 2, 3] rfl⟩
 have H14n : Fr 241 [] _ := (FrG.keep (ks := []) H13n (by kernel_rfl))
 replace hS : SH M X w [eB b164m [vS [10], vI 6, vS [10], vP b163m, vO], eB b163m [vS [10], vI 8, vN, vQ, vO], eB b146m [vQ, vQ, vQ, vP b164m], Ent.mix .u8 b3m [vN, vI 0, vN, vQ, .slice (some ⟨b146m, 0, none⟩) 4 4, vI 4] gmap (256 : Int)] _ := hS
 clear hv H13n
 try dsimp only
 exact retR0 H14n rfl ⟨_, rfl, rfl, (hS.sel [0, 1, 2, 3] rfl)⟩

theorem strings_trieNode_add_cs7 {b3m : Nat} {b146m : Nat} {b163m : Nat} {b164m : Nat} {b13n : Nat} (M : Av) (w : World) (hS : S0 M [eB b146m [vQ, vQ, vP b13n, vP b164m], eB b13n zN, eB b164m [vS [10], vI 6, vS [10], vP b163m, vO], eB b163m [vS [10], vI 8, vN, vQ, vO], Ent.mix .u8 b3m [vN, vI 0, vN, vQ, .slice (some ⟨b146m, 0, none⟩) 4 4, vI 4] gmap (256 : Int)] w) : DoesX Tryz.prog 130 ⟨[vP b13n, vN, vS [10], vI 4, vP b3m]⟩ w (fun v w' => v = .tuple ⟨[]⟩ ∧ SH M (fpl [eB b146m [vQ, vQ, vP b13n, vP b164m], eB b13n zN, eB b164m [vS [10], vI 6, vS [10], vP b163m, vO], eB b163m [vS [10], vI 8, vN, vQ, vO], Ent.mix .u8 b3m [vN, vI 0, vN, vQ, .slice (some ⟨b146m, 0, none⟩) 4 4, vI 4] gmap (256 : Int)]) w [eB b13n [vS [10], vI 4, vN, vQ, vO], eB b146m [vQ, vQ, vP b13n, vP b164m], eB b164m [vS [10], vI 6, vS [10], vP b163m, vO], eB b163m [vS [10], vI 8, vN, vQ, vO], Ent.mix .u8 b3m [vN, vI 0, vN, vQ, .slice (some ⟨b146m, 0, none⟩) 4 4, vI 4] gmap (256 : Int)] w') := by
 refine ⟨Tryz.call130 _, ?_⟩
 have hS0 : SH M (fpl [eB b146m [vQ, vQ, vP b13n, vP b164m], eB b13n zN, eB b164m [vS [10], vI 6, vS [10], vP b163m, vO], eB b163m [vS [10], vI 8, vN, vQ, vO], Ent.mix .u8 b3m [vN, vI 0, vN, vQ, .slice (some ⟨b146m, 0, none⟩) 4 4, vI 4] gmap (256 : Int)]) w [eB b146m [vQ, vQ, vP b13n, vP b164m], eB b13n zN, eB b164m [vS [10], vI 6, vS [10], vP b163m, vO], eB b163m [vS [10], vI 8, vN, vQ, vO], Ent.mix .u8 b3m [vN, vI 0, vN, vQ, .slice (some ⟨b146m, 0, none⟩) 4 4, vI 4] gmap (256 : Int)] w := hS
 generalize hX : fpl [eB b146m [vQ, vQ, vP b13n, vP b164m], eB b13n zN, eB b164m [vS [10], vI 6, vS [10], vP b163m, vO], eB b163m [vS [10], vI 8, vN, vQ, vO], Ent.mix .u8 b3m [vN, vI 0, vN, vQ, .slice (some ⟨b146m, 0, none⟩) 4 4, vI 4] gmap (256 : Int)] = X at hS0 ⊢
 clear hS hX
 have hS := hS0
 clear hS0
 refine calls_entryP Tryz.func130 rfl Tryz.ntmps130 rfl fun _ H => ?_
 refine w_seq ?_
 refine s_reg [] [0, 1, 2, 3, 4, 16] [(0, [], vP b13n), (1, [], vN), (2, [], vS [10]), (3, [], vI 4), (4, [], vP b3m), (16, [], vT)] [] H (by kernel_rfl) trivial fun _ wd1o H2o hb => ?_
 clear H
 replace hS := hS.below hb
 clear hb
 refine w_if H2o rfl (fun _ => ?_) (fun hc => by cases hc)
 refine w_seq ?_
 refine s_reg [(vI 0)] [0, 2, 3, 21] [(0, [], vP b13n), (2, [], vS [10]), (3, [], vI 4), (21, [], vT)] [fun wz => V.at1 ⟨b13n, 1, none⟩ (vI 0) wz] H2o (by kernel_rfl) ⟨((hS.bk 1 rfl).at1 rfl), trivial⟩ fun _ wd3o H4o hb => ?_
 clear H2o
 replace hS := hS.below hb
 clear hb
 refine w_if H4o rfl (fun _ => ?_) (fun hc => by cases hc)
 refine w_seq ?_
 refine wl_start ?_
 refine wl_batch 0 4 [] [0, 3, 23, 25] [(0, [], vP b13n), (3, [], vI 4), (23, [], vS [10]), (25, [], vP b13n)] [] H4o (by decide) (by kernel_rfl) trivial fun _ wd5o H6o hb => ?_
 clear H4o
 replace hS := hS.below hb
 clear hb
 have hd := hS.hand [1] [0, 2, 3, 4] rfl rfl
 refine m_stp0 [0, 3] [(0, [], vP b13n), (3, [], vI 4)] H6o rfl rfl rfl (o_store [vS [10], vI 0, vN, vQ, vO] H6o hd rfl rfl (by kernel_rfl) rfl rfl rfl) rfl fun _ wd7o H8o hq => ?_
 clear H6o hd
 obtain ⟨_, hq⟩ := hq
 replace hS : SH M X w [eB b13n [vS [10], vI 0, vN, vQ, vO], eB b146m [vQ, vQ, vP b13n, vP b164m], eB b164m [vS [10], vI 6, vS [10], vP b163m, vO], eB b163m [vS [10], vI 8, vN, vQ, vO], Ent.mix .u8 b3m [vN, vI 0, vN, vQ, .slice (some ⟨b146m, 0, none⟩) 4 4, vI 4] gmap (256 : Int)] _ := hS.join [1] [0, 2, 3, 4] rfl rfl hq
 clear hq
 refine wl_end rfl ?_
 refine wl_start ?_
 refine wl_batch 0 4 [] [27, 29] [(27, [], vI 4), (29, [], vA b13n 1)] [] H8o (by decide) (by kernel_rfl) trivial fun _ wd9o H10o hb => ?_
 clear H8o
 replace hS := hS.below hb
 clear hb
 have hd := hS.hand [0] [1, 2, 3, 4] rfl rfl
 refine m_stp0 [] [] H10o rfl rfl rfl (o_store [vS [10], vI 4, vN, vQ, vO] H10o hd rfl rfl (by kernel_rfl) rfl rfl rfl) rfl fun _ wd11o H12o hq => ?_
 clear H10o hd
 obtain ⟨_, hq⟩ := hq
 replace hS : SH M X w [eB b13n [vS [10], vI 4, vN, vQ, vO], eB b146m [vQ, vQ, vP b13n, vP b164m], eB b164m [vS [10], vI 6, vS [10], vP b163m, vO], eB b163m [vS [10], vI 8, vN, vQ, vO], Ent.mix .u8 b3m [vN, vI 0, vN, vQ, .slice (some ⟨b146m, 0, none⟩) 4 4, vI 4] gmap (256 : Int)] _ := hS.join [0] [1, 2, 3, 4] rfl rfl hq
 clear hq
 refine wl_end rfl ?_
 refine w_ret ?_
 try dsimp only
 exact retR0 H12o rfl ⟨_, rfl, rfl, (hS.sel [0, 1, 2, 3, 4] rfl)⟩

theorem strings_trieNode_add_cs6 {b3m : Nat} {b146m : Nat} {b163m : Nat} {b164m : Nat} (M : Av) (w : World) (hS : S0 M [eB b164m [vS [10], vI 6, vS [10], vP b163m, vO], eB b163m [vS [10], vI 8, vN, vQ, vO], eB b146m [vQ, vQ, vQ, vP b164m], Ent.mix .u8 b3m [vN, vI 0, vN, vQ, .slice (some ⟨b146m, 0, none⟩) 4 4, vI 4] gmap (256 : Int)] w) : DoesX Tryz.prog 130 ⟨[vP b3m, vS [12], vS [10], vI 4, vP b3m]⟩ w (fun v w' => ∃ (b13n : Nat), v = .tuple ⟨[]⟩ ∧ SH M (fpl [eB b164m [vS [10], vI 6, vS [10], vP b163m, vO], eB b163m [vS [10], vI 8, vN, vQ, vO], eB b146m [vQ, vQ, vQ, vP b164m], Ent.mix .u8 b3m [vN, vI 0, vN, vQ, .slice (some ⟨b146m, 0, none⟩) 4 4, vI 4] gmap (256 : Int)]) w [eB b13n [vS [10], vI 4, vN, vQ, vO], eB b146m [vQ, vQ, vP b13n, vP b164m], eB b164m [vS [10], vI 6, vS [10], vP b163m, vO], eB b163m [vS [10], vI 8, vN, vQ, vO], Ent.mix .u8 b3m [vN, vI 0, vN, vQ, .slice (some ⟨b146m, 0, none⟩) 4 4, vI 4] gmap (256 : Int)] w') := by
 refine ⟨Tryz.call130 _, ?_⟩
 have hS0 : SH M (fpl [eB b164m [vS [10], vI 6, vS [10], vP b163m, vO], eB b163m [vS [10], vI 8, vN, vQ, vO], eB b146m [vQ, vQ, vQ, vP b164m], Ent.mix .u8 b3m [vN, vI 0, vN, vQ, .slice (some ⟨b146m, 0, none⟩) 4 4, vI 4] gmap (256 : Int)]) w [eB b164m [vS [10], vI 6, vS [10], vP b163m, vO], eB b163m [vS [10], vI 8, vN, vQ, vO], eB b146m [vQ, vQ, vQ, vP b164m], Ent.mix .u8 b3m [vN, vI 0, vN, vQ, .slice (some ⟨b146m, 0, none⟩) 4 4, vI 4] gmap (256 : Int)] w := hS
 generalize hX : fpl [eB b164m [vS [10], vI 6, vS [10], vP b163m, vO], eB b163m [vS [10], vI 8, vN, vQ, vO], eB b146m [vQ, vQ, vQ, vP b164m], Ent.mix .u8 b3m [vN, vI 0, vN, vQ, .slice (some ⟨b146m, 0, none⟩) 4 4, vI 4] gmap (256 : Int)] = X at hS0 ⊢
 clear hS hX
 have hS := hS0
 clear hS0
 refine calls_entryP Tryz.func130 rfl Tryz.ntmps130 rfl fun _ H => ?_
 refine w_seq ?_
 refine s_reg [] [0, 1, 2, 3, 4, 16] [(0, [], vP b3m), (1, [], vS [12]), (2, [], vS [10]), (3, [], vI 4), (4, [], vP b3m), (16, [], vF)] [] H (by kernel_rfl) trivial fun _ wd1n H2n hb => ?_
 clear H
 replace hS := hS.below hb
 clear hb
 refine w_if H2n rfl (fun hc => by cases hc) (fun _ => ?_)
 refine w_skip ?_
 refine s_reg [(vN)] [0, 1, 2, 3, 4, 34] [(0, [], vP b3m), (1, [], vS [12]), (2, [], vS [10]), (3, [], vI 4), (4, [], vP b3m), (34, [], vF)] [fun wz => V.at1 ⟨b3m, 2, none⟩ (vN) wz] H2n (by kernel_rfl) ⟨((hS.mix 3 rfl).1.at1 rfl), trivial⟩ fun _ wd3n H4n hb => ?_
 clear H2n
 replace hS := hS.below hb
 clear hb
 refine w_if H4n rfl (fun hc => by cases hc) (fun _ => ?_)
 refine s_reg [(.slice (some ⟨b146m, 0, none⟩) 4 4)] [0, 1, 2, 3, 4, 189] [(0, [], vP b3m), (1, [], vS [12]), (2, [], vS [10]), (3, [], vI 4), (4, [], vP b3m), (189, [], vT)] [fun wz => V.at1 ⟨b3m, 4, none⟩ (.slice (some ⟨b146m, 0, none⟩) 4 4) wz] H4n (by kernel_rfl) ⟨((hS.mix 3 rfl).1.at1 rfl), trivial⟩ fun _ wd5n H6n hb => ?_
 clear H4n
 replace hS := hS.below hb
 clear hb
 refine w_if H6n rfl (fun _ => ?_) (fun hc => by cases hc)
 refine s_draw [(vU 2)] [0, 1, 2, 3, 4, 14] [(0, [], vP b3m), (1, [], vS [12]), (2, [], vS [10]), (3, [], vI 4), (4, [], vP b3m), (14, [], vU 2)] [fun _ => 0 ≤ (0 : Int) ∧ (0 : Int) < ln ([12] : Str), fun _ => 0 ≤ (12 : Int) ∧ (12 : Int) < (256 : Int), fun wz => V.at1 ⟨b3m, 6 + ((12 : Int)).toNat * 1, none⟩ (vU 2) wz] H6n (by kernel_rfl) (by kernel_rfl) (by kernel_rfl) ⟨(show 0 ≤ (0 : Int) ∧ (0 : Int) < ln ([12] : Str) from by decide), (show 0 ≤ (12 : Int) ∧ (12 : Int) < (256 : Int) from by decide), (Mix.ixn (hS.mix 3 rfl) rfl (show 0 ≤ (12 : Int) ∧ (12 : Int) < (256 : Int) from by decide)), trivial⟩ fun _ wd7n H8n hb => ?_
 clear H6n
 replace hS := hS.below hb
 clear hb
 refine w_seq ?_
 refine s_reg [(.slice (some ⟨b146m, 0, none⟩) 4 4), (vQ)] [0, 1, 2, 3, 4, 14, 204] [(0, [], vP b3m), (1, [], vS [12]), (2, [], vS [10]), (3, [], vI 4), (4, [], vP b3m), (14, [], vU 2), (204, [], vT)] [fun wz => V.at1 ⟨b3m, 4, none⟩ (.slice (some ⟨b146m, 0, none⟩) 4 4) wz, fun _ => oka (some ⟨b146m, 0, none⟩) ∧ 0 ≤ (2 : Int) ∧ (2 : Int) < 4, fun wz => V.at1 ⟨b146m, 2, none⟩ (vQ) wz] H8n (by kernel_rfl) ⟨((hS.mix 3 rfl).1.at1 rfl), (⟨rfl, (show 0 ≤ (2 : Int) ∧ (2 : Int) < 4 from by decide)⟩), ((hS.bk 2 rfl).at1 rfl), trivial⟩ fun _ wd9n H10n hb => ?_
 clear H8n
 replace hS := hS.below hb
 clear hb
 refine w_if H10n rfl (fun _ => ?_) (fun hc => by cases hc)
 refine wl_start ?_
 refine wl_batch 0 5 [(.slice (some ⟨b146m, 0, none⟩) 4 4)] [0, 1, 2, 3, 4, 14, 208, 209] [(0, [], vP b3m), (1, [], vS [12]), (2, [], vS [10]), (3, [], vI 4), (4, [], vP b3m), (14, [], vU 2), (208, [], .slice (some ⟨b146m, 0, none⟩) 4 4), (209, [], vU 2)] [fun wz => V.at1 ⟨b3m, 4, none⟩ (.slice (some ⟨b146m, 0, none⟩) 4 4) wz] H10n (by decide) (by kernel_rfl) ⟨((hS.mix 3 rfl).1.at1 rfl), trivial⟩ fun _ wd11n H12n hb => ?_
 clear H10n
 replace hS := hS.below hb
 clear hb
 have hd := hS.hand [] [0, 1, 2, 3] rfl rfl
 refine m_stp [210, 0, 1, 2, 3, 4, 14, 208, 209] [(0, [], vP b3m), (1, [], vS [12]), (2, [], vS [10]), (3, [], vI 4), (4, [], vP b3m), (14, [], vU 2), (208, [], .slice (some ⟨b146m, 0, none⟩) 4 4), (209, [], vU 2)] H12n rfl rfl rfl rfl (o_alloc zN (z := .agg ⟨zN⟩) hd (by kernel_rfl) rfl) (fun _ => rfl) fun _ wd14n v H15n hq => ?_
 clear H12n hd
 obtain ⟨b13n, rfl, hq⟩ := hq
 replace hS : SH M X w [eB b13n zN, eB b164m [vS [10], vI 6, vS [10], vP b163m, vO], eB b163m [vS [10], vI 8, vN, vQ, vO], eB b146m [vQ, vQ, vQ, vP b164m], Ent.mix .u8 b3m [vN, vI 0, vN, vQ, .slice (some ⟨b146m, 0, none⟩) 4 4, vI 4] gmap (256 : Int)] _ := hS.join [] [0, 1, 2, 3] rfl rfl hq
 clear hq
 refine wl_batch 6 7 [] [0, 1, 2, 3, 4, 14, 210, 211] [(0, [], vP b3m), (1, [], vS [12]), (2, [], vS [10]), (3, [], vI 4), (4, [], vP b3m), (14, [], vU 2), (210, [], vP b13n), (211, [], vA b146m 2)] [fun _ => oka (some ⟨b146m, 0, none⟩) ∧ 0 ≤ (2 : Int) ∧ (2 : Int) < 4] H15n (by decide) (by kernel_rfl) ⟨(⟨rfl, (show 0 ≤ (2 : Int) ∧ (2 : Int) < 4 from by decide)⟩), trivial⟩ fun _ wd16n H17n hb => ?_
 clear H15n
 replace hS := hS.below hb
 clear hb
 have hd := hS.hand [3] [0, 1, 2, 4] rfl rfl
 refine m_stp0 [0, 1, 2, 3, 4, 14] [(0, [], vP b3m), (1, [], vS [12]), (2, [], vS [10]), (3, [], vI 4), (4, [], vP b3m), (14, [], vU 2)] H17n rfl rfl rfl (o_store [vQ, vQ, vP b13n, vP b164m] H17n hd rfl rfl (by kernel_rfl) rfl rfl rfl) rfl fun _ wd18n H19n hq => ?_
 clear H17n hd
 obtain ⟨_, hq⟩ := hq
 replace hS : SH M X w [eB b146m [vQ, vQ, vP b13n, vP b164m], eB b13n zN, eB b164m [vS [10], vI 6, vS [10], vP b163m, vO], eB b163m [vS [10], vI 8, vN, vQ, vO], Ent.mix .u8 b3m [vN, vI 0, vN, vQ, .slice (some ⟨b146m, 0, none⟩) 4 4, vI 4] gmap (256 : Int)] _ := hS.join [3] [0, 1, 2, 4] rfl rfl hq
 clear hq
 refine wl_end rfl ?_
 refine w_drawS (base := [(0, [], vP b3m), (1, [], vS [12]), (2, [], vS [10]), (3, [], vI 4), (4, [], vP b3m), (14, [], vU 2)]) (L := [eB b146m [vQ, vQ, vP b13n, vP b164m], eB b13n zN, eB b164m [vS [10], vI 6, vS [10], vP b163m, vO], eB b163m [vS [10], vI 8, vN, vQ, vO], Ent.mix .u8 b3m [vN, vI 0, vN, vQ, .slice (some ⟨b146m, 0, none⟩) 4 4, vI 4] gmap (256 : Int)]) 13 5 (fun yg20n => [vP b3m, vP b3m, vA b3m 4, .slice (some ⟨b146m, 0, none⟩) 4 4, vU 2, vA b146m 2, vP b13n, vS [12], vN, vS [10], vI 4, vP b3m, .tuple ⟨[]⟩]) (fun yg20n => [[], [], [], [], [], [], [], [], [], [], [], [], [eB b13n [vS [10], vI 4, vN, vQ, vO]]]) [[13, 14, 15, 16, 17], [13, 14, 15, 16, 17], [13, 14, 15, 16, 17], [13, 14, 15, 16, 17], [], [13, 14, 15, 16], [13, 14, 15, 16], [], [], [], [], [13, 14, 15, 16, 17], [13, 14, 15, 16, 17]] [[], [], [], [], [], [], [], [], [], [], [], [], [14]] [[0], [0, 1], [0, 1, 2], [0, 1, 2, 3], [4], [0, 1, 2, 3, 4, 5], [0, 1, 2, 3, 4, 5, 6], [7], [7, 8], [9], [10], [11], [0, 1, 2, 3, 4, 5, 6, 7, 8, 9, 10, 11, 12]] [] (FrG.keep (ks := [0, 1, 2, 3, 4, 14]) H19n (by kernel_rfl)) (fun _ _ h => by cases h) (by kernel_rfl) hS (by kernel_rfl) rfl rfl (by kernel_rfl) (by kernel_rfl) (by kernel_rfl) (gd_none (by kernel_rfl) _ _) ?hloc_yg20n ?hstep_yg20n fun _ wd21n yg20n H22n hv hS => ?hK_yg20n
 case hloc_yg20n => exact ⟨(fun _ _ _ _ => ⟨rfl, rfl⟩), (fun _ _ _ _ => ⟨rfl, rfl⟩), (fun _ _ _ _ => ⟨rfl, rfl⟩), (fun _ _ _ _ => ⟨rfl, rfl⟩), (fun _ _ _ _ => ⟨rfl, rfl⟩), (fun _ _ _ _ => ⟨rfl, rfl⟩), (fun _ _ _ _ => ⟨rfl, rfl⟩), (fun _ _ _ _ => ⟨rfl, rfl⟩), (fun _ _ _ _ => ⟨rfl, rfl⟩), (fun _ _ _ _ => ⟨rfl, rfl⟩), (fun _ _ _ _ => ⟨rfl, rfl⟩), (fun _ _ _ _ => ⟨rfl, rfl⟩), (fun _ _ _ _ => ⟨rfl, rfl⟩), trivial⟩
 case hstep_yg20n =>
  refine ⟨?_, ?_, ?_, ?_, ?_, ?_, ?_, ?_, ?_, ?_, ?_, ?_, ?_, trivial⟩
  ·intro o ho a w yg20n M Hb hv hO hS
   obtain rfl := Option.some.inj ho
   exact Stp.mono (o_evs [] (vP b3m) none [] Hb rfl (by kernel_rfl) (fun q e => by cases e)) fun _ _ hq => ⟨gL [], fun _ _ => hq.1, (hS.below hq.2.below).sel [0, 1, 2, 3, 4] rfl⟩
  ·intro o ho a w yg20n M Hb hv hO hS
   obtain rfl := Option.some.inj ho
   exact Stp.mono (o_evs [] (vP b3m) none [] ((Hb).add (hv 0 (by decide) (by decide) 212 rfl)) rfl (by kernel_rfl) (fun q e => by cases e)) fun _ _ hq => ⟨gL [], fun _ _ => hq.1, (hS.below hq.2.below).sel [0, 1, 2, 3, 4] rfl⟩
  ·intro o ho a w yg20n M Hb hv hO hS
   obtain rfl := Option.some.inj ho
   exact Stp.mono (o_evs [] (vA b3m 4) none [] ((Hb).add (hv 1 (by decide) (by decide) 213 rfl)) rfl (by kernel_rfl) (fun q e => by cases e)) fun _ _ hq => ⟨gL [], fun _ _ => hq.1, (hS.below hq.2.below).sel [0, 1, 2, 3, 4] rfl⟩
  ·intro o ho a w yg20n M Hb hv hO hS
   obtain rfl := Option.some.inj ho
   exact Stp.mono (o_evs [(.slice (some ⟨b146m, 0, none⟩) 4 4)] (.slice (some ⟨b146m, 0, none⟩) 4 4) (some (fun wz => V.at1 ⟨b3m, 4, none⟩ (.slice (some ⟨b146m, 0, none⟩) 4 4) wz)) [] ((Hb).add (hv 2 (by decide) (by decide) 214 rfl)) rfl (by kernel_rfl) (fun q e => by cases e; exact ((hS.mix 4 rfl).1.at1 rfl))) fun _ _ hq => ⟨gL [], fun _ _ => hq.1, (hS.below hq.2.below).sel [0, 1, 2, 3, 4] rfl⟩
  ·intro o ho a w yg20n M Hb hv hO hS
   obtain rfl := Option.some.inj ho
   exact Stp.mono (o_evs [] (vU 2) none [] Hb rfl (by kernel_rfl) (fun q e => by cases e)) fun _ _ hq => ⟨gL [], fun _ _ => hq.1, (hS.below hq.2.below).sel [] rfl⟩
  ·intro o ho a w yg20n M Hb hv hO hS
   obtain rfl := Option.some.inj ho
   exact Stp.mono (o_evs [] (vA b146m 2) (some (fun _ => oka (some ⟨b146m, 0, none⟩) ∧ 0 ≤ (2 : Int) ∧ (2 : Int) < 4)) [] (((Hb).add (hv 3 (by decide) (by decide) 215 rfl)).add (hv 4 (by decide) (by decide) 216 rfl)) rfl (by kernel_rfl) (fun q e => by cases e; exact (⟨rfl, (show 0 ≤ (2 : Int) ∧ (2 : Int) < 4 from by decide)⟩))) fun _ _ hq => ⟨gL [], fun _ _ => hq.1, (hS.below hq.2.below).sel [0, 1, 2, 3] rfl⟩
  ·intro o ho a w yg20n M Hb hv hO hS
   obtain rfl := Option.some.inj ho
   exact Stp.mono (o_evs [(vP b13n)] (vP b13n) (some (fun wz => V.at1 ⟨b146m, 2, none⟩ (vP b13n) wz)) [] ((Hb).add (hv 5 (by decide) (by decide) 217 rfl)) rfl (by kernel_rfl) (fun q e => by cases e; exact ((hS.bk 0 rfl).at1 rfl))) fun _ _ hq => ⟨gL [], fun _ _ => hq.1, (hS.below hq.2.below).sel [0, 1, 2, 3] rfl⟩
  ·intro o ho a w yg20n M Hb hv hO hS
   obtain rfl := Option.some.inj ho
   exact Stp.mono (o_evs [] (vS [12]) none [] Hb rfl (by kernel_rfl) (fun q e => by cases e)) fun _ _ hq => ⟨gL [], fun _ _ => hq.1, (hS.below hq.2.below).sel [] rfl⟩
  ·intro o ho a w yg20n M Hb hv hO hS
   obtain rfl := Option.some.inj ho
   exact Stp.mono (o_evs [] (vN) (some (fun _ => 0 ≤ (1 : Int) ∧ (1 : Int) ≤ ln ([12] : Str))) [] ((Hb).add (hv 7 (by decide) (by decide) 219 rfl)) rfl (by kernel_rfl) (fun q e => by cases e; exact (show 0 ≤ (1 : Int) ∧ (1 : Int) ≤ ln ([12] : Str) from by decide))) fun _ _ hq => ⟨gL [], fun _ _ => hq.1, (hS.below hq.2.below).sel [] rfl⟩
  ·intro o ho a w yg20n M Hb hv hO hS
   obtain rfl := Option.some.inj ho
   exact Stp.mono (o_evs [] (vS [10]) none [] Hb rfl (by kernel_rfl) (fun q e => by cases e)) fun _ _ hq => ⟨gL [], fun _ _ => hq.1, (hS.below hq.2.below).sel [] rfl⟩
  ·intro o ho a w yg20n M Hb hv hO hS
   obtain rfl := Option.some.inj ho
   exact Stp.mono (o_evs [] (vI 4) none [] Hb rfl (by kernel_rfl) (fun q e => by cases e)) fun _ _ hq => ⟨gL [], fun _ _ => hq.1, (hS.below hq.2.below).sel [] rfl⟩
  ·intro o ho a w yg20n M Hb hv hO hS
   obtain rfl := Option.some.inj ho
   exact Stp.mono (o_evs [] (vP b3m) none [] Hb rfl (by kernel_rfl) (fun q e => by cases e)) fun _ _ hq => ⟨gL [], fun _ _ => hq.1, (hS.below hq.2.below).sel [0, 1, 2, 3, 4] rfl⟩
  ·intro o ho a w yg20n M Hb hv hO hS0
   obtain rfl := Option.some.inj ho
   have H : Fr 241 ([(223, [], vP b3m), (222, [], vI 4), (221, [], vS [10]), (220, [], vN), (218, [], vP b13n)] ++ [(0, [], vP b3m), (1, [], vS [12]), (2, [], vS [10]), (3, [], vI 4), (4, [], vP b3m), (14, [], vU 2)]) _ := (((((Hb).add (hv 6 (by decide) (by decide) 218 rfl)).add (hv 8 (by decide) (by decide) 220 rfl)).add (hv 9 (by decide) (by decide) 221 rfl)).add (hv 10 (by decide) (by decide) 222 rfl)).add (hv 11 (by decide) (by decide) 223 rfl)
   obtain ⟨X, hX⟩ : ∃ X, X = fpl [eB b146m [vQ, vQ, vP b13n, vP b164m], eB b13n zN, eB b164m [vS [10], vI 6, vS [10], vP b163m, vO], eB b163m [vS [10], vI 8, vN, vQ, vO], Ent.mix .u8 b3m [vN, vI 0, vN, vQ, .slice (some ⟨b146m, 0, none⟩) 4 4, vI 4] gmap (256 : Int)] := ⟨_, rfl⟩
   have hS : SH M X w [eB b146m [vQ, vQ, vP b13n, vP b164m], eB b13n zN, eB b164m [vS [10], vI 6, vS [10], vP b163m, vO], eB b163m [vS [10], vI 8, vN, vQ, vO], Ent.mix .u8 b3m [vN, vI 0, vN, vQ, .slice (some ⟨b146m, 0, none⟩) 4 4, vI 4] gmap (256 : Int)] w := by rw [hX]; exact hS0
   have hd := hS.hand [0, 1, 2, 3, 4] [] rfl rfl
   refine Stp.mono (o_callx H rfl rfl (strings_trieNode_add_cs7 _ _ hd)) ?_
   rintro v w2 hq
   obtain ⟨rfl, hq⟩ := hq
   replace hS : SH M X w [eB b13n [vS [10], vI 4, vN, vQ, vO], eB b146m [vQ, vQ, vP b13n, vP b164m], eB b164m [vS [10], vI 6, vS [10], vP b163m, vO], eB b163m [vS [10], vI 8, vN, vQ, vO], Ent.mix .u8 b3m [vN, vI 0, vN, vQ, .slice (some ⟨b146m, 0, none⟩) 4 4, vI 4] gmap (256 : Int)] _ := hS.join [0, 1, 2, 3, 4] [] rfl rfl hq
   clear hq
   rw [hX] at hS
   exact ⟨gL [], fun _ _ => rfl, hS.sel [0, 1, 2, 3, 4] rfl⟩
 have H23n : Fr 241 [] _ := (FrG.keep (ks := []) H22n (by kernel_rfl))
 replace hS : SH M X w [eB b13n [vS [10], vI 4, vN, vQ, vO], eB b146m [vQ, vQ, vP b13n, vP b164m], eB b164m [vS [10], vI 6, vS [10], vP b163m, vO], eB b163m [vS [10], vI 8, vN, vQ, vO], Ent.mix .u8 b3m [vN, vI 0, vN, vQ, .slice (some ⟨b146m, 0, none⟩) 4 4, vI 4] gmap (256 : Int)] _ := hS
 clear hv H22n
 try dsimp only
 exact retR0 H23n rfl ⟨_, rfl, b13n, rfl, (hS.sel [0, 1, 2, 3, 4] rfl)⟩

theorem strings_trieNode_add_cs9 {b3m : Nat} {b146m : Nat} {b163m : Nat} {b164m : Nat} {b182m : Nat} {b13n : Nat} (M : Av) (w : World) (hS : S0 M [eB b146m [vP b13n, vQ, vP b182m, vP b164m], eB b13n zN, eB b182m [vS [10], vI 4, vN, vQ, vO], eB b164m [vS [10], vI 6, vS [10], vP b163m, vO], eB b163m [vS [10], vI 8, vN, vQ, vO], Ent.mix .u8 b3m [vN, vI 0, vN, vQ, .slice (some ⟨b146m, 0, none⟩) 4 4, vI 4] gmap (256 : Int)] w) : DoesX Tryz.prog 130 ⟨[vP b13n, vN, vS [239, 191, 189], vI 2, vP b3m]⟩ w (fun v w' => v = .tuple ⟨[]⟩ ∧ SH M (fpl [eB b146m [vP b13n, vQ, vP b182m, vP b164m], eB b13n zN, eB b182m [vS [10], vI 4, vN, vQ, vO], eB b164m [vS [10], vI 6, vS [10], vP b163m, vO], eB b163m [vS [10], vI 8, vN, vQ, vO], Ent.mix .u8 b3m [vN, vI 0, vN, vQ, .slice (some ⟨b146m, 0, none⟩) 4 4, vI 4] gmap (256 : Int)]) w [eB b13n [vS [239, 191, 189], vI 2, vN, vQ, vO], eB b146m [vP b13n, vQ, vP b182m, vP b164m], eB b182m [vS [10], vI 4, vN, vQ, vO], eB b164m [vS [10], vI 6, vS [10], vP b163m, vO], eB b163m [vS [10], vI 8, vN, vQ, vO], Ent.mix .u8 b3m [vN, vI 0, vN, vQ, .slice (some ⟨b146m, 0, none⟩) 4 4, vI 4] gmap (256 : Int)] w') := by
 refine ⟨Tryz.call130 _, ?_⟩
 have hS0 : SH M (fpl [eB b146m [vP b13n, vQ, vP b182m, vP b164m], eB b13n zN, eB b182m [vS [10], vI 4, vN, vQ, vO], eB b164m [vS [10], vI 6, vS [10], vP b163m, vO], eB b163m [vS [10], vI 8, vN, vQ, vO], Ent.mix .u8 b3m [vN, vI 0, vN, vQ, .slice (some ⟨b146m, 0, none⟩) 4 4, vI 4] gmap (256 : Int)]) w [eB b146m [vP b13n, vQ, vP b182m, vP b164m], eB b13n zN, eB b182m [vS [10], vI 4, vN, vQ, vO], eB b164m [vS [10], vI 6, vS [10], vP b163m, vO], eB b163m [vS [10], vI 8, vN, vQ, vO], Ent.mix .u8 b3m [vN, vI 0, vN, vQ, .slice (some ⟨b146m, 0, none⟩) 4 4, vI 4] gmap (256 : Int)] w := hS
 generalize hX : fpl [eB b146m [vP b13n, vQ, vP b182m, vP b164m], eB b13n zN, eB b182m [vS [10], vI 4, vN, vQ, vO], eB b164m [vS [10], vI 6, vS [10], vP b163m, vO], eB b163m [vS [10], vI 8, vN, vQ, vO], Ent.mix .u8 b3m [vN, vI 0, vN, vQ, .slice (some ⟨b146m, 0, none⟩) 4 4, vI 4] gmap (256 : Int)] = X at hS0 ⊢
 clear hS hX
 have hS := hS0
 clear hS0
 refine calls_entryP Tryz.func130 rfl Tryz.ntmps130 rfl fun _ H => ?_
 refine w_seq ?_
 refine s_reg [] [0, 1, 2, 3, 4, 16] [(0, [], vP b13n), (1, [], vN), (2, [], vS [239, 191, 189]), (3, [], vI 2), (4, [], vP b3m), (16, [], vT)] [] H (by kernel_rfl) trivial fun _ wd1o H2o hb => ?_
 clear H
 replace hS := hS.below hb
 clear hb
 refine w_if H2o rfl (fun _ => ?_) (fun hc => by cases hc)
 refine w_seq ?_
 refine s_reg [(vI 0)] [0, 2, 3, 21] [(0, [], vP b13n), (2, [], vS [239, 191, 189]), (3, [], vI 2), (21, [], vT)] [fun wz => V.at1 ⟨b13n, 1, none⟩ (vI 0) wz] H2o (by kernel_rfl) ⟨((hS.bk 1 rfl).at1 rfl), trivial⟩ fun _ wd3o H4o hb => ?_
 clear H2o
 replace hS := hS.below hb
 clear hb
 refine w_if H4o rfl (fun _ => ?_) (fun hc => by cases hc)
 refine w_seq ?_
 refine wl_start ?_
 refine wl_batch 0 4 [] [0, 3, 23, 25] [(0, [], vP b13n), (3, [], vI 2), (23, [], vS [239, 191, 189]), (25, [], vP b13n)] [] H4o (by decide) (by kernel_rfl) trivial fun _ wd5o H6o hb => ?_
 clear H4o
 replace hS := hS.below hb
 clear hb
 have hd := hS.hand [1] [0, 2, 3, 4, 5] rfl rfl
 refine m_stp0 [0, 3] [(0, [], vP b13n), (3, [], vI 2)] H6o rfl rfl rfl (o_store [vS [239, 191, 189], vI 0, vN, vQ, vO] H6o hd rfl rfl (by kernel_rfl) rfl rfl rfl) rfl fun _ wd7o H8o hq => ?_
 clear H6o hd
 obtain ⟨_, hq⟩ := hq
 replace hS : SH M X w [eB b13n [vS [239, 191, 189], vI 0, vN, vQ, vO], eB b146m [vP b13n, vQ, vP b182m, vP b164m], eB b182m [vS [10], vI 4, vN, vQ, vO], eB b164m [vS [10], vI 6, vS [10], vP b163m, vO], eB b163m [vS [10], vI 8, vN, vQ, vO], Ent.mix .u8 b3m [vN, vI 0, vN, vQ, .slice (some ⟨b146m, 0, none⟩) 4 4, vI 4] gmap (256 : Int)] _ := hS.join [1] [0, 2, 3, 4, 5] rfl rfl hq
 clear hq
 refine wl_end rfl ?_
 refine wl_start ?_
 refine wl_batch 0 4 [] [27, 29] [(27, [], vI 2), (29, [], vA b13n 1)] [] H8o (by decide) (by kernel_rfl) trivial fun _ wd9o H10o hb => ?_
 clear H8o
 replace hS := hS.below hb
 clear hb
 have hd := hS.hand [0] [1, 2, 3, 4, 5] rfl rfl
 refine m_stp0 [] [] H10o rfl rfl rfl (o_store [vS [239, 191, 189], vI 2, vN, vQ, vO] H10o hd rfl rfl (by kernel_rfl) rfl rfl rfl) rfl fun _ wd11o H12o hq => ?_
 clear H10o hd
 obtain ⟨_, hq⟩ := hq
 replace hS : SH M X w [eB b13n [vS [239, 191, 189], vI 2, vN, vQ, vO], eB b146m [vP b13n, vQ, vP b182m, vP b164m], eB b182m [vS [10], vI 4, vN, vQ, vO], eB b164m [vS [10], vI 6, vS [10], vP b163m, vO], eB b163m [vS [10], vI 8, vN, vQ, vO], Ent.mix .u8 b3m [vN, vI 0, vN, vQ, .slice (some ⟨b146m, 0, none⟩) 4 4, vI 4] gmap (256 : Int)] _ := hS.join [0] [1, 2, 3, 4, 5] rfl rfl hq
 clear hq
 refine wl_end rfl ?_
 refine w_ret ?_
 try dsimp only
 exact retR0 H12o rfl ⟨_, rfl, rfl, (hS.sel [0, 1, 2, 3, 4, 5] rfl)⟩

theorem strings_trieNode_add_cs8 {b3m : Nat} {b146m : Nat} {b163m : Nat} {b164m : Nat} {b182m : Nat} (M : Av) (w : World) (hS : S0 M [eB b182m [vS [10], vI 4, vN, vQ, vO], eB b146m [vQ, vQ, vP b182m, vP b164m], eB b164m [vS [10], vI 6, vS [10], vP b163m, vO], eB b163m [vS [10], vI 8, vN, vQ, vO], Ent.mix .u8 b3m [vN, vI 0, vN, vQ, .slice (some ⟨b146m, 0, none⟩) 4 4, vI 4] gmap (256 : Int)] w) : DoesX Tryz.prog 130 ⟨[vP b3m, vS [0], vS [239, 191, 189], vI 2, vP b3m]⟩ w (fun v w' => ∃ (b13n : Nat), v = .tuple ⟨[]⟩ ∧ SH M (fpl [eB b182m [vS [10], vI 4, vN, vQ, vO], eB b146m [vQ, vQ, vP b182m, vP b164m], eB b164m [vS [10], vI 6, vS [10], vP b163m, vO], eB b163m [vS [10], vI 8, vN, vQ, vO], Ent.mix .u8 b3m [vN, vI 0, vN, vQ, .slice (some ⟨b146m, 0, none⟩) 4 4, vI 4] gmap (256 : Int)]) w [eB b13n [vS [239, 191, 189], vI 2, vN, vQ, vO], eB b146m [vP b13n, vQ, vP b182m, vP b164m], eB b182m [vS [10], vI 4, vN, vQ, vO], eB b164m [vS [10], vI 6, vS [10], vP b163m, vO], eB b163m [vS [10], vI 8, vN, vQ, vO], Ent.mix .u8 b3m [vN, vI 0, vN, vQ, .slice (some ⟨b146m, 0, none⟩) 4 4, vI 4] gmap (256 : Int)] w') := by
 refine ⟨Tryz.call130 _, ?_⟩
 have hS0 : SH M (fpl [eB b182m [vS [10], vI 4, vN, vQ, vO], eB b146m [vQ, vQ, vP b182m, vP b164m], eB b164m [vS [10], vI 6, vS [10], vP b163m, vO], eB b163m [vS [10], vI 8, vN, vQ, vO], Ent.mix .u8 b3m [vN, vI 0, vN, vQ, .slice (some ⟨b146m, 0, none⟩) 4 4, vI 4] gmap (256 : Int)]) w [eB b182m [vS [10], vI 4, vN, vQ, vO], eB b146m [vQ, vQ, vP b182m, vP b164m], eB b164m [vS [10], vI 6, vS [10], vP b163m, vO], eB b163m [vS [10], vI 8, vN, vQ, vO], Ent.mix .u8 b3m [vN, vI 0, vN, vQ, .slice (some ⟨b146m, 0, none⟩) 4 4, vI 4] gmap (256 : Int)] w := hS
 generalize hX : fpl [eB b182m [vS [10], vI 4, vN, vQ, vO], eB b146m [vQ, vQ, vP b182m, vP b164m], eB b164m [vS [10], vI 6, vS [10], vP b163m, vO], eB b163m [vS [10], vI 8, vN, vQ, vO], Ent.mix .u8 b3m [vN, vI 0, vN, vQ, .slice (some ⟨b146m, 0, none⟩) 4 4, vI 4] gmap (256 : Int)] = X at hS0 ⊢
 clear hS hX
 have hS := hS0
 clear hS0
 refine calls_entryP Tryz.func130 rfl Tryz.ntmps130 rfl fun _ H => ?_
 refine w_seq ?_
 refine s_reg [] [0, 1, 2, 3, 4, 16] [(0, [], vP b3m), (1, [], vS [0]), (2, [], vS [239, 191, 189]), (3, [], vI 2), (4, [], vP b3m), (16, [], vF)] [] H (by kernel_rfl) trivial fun _ wd1n H2n hb => ?_
 clear H
 replace hS := hS.below hb
 clear hb
 refine w_if H2n rfl (fun hc => by cases hc) (fun _ => ?_)
 refine w_skip ?_
 refine s_reg [(vN)] [0, 1, 2, 3, 4, 34] [(0, [], vP b3m), (1, [], vS [0]), (2, [], vS [239, 191, 189]), (3, [], vI 2), (4, [], vP b3m), (34, [], vF)] [fun wz => V.at1 ⟨b3m, 2, none⟩ (vN) wz] H2n (by kernel_rfl) ⟨((hS.mix 4 rfl).1.at1 rfl), trivial⟩ fun _ wd3n H4n hb => ?_
 clear H2n
 replace hS := hS.below hb
 clear hb
 refine w_if H4n rfl (fun hc => by cases hc) (fun _ => ?_)
 refine s_reg [(.slice (some ⟨b146m, 0, none⟩) 4 4)] [0, 1, 2, 3, 4, 189] [(0, [], vP b3m), (1, [], vS [0]), (2, [], vS [239, 191, 189]), (3, [], vI 2), (4, [], vP b3m), (189, [], vT)] [fun wz => V.at1 ⟨b3m, 4, none⟩ (.slice (some ⟨b146m, 0, none⟩) 4 4) wz] H4n (by kernel_rfl) ⟨((hS.mix 4 rfl).1.at1 rfl), trivial⟩ fun _ wd5n H6n hb => ?_
 clear H4n
 replace hS := hS.below hb
 clear hb
 refine w_if H6n rfl (fun _ => ?_) (fun hc => by cases hc)
 refine s_draw [(vU 0)] [0, 1, 2, 3, 4, 14] [(0, [], vP b3m), (1, [], vS [0]), (2, [], vS [239, 191, 189]), (3, [], vI 2), (4, [], vP b3m), (14, [], vU 0)] [fun _ => 0 ≤ (0 : Int) ∧ (0 : Int) < ln ([0] : Str), fun _ => 0 ≤ (0 : Int) ∧ (0 : Int) < (256 : Int), fun wz => V.at1 ⟨b3m, 6 + ((0 : Int)).toNat * 1, none⟩ (vU 0) wz] H6n (by kernel_rfl) (by kernel_rfl) (by kernel_rfl) ⟨(show 0 ≤ (0 : Int) ∧ (0 : Int) < ln ([0] : Str) from by decide), (show 0 ≤ (0 : Int) ∧ (0 : Int) < (256 : Int) from by decide), (Mix.ixn (hS.mix 4 rfl) rfl (show 0 ≤ (0 : Int) ∧ (0 : Int) < (256 : Int) from by decide)), trivial⟩ fun _ wd7n H8n hb => ?_
 clear H6n
 replace hS := hS.below hb
 clear hb
 refine w_seq ?_
 refine s_reg [(.slice (some ⟨b146m, 0, none⟩) 4 4), (vQ)] [0, 1, 2, 3, 4, 14, 204] [(0, [], vP b3m), (1, [], vS [0]), (2, [], vS [239, 191, 189]), (3, [], vI 2), (4, [], vP b3m), (14, [], vU 0), (204, [], vT)] [fun wz => V.at1 ⟨b3m, 4, none⟩ (.slice (some ⟨b146m, 0, none⟩) 4 4) wz, fun _ => oka (some ⟨b146m, 0, none⟩) ∧ 0 ≤ (0 : Int) ∧ (0 : Int) < 4, fun wz => V.at1 ⟨b146m, 0, none⟩ (vQ) wz] H8n (by kernel_rfl) ⟨((hS.mix 4 rfl).1.at1 rfl), (⟨rfl, (show 0 ≤ (0 : Int) ∧ (0 : Int) < 4 from by decide)⟩), ((hS.bk 1 rfl).at1 rfl), trivial⟩ fun _ wd9n H10n hb => ?_
 clear H8n
 replace hS := hS.below hb
 clear hb
 refine w_if H10n rfl (fun _ => ?_) (fun hc => by cases hc)
 refine wl_start ?_
 refine wl_batch 0 5 [(.slice (some ⟨b146m, 0, none⟩) 4 4)] [0, 1, 2, 3, 4, 14, 208, 209] [(0, [], vP b3m), (1, [], vS [0]), (2, [], vS [239, 191, 189]), (3, [], vI 2), (4, [], vP b3m), (14, [], vU 0), (208, [], .slice (some ⟨b146m, 0, none⟩) 4 4), (209, [], vU 0)] [fun wz => V.at1 ⟨b3m, 4, none⟩ (.slice (some ⟨b146m, 0, none⟩) 4 4) wz] H10n (by decide) (by kernel_rfl) ⟨((hS.mix 4 rfl).1.at1 rfl), trivial⟩ fun _ wd11n H12n hb => ?_
 clear H10n
 replace hS := hS.below hb
 clear hb
 have hd := hS.hand [] [0, 1, 2, 3, 4] rfl rfl
 refine m_stp [210, 0, 1, 2, 3, 4, 14, 208, 209] [(0, [], vP b3m), (1, [], vS [0]), (2, [], vS [239, 191, 189]), (3, [], vI 2), (4, [], vP b3m), (14, [], vU 0), (208, [], .slice (some ⟨b146m, 0, none⟩) 4 4), (209, [], vU 0)] H12n rfl rfl rfl rfl (o_alloc zN (z := .agg ⟨zN⟩) hd (by kernel_rfl) rfl) (fun _ => rfl) fun _ wd14n v H15n hq => ?_
 clear H12n hd
 obtain ⟨b13n, rfl, hq⟩ := hq
 replace hS : SH M X w [eB b13n zN, eB b182m [vS [10], vI 4, vN, vQ, vO], eB b146m [vQ, vQ, vP b182m, vP b164m], eB b164m [vS [10], vI 6, vS [10], vP b163m, vO], eB b163m [vS [10], vI 8, vN, vQ, vO], Ent.mix .u8 b3m [vN, vI 0, vN, vQ, .slice (some ⟨b146m, 0, none⟩) 4 4, vI 4] gmap (256 : Int)] _ := hS.join [] [0, 1, 2, 3, 4] rfl rfl hq
 clear hq
 refine wl_batch 6 7 [] [0, 1, 2, 3, 4, 14, 210, 211] [(0, [], vP b3m), (1, [], vS [0]), (2, [], vS [239, 191, 189]), (3, [], vI 2), (4, [], vP b3m), (14, [], vU 0), (210, [], vP b13n), (211, [], vP b146m)] [fun _ => oka (some ⟨b146m, 0, none⟩) ∧ 0 ≤ (0 : Int) ∧ (0 : Int) < 4] H15n (by decide) (by kernel_rfl) ⟨(⟨rfl, (show 0 ≤ (0 : Int) ∧ (0 : Int) < 4 from by decide)⟩), trivial⟩ fun _ wd16n H17n hb => ?_
 clear H15n
 replace hS := hS.below hb
 clear hb
 have hd := hS.hand [2] [0, 1, 3, 4, 5] rfl rfl
 refine m_stp0 [0, 1, 2, 3, 4, 14] [(0, [], vP b3m), (1, [], vS [0]), (2, [], vS [239, 191, 189]), (3, [], vI 2), (4, [], vP b3m), (14, [], vU 0)] H17n rfl rfl rfl (o_store [vP b13n, vQ, vP b182m, vP b164m] H17n hd rfl rfl (by kernel_rfl) rfl rfl rfl) rfl fun _ wd18n H19n hq => ?_
 clear H17n hd
 obtain ⟨_, hq⟩ := hq
 replace hS : SH M X w [eB b146m [vP b13n, vQ, vP b182m, vP b164m], eB b13n zN, eB b182m [vS [10], vI 4, vN, vQ, vO], eB b164m [vS [10], vI 6, vS [10], vP b163m, vO], eB b163m [vS [10], vI 8, vN, vQ, vO], Ent.mix .u8 b3m [vN, vI 0, vN, vQ, .slice (some ⟨b146m, 0, none⟩) 4 4, vI 4] gmap (256 : Int)] _ := hS.join [2] [0, 1, 3, 4, 5] rfl rfl hq
 clear hq
 refine wl_end rfl ?_
 refine w_drawS (base := [(0, [], vP b3m), (1, [], vS [0]), (2, [], vS [239, 191, 189]), (3, [], vI 2), (4, [], vP b3m), (14, [], vU 0)]) (L := [eB b146m [vP b13n, vQ, vP b182m, vP b164m], eB b13n zN, eB b182m [vS [10], vI 4, vN, vQ, vO], eB b164m [vS [10], vI 6, vS [10], vP b163m, vO], eB b163m [vS [10], vI 8, vN, vQ, vO], Ent.mix .u8 b3m [vN, vI 0, vN, vQ, .slice (some ⟨b146m, 0, none⟩) 4 4, vI 4] gmap (256 : Int)]) 13 6 (fun yg20n => [vP b3m, vP b3m, vA b3m 4, .slice (some ⟨b146m, 0, none⟩) 4 4, vU 0, vP b146m, vP b13n, vS [0], vN, vS [239, 191, 189], vI 2, vP b3m, .tuple ⟨[]⟩]) (fun yg20n => [[], [], [], [], [], [], [], [], [], [], [], [], [eB b13n [vS [239, 191, 189], vI 2, vN, vQ, vO]]]) [[13, 14, 15, 16, 17, 18], [13, 14, 15, 16, 17, 18], [13, 14, 15, 16, 17, 18], [13, 14, 15, 16, 17, 18], [], [13, 14, 15, 16, 17], [13, 14, 15, 16, 17], [], [], [], [], [13, 14, 15, 16, 17, 18], [13, 14, 15, 16, 17, 18]] [[], [], [], [], [], [], [], [], [], [], [], [], [14]] [[0], [0, 1], [0, 1, 2], [0, 1, 2, 3], [4], [0, 1, 2, 3, 4, 5], [0, 1, 2, 3, 4, 5, 6], [7], [7, 8], [9], [10], [11], [0, 1, 2, 3, 4, 5, 6, 7, 8, 9, 10, 11, 12]] [] (FrG.keep (ks := [0, 1, 2, 3, 4, 14]) H19n (by kernel_rfl)) (fun _ _ h => by cases h) (by kernel_rfl) hS (by kernel_rfl) rfl rfl (by kernel_rfl) (by kernel_rfl) (by kernel_rfl) (gd_none (by kernel_rfl) _ _) ?hloc_yg20n ?hstep_yg20n fun _ wd21n yg20n H22n hv hS => ?hK_yg20n
 case hloc_yg20n => exact ⟨(fun _ _ _ _ => ⟨rfl, rfl⟩), (fun _ _ _ _ => ⟨rfl, rfl⟩), (fun _ _ _ _ => ⟨rfl, rfl⟩), (fun _ _ _ _ => ⟨rfl, rfl⟩), (fun _ _ _ _ => ⟨rfl, rfl⟩), (fun _ _ _ _ => ⟨rfl, rfl⟩), (fun _ _ _ _ => ⟨rfl, rfl⟩), (fun _ _ _ _ => ⟨rfl, rfl⟩), (fun _ _ _ _ => ⟨rfl, rfl⟩), (fun _ _ _ _ => ⟨rfl, rfl⟩), (fun _ _ _ _ => ⟨rfl, rfl⟩), (fun _ _ _ _ => ⟨rfl, rfl⟩), (fun _ _ _ _ => ⟨rfl, rfl⟩), trivial⟩
 case hstep_yg20n =>
  refine ⟨?_, ?_, ?_, ?_, ?_, ?_, ?_, ?_, ?_, ?_, ?_, ?_, ?_, trivial⟩
  ·intro o ho a w yg20n M Hb hv hO hS
   obtain rfl := Option.some.inj ho
   exact Stp.mono (o_evs [] (vP b3m) none [] Hb rfl (by kernel_rfl) (fun q e => by cases e)) fun _ _ hq => ⟨gL [], fun _ _ => hq.1, (hS.below hq.2.below).sel [0, 1, 2, 3, 4, 5] rfl⟩
  ·intro o ho a w yg20n M Hb hv hO hS
   obtain rfl := Option.some.inj ho
   exact Stp.mono (o_evs [] (vP b3m) none [] ((Hb).add (hv 0 (by decide) (by decide) 212 rfl)) rfl (by kernel_rfl) (fun q e => by cases e)) fun _ _ hq => ⟨gL [], fun _ _ => hq.1, (hS.below hq.2.below).sel [0, 1, 2, 3, 4, 5] rfl⟩
  ·intro o ho a w yg20n M Hb hv hO hS
   obtain rfl := Option.some.inj ho
   exact Stp.mono (o_evs [] (vA b3m 4) none [] ((Hb).add (hv 1 (by decide) (by decide) 213 rfl)) rfl (by kernel_rfl) (fun q e => by cases e)) fun _ _ hq => ⟨gL [], fun _ _ => hq.1, (hS.below hq.2.below).sel [0, 1, 2, 3, 4, 5] rfl⟩
  ·intro o ho a w yg20n M Hb hv hO hS
   obtain rfl := Option.some.inj ho
   exact Stp.mono (o_evs [(.slice (some ⟨b146m, 0, none⟩) 4 4)] (.slice (some ⟨b146m, 0, none⟩) 4 4) (some (fun wz => V.at1 ⟨b3m, 4, none⟩ (.slice (some ⟨b146m, 0, none⟩) 4 4) wz)) [] ((Hb).add (hv 2 (by decide) (by decide) 214 rfl)) rfl (by kernel_rfl) (fun q e => by cases e; exact ((hS.mix 5 rfl).1.at1 rfl))) fun _ _ hq => ⟨gL [], fun _ _ => hq.1, (hS.below hq.2.below).sel [0, 1, 2, 3, 4, 5] rfl⟩
  ·intro o ho a w yg20n M Hb hv hO hS
   obtain rfl := Option.some.inj ho
   exact Stp.mono (o_evs [] (vU 0) none [] Hb rfl (by kernel_rfl) (fun q e => by cases e)) fun _ _ hq => ⟨gL [], fun _ _ => hq.1, (hS.below hq.2.below).sel [] rfl⟩
  ·intro o ho a w yg20n M Hb hv hO hS
   obtain rfl := Option.some.inj ho
   exact Stp.mono (o_evs [] (vP b146m) (some (fun _ => oka (some ⟨b146m, 0, none⟩) ∧ 0 ≤ (0 : Int) ∧ (0 : Int) < 4)) [] (((Hb).add (hv 3 (by decide) (by decide) 215 rfl)).add (hv 4 (by decide) (by decide) 216 rfl)) rfl (by kernel_rfl) (fun q e => by cases e; exact (⟨rfl, (show 0 ≤ (0 : Int) ∧ (0 : Int) < 4 from by decide)⟩))) fun _ _ hq => ⟨gL [], fun _ _ => hq.1, (hS.below hq.2.below).sel [0, 1, 2, 3, 4] rfl⟩
  ·intro o ho a w yg20n M Hb hv hO hS
   obtain rfl := Option.some.inj ho
   exact Stp.mono (o_evs [(vP b13n)] (vP b13n) (some (fun wz => V.at1 ⟨b146m, 0, none⟩ (vP b13n) wz)) [] ((Hb).add (hv 5 (by decide) (by decide) 217 rfl)) rfl (by kernel_rfl) (fun q e => by cases e; exact ((hS.bk 0 rfl).at1 rfl))) fun _ _ hq => ⟨gL [], fun _ _ => hq.1, (hS.below hq.2.below).sel [0, 1, 2, 3, 4] rfl⟩
  ·intro o ho a w yg20n M Hb hv hO hS
   obtain rfl := Option.some.inj ho
   exact Stp.mono (o_evs [] (vS [0]) none [] Hb rfl (by kernel_rfl) (fun q e => by cases e)) fun _ _ hq => ⟨gL [], fun _ _ => hq.1, (hS.below hq.2.below).sel [] rfl⟩
  ·intro o ho a w yg20n M Hb hv hO hS
   obtain rfl := Option.some.inj ho
   exact Stp.mono (o_evs [] (vN) (some (fun _ => 0 ≤ (1 : Int) ∧ (1 : Int) ≤ ln ([0] : Str))) [] ((Hb).add (hv 7 (by decide) (by decide) 219 rfl)) rfl (by kernel_rfl) (fun q e => by cases e; exact (show 0 ≤ (1 : Int) ∧ (1 : Int) ≤ ln ([0] : Str) from by decide))) fun _ _ hq => ⟨gL [], fun _ _ => hq.1, (hS.below hq.2.below).sel [] rfl⟩
  ·intro o ho a w yg20n M Hb hv hO hS
   obtain rfl := Option.some.inj ho
   exact Stp.mono (o_evs [] (vS [239, 191, 189]) none [] Hb rfl (by kernel_rfl) (fun q e => by cases e)) fun _ _ hq => ⟨gL [], fun _ _ => hq.1, (hS.below hq.2.below).sel [] rfl⟩
  ·intro o ho a w yg20n M Hb hv hO hS
   obtain rfl := Option.some.inj ho
   exact Stp.mono (o_evs [] (vI 2) none [] Hb rfl (by kernel_rfl) (fun q e => by cases e)) fun _ _ hq => ⟨gL [], fun _ _ => hq.1, (hS.below hq.2.below).sel [] rfl⟩
  ·intro o ho a w yg20n M Hb hv hO hS
   obtain rfl := Option.some.inj ho
   exact Stp.mono (o_evs [] (vP b3m) none [] Hb rfl (by kernel_rfl) (fun q e => by cases e)) fun _ _ hq => ⟨gL [], fun _ _ => hq.1, (hS.below hq.2.below).sel [0, 1, 2, 3, 4, 5] rfl⟩
  ·intro o ho a w yg20n M Hb hv hO hS0
   obtain rfl := Option.some.inj ho
   have H : Fr 241 ([(223, [], vP b3m), (222, [], vI 2), (221, [], vS [239, 191, 189]), (220, [], vN), (218, [], vP b13n)] ++ [(0, [], vP b3m), (1, [], vS [0]), (2, [], vS [239, 191, 189]), (3, [], vI 2), (4, [], vP b3m), (14, [], vU 0)]) _ := (((((Hb).add (hv 6 (by decide) (by decide) 218 rfl)).add (hv 8 (by decide) (by decide) 220 rfl)).add (hv 9 (by decide) (by decide) 221 rfl)).add (hv 10 (by decide) (by decide) 222 rfl)).add (hv 11 (by decide) (by decide) 223 rfl)
   obtain ⟨X, hX⟩ : ∃ X, X = fpl [eB b146m [vP b13n, vQ, vP b182m, vP b164m], eB b13n zN, eB b182m [vS [10], vI 4, vN, vQ, vO], eB b164m [vS [10], vI 6, vS [10], vP b163m, vO], eB b163m [vS [10], vI 8, vN, vQ, vO], Ent.mix .u8 b3m [vN, vI 0, vN, vQ, .slice (some ⟨b146m, 0, none⟩) 4 4, vI 4] gmap (256 : Int)] := ⟨_, rfl⟩
   have hS : SH M X w [eB b146m [vP b13n, vQ, vP b182m, vP b164m], eB b13n zN, eB b182m [vS [10], vI 4, vN, vQ, vO], eB b164m [vS [10], vI 6, vS [10], vP b163m, vO], eB b163m [vS [10], vI 8, vN, vQ, vO], Ent.mix .u8 b3m [vN, vI 0, vN, vQ, .slice (some ⟨b146m, 0, none⟩) 4 4, vI 4] gmap (256 : Int)] w := by rw [hX]; exact hS0
   have hd := hS.hand [0, 1, 2, 3, 4, 5] [] rfl rfl
   refine Stp.mono (o_callx H rfl rfl (strings_trieNode_add_cs9 _ _ hd)) ?_
   rintro v w2 hq
   obtain ⟨rfl, hq⟩ := hq
   replace hS : SH M X w [eB b13n [vS [239, 191, 189], vI 2, vN, vQ, vO], eB b146m [vP b13n, vQ, vP b182m, vP b164m], eB b182m [vS [10], vI 4, vN, vQ, vO], eB b164m [vS [10], vI 6, vS [10], vP b163m, vO], eB b163m [vS [10], vI 8, vN, vQ, vO], Ent.mix .u8 b3m [vN, vI 0, vN, vQ, .slice (some ⟨b146m, 0, none⟩) 4 4, vI 4] gmap (256 : Int)] _ := hS.join [0, 1, 2, 3, 4, 5] [] rfl rfl hq
   clear hq
   rw [hX] at hS
   exact ⟨gL [], fun _ _ => rfl, hS.sel [0, 1, 2, 3, 4, 5] rfl⟩
 have H23n : Fr 241 [] _ := (FrG.keep (ks := []) H22n (by kernel_rfl))
 replace hS : SH M X w [eB b13n [vS [239, 191, 189], vI 2, vN, vQ, vO], eB b146m [vP b13n, vQ, vP b182m, vP b164m], eB b182m [vS [10], vI 4, vN, vQ, vO], eB b164m [vS [10], vI 6, vS [10], vP b163m, vO], eB b163m [vS [10], vI 8, vN, vQ, vO], Ent.mix .u8 b3m [vN, vI 0, vN, vQ, .slice (some ⟨b146m, 0, none⟩) 4 4, vI 4] gmap (256 : Int)] _ := hS
 clear hv H22n
 try dsimp only
 exact retR0 H23n rfl ⟨_, rfl, b13n, rfl, (hS.sel [0, 1, 2, 3, 4, 5] rfl)⟩

def strings_makeGenericReplacer_cs_L1 (m : Nat)  : Nat → Int → Int → Option (Int)
  | 0, _, _ => none
  | kk + 1, v95m, v96m =>
    cond (decide (v95m < 256)) (
    chk (0 ≤ v95m ∧ v95m < (256 : Int)) <|
    strings_makeGenericReplacer_cs_L1 m  kk (w64 (v95m + 1)) (w64 (v96m + (w64 (gi (agi (seti (seti (seti (seti (seti (List.replicate 256 (0 : Int)) (13 : Int) 1) (10 : Int) 1) (13 : Int) 1) (12 : Int) 1) (0 : Int) 1) 256) v95m))))) (
    some v96m)
def strings_makeGenericReplacer_cs_L2 (m : Nat)  : Nat → Int → Int → (List Int) → Option (List Int)
  | 0, _, _, _ => none
  | kk + 1, v115m, v116m, v117m =>
    cond (decide (v116m < 256)) (
    Option.bind (
    chk (0 ≤ v116m ∧ v116m < (256 : Int)) <|
    cond ((gi (agi (seti (seti (seti (seti (seti (List.replicate 256 (0 : Int)) (13 : Int) 1) (10 : Int) 1) (13 : Int) 1) (12 : Int) 1) (0 : Int) 1) 256) v116m) == 0) (
    lt (seti v117m v116m 4) fun q127m =>
    some (v115m, q127m)) (
    lt (seti v117m v116m v115m) fun q135m =>
    some (wu8 (v115m + 1), q135m))) fun (z120m : Int × (List Int)) =>
    strings_makeGenericReplacer_cs_L2 m  kk z120m.1 (w64 (v116m + 1)) z120m.2) (
    some v117m)
theorem strings_makeGenericReplacer_cs {gl : Gh} (M : Av) (w : World) (hS : S0 M [eO 9 tS lit8 gl] w) : DoesX Tryz.prog 106 ⟨[.slice gl.a 8 gl.c]⟩ w (fun v w' => ∃ (b3m : Nat) (b146m : Nat) (b163m : Nat) (b164m : Nat) (b182m : Nat) (b192m : Nat), v = vP b3m ∧ SH M (fpl [eO 9 tS lit8 gl]) w [eB b192m [vS [239, 191, 189], vI 2, vN, vQ, vO], eB b146m [vP b192m, vQ, vP b182m, vP b164m], eB b182m [vS [10], vI 4, vN, vQ, vO], eB b164m [vS [10], vI 6, vS [10], vP b163m, vO], eB b163m [vS [10], vI 8, vN, vQ, vO], Ent.mix .u8 b3m [vN, vI 0, vN, vQ, .slice (some ⟨b146m, 0, none⟩) 4 4, vI 4] gmap (256 : Int), eO 9 tS lit8 gl] w') := by
 refine ⟨Tryz.call106 _, ?_⟩
 have hS0 : SH M (fpl [eO 9 tS lit8 gl]) w [eO 9 tS lit8 gl] w := hS
 generalize hX : fpl [eO 9 tS lit8 gl] = X at hS0 ⊢
 clear hS hX
 have hS := hS0
 clear hS0
 refine calls_entryP Tryz.func106 rfl Tryz.ntmps106 rfl fun _ H => ?_
 refine s_reg [] [0] [(0, [], .slice gl.a 8 gl.c)] [] H (by kernel_rfl) trivial fun _ wd1m H2m hb => ?_
 clear H
 replace hS := hS.below hb
 clear hb
 refine w_seq ?_
 refine wl_start ?_
 have hd := hS.hand [] [0] rfl rfl
 refine m_stp [13, 0] [(0, [], .slice gl.a 8 gl.c)] H2m rfl rfl rfl rfl (o_allocM (z := .agg ⟨[vN, vI 0, vN, vQ, vO, vI 0] ++ (List.replicate 256 (0 : Int)).map (Value.int .u8)⟩) .u8 [vN, vI 0, vN, vQ, vO, vI 0] (List.replicate 256 (0 : Int)) (256 : Int) hd (by kernel_rfl) rfl (by kernel_rfl)) (fun _ => rfl) fun _ wd4m v H5m hq => ?_
 clear H2m hd
 obtain ⟨b3m, rfl, hq⟩ := hq
 replace hS : SH M X w [Ent.mix .u8 b3m [vN, vI 0, vN, vQ, vO, vI 0] (List.replicate 256 (0 : Int)) (256 : Int), eO 9 tS lit8 gl] _ := hS.join [] [0] rfl rfl hq
 clear hq
 refine wl_batch 1 2 [] [0, 3] [(0, [], .slice gl.a 8 gl.c), (3, [], vP b3m)] [] H5m (by decide) (by kernel_rfl) trivial fun _ wd6m H7m hb => ?_
 clear H5m
 replace hS := hS.below hb
 clear hb
 refine wl_end rfl ?_
 refine w_seq ?_
 refine s_reg [] [0, 3, 4] [(0, [], .slice gl.a 8 gl.c), (3, [], vP b3m), (4, [], vI 0)] [] H7m (by kernel_rfl) trivial fun _ wd8m H9m hb => ?_
 clear H7m
 replace hS := hS.below hb
 clear hb
 refine w_block ?_
 refine w_loopU ?_
 refine lw_round ?_
 refine w_seq ?_
 refine s_reg [] [0, 3, 4, 17] [(0, [], .slice gl.a 8 gl.c), (3, [], vP b3m), (4, [], vI 0), (17, [], vT)] [] H9m (by kernel_rfl) trivial fun _ wd10m H11m hb => ?_
 clear H9m
 replace hS := hS.below hb
 clear hb
 refine w_if H11m rfl (fun _ => ?_) (fun hc => by cases hc)
 refine w_skip ?_
 refine w_seq ?_
 refine w_block ?_
 refine s_reg [(vS [13, 10])] [0, 3, 4, 5] [(0, [], .slice gl.a 8 gl.c), (3, [], vP b3m), (4, [], vI 0), (5, [], vS [13, 10])] [fun _ => oka gl.a ∧ 0 ≤ (0 : Int) ∧ (0 : Int) < ln lit8, fun wz => V.at1 ⟨ab gl.a, ao gl.a + ((0 : Int)).toNat * 1, none⟩ (vS [13, 10]) wz] H11m (by kernel_rfl) ⟨((hS.osl 1 rfl).oki (show 0 ≤ (0 : Int) ∧ (0 : Int) < ln lit8 from by decide)), ((hS.osl 1 rfl).at1 (show 0 ≤ (0 : Int) ∧ (0 : Int) < ln lit8 from by decide) 0 rfl), trivial⟩ fun _ wd12m H13m hb => ?_
 clear H11m
 replace hS := hS.below hb
 clear hb
 refine s_reg [] [0, 3, 4, 5, 6] [(0, [], .slice gl.a 8 gl.c), (3, [], vP b3m), (4, [], vI 0), (5, [], vS [13, 10]), (6, [], vI 0)] [] H13m (by kernel_rfl) trivial fun _ wd14m H15m hb => ?_
 clear H13m
 replace hS := hS.below hb
 clear hb
 refine w_block ?_
 refine w_loopU ?_
 refine lw_round ?_
 refine w_seq ?_
 refine s_reg [] [0, 3, 4, 5, 6, 27] [(0, [], .slice gl.a 8 gl.c), (3, [], vP b3m), (4, [], vI 0), (5, [], vS [13, 10]), (6, [], vI 0), (27, [], vT)] [] H15m (by kernel_rfl) trivial fun _ wd16m H17m hb => ?_
 clear H15m
 replace hS := hS.below hb
 clear hb
 refine w_if H17m rfl (fun _ => ?_) (fun hc => by cases hc)
 refine w_skip ?_
 refine w_seq ?_
 refine w_block ?_
 refine w_drawS (base := [(0, [], .slice gl.a 8 gl.c), (3, [], vP b3m), (4, [], vI 0), (5, [], vS [13, 10]), (6, [], vI 0)]) (L := [Ent.mix .u8 b3m [vN, vI 0, vN, vQ, vO, vI 0] (List.replicate 256 (0 : Int)) (256 : Int), eO 9 tS lit8 gl]) 8 2 (fun yg18m => [vP b3m, vS [13, 10], vI 0, vU 13, vP b3m, vA b3m 6, .pointer (some ⟨b3m, 6 + ((13 : Int)).toNat * 1, none⟩), undef]) (fun yg18m => [[], [], [], [], [], [], [], [Ent.mix .u8 b3m [vN, vI 0, vN, vQ, vO, vI 0] (seti (List.replicate 256 (0 : Int)) (13 : Int) 1) (256 : Int)]]) [[8], [], [], [], [8], [8], [8], [8]] [[], [], [], [], [], [], [], [8]] [[0], [1], [2], [1, 2, 3], [0, 4], [0, 4, 5], [0, 1, 2, 3, 4, 5, 6], [0, 1, 2, 3, 4, 5, 6, 7]] [] (FrG.keep (ks := [0, 3, 4, 5, 6]) H17m (by kernel_rfl)) (fun _ _ h => by cases h) (by kernel_rfl) hS (by kernel_rfl) rfl rfl (by kernel_rfl) (by kernel_rfl) (by kernel_rfl) (gd_none (by kernel_rfl) _ _) ?hloc_yg18m ?hstep_yg18m fun _ wd19m yg18m H20m hv hS => ?hK_yg18m
 case hloc_yg18m => exact ⟨(fun _ _ _ _ => ⟨rfl, rfl⟩), (fun _ _ _ _ => ⟨rfl, rfl⟩), (fun _ _ _ _ => ⟨rfl, rfl⟩), (fun _ _ _ _ => ⟨rfl, rfl⟩), (fun _ _ _ _ => ⟨rfl, rfl⟩), (fun _ _ _ _ => ⟨rfl, rfl⟩), (fun _ _ _ _ => ⟨rfl, rfl⟩), (fun _ _ _ _ => ⟨rfl, rfl⟩), trivial⟩
 case hstep_yg18m =>
  refine ⟨?_, ?_, ?_, ?_, ?_, ?_, ?_, ?_, trivial⟩
  ·intro o ho a w yg18m M Hb hv hO hS
   obtain rfl := Option.some.inj ho
   exact Stp.mono (o_evs [] (vP b3m) none [] Hb rfl (by kernel_rfl) (fun q e => by cases e)) fun _ _ hq => ⟨gL [], fun _ _ => hq.1, (hS.below hq.2.below).sel [0] rfl⟩
  ·intro o ho a w yg18m M Hb hv hO hS
   obtain rfl := Option.some.inj ho
   exact Stp.mono (o_evs [] (vS [13, 10]) none [] Hb rfl (by kernel_rfl) (fun q e => by cases e)) fun _ _ hq => ⟨gL [], fun _ _ => hq.1, (hS.below hq.2.below).sel [] rfl⟩
  ·intro o ho a w yg18m M Hb hv hO hS
   obtain rfl := Option.some.inj ho
   exact Stp.mono (o_evs [] (vI 0) none [] Hb rfl (by kernel_rfl) (fun q e => by cases e)) fun _ _ hq => ⟨gL [], fun _ _ => hq.1, (hS.below hq.2.below).sel [] rfl⟩
  ·intro o ho a w yg18m M Hb hv hO hS
   obtain rfl := Option.some.inj ho
   exact Stp.mono (o_evs [] (vU 13) (some (fun _ => 0 ≤ (0 : Int) ∧ (0 : Int) < ln ([13, 10] : Str))) [] (((Hb).add (hv 1 (by decide) (by decide) 31 rfl)).add (hv 2 (by decide) (by decide) 32 rfl)) rfl (by kernel_rfl) (fun q e => by cases e; exact (show 0 ≤ (0 : Int) ∧ (0 : Int) < ln ([13, 10] : Str) from by decide))) fun _ _ hq => ⟨gL [], fun _ _ => hq.1, (hS.below hq.2.below).sel [] rfl⟩
  ·intro o ho a w yg18m M Hb hv hO hS
   obtain rfl := Option.some.inj ho
   exact Stp.mono (o_evs [] (vP b3m) none [] ((Hb).add (hv 0 (by decide) (by decide) 30 rfl)) rfl (by kernel_rfl) (fun q e => by cases e)) fun _ _ hq => ⟨gL [], fun _ _ => hq.1, (hS.below hq.2.below).sel [0] rfl⟩
  ·intro o ho a w yg18m M Hb hv hO hS
   obtain rfl := Option.some.inj ho
   exact Stp.mono (o_evs [] (vA b3m 6) none [] ((Hb).add (hv 4 (by decide) (by decide) 34 rfl)) rfl (by kernel_rfl) (fun q e => by cases e)) fun _ _ hq => ⟨gL [], fun _ _ => hq.1, (hS.below hq.2.below).sel [0] rfl⟩
  ·intro o ho a w yg18m M Hb hv hO hS
   obtain rfl := Option.some.inj ho
   exact Stp.mono (o_evs [] (.pointer (some ⟨b3m, 6 + ((13 : Int)).toNat * 1, none⟩)) (some (fun _ => 0 ≤ (13 : Int) ∧ (13 : Int) < (256 : Int))) [] (((Hb).add (hv 3 (by decide) (by decide) 33 rfl)).add (hv 5 (by decide) (by decide) 35 rfl)) rfl (by kernel_rfl) (fun q e => by cases e; exact (show 0 ≤ (13 : Int) ∧ (13 : Int) < (256 : Int) from by decide))) fun _ _ hq => ⟨gL [], fun _ _ => hq.1, (hS.below hq.2.below).sel [0] rfl⟩
  ·intro o ho a w yg18m M Hb hv hO hS0
   obtain rfl := Option.some.inj ho
   have H : Fr 117 ([(36, [], .pointer (some ⟨b3m, 6 + ((13 : Int)).toNat * 1, none⟩))] ++ [(0, [], .slice gl.a 8 gl.c), (3, [], vP b3m), (4, [], vI 0), (5, [], vS [13, 10]), (6, [], vI 0)]) _ := (Hb).add (hv 6 (by decide) (by decide) 36 rfl)
   obtain ⟨X, hX⟩ : ∃ X, X = fpl [Ent.mix .u8 b3m [vN, vI 0, vN, vQ, vO, vI 0] (List.replicate 256 (0 : Int)) (256 : Int)] := ⟨_, rfl⟩
   have hS : SH M X w [Ent.mix .u8 b3m [vN, vI 0, vN, vQ, vO, vI 0] (List.replicate 256 (0 : Int)) (256 : Int)] w := by rw [hX]; exact hS0
   have hd := hS.hand [0] [] rfl rfl
   refine Stp.mono (o_mrstore H hd rfl rfl (by kernel_rfl) rfl (show 0 ≤ (13 : Int) ∧ (13 : Int) < (256 : Int) from by decide)) ?_
   rintro v w2 hq
   replace hS : SH M X w [Ent.mix .u8 b3m [vN, vI 0, vN, vQ, vO, vI 0] (seti (List.replicate 256 (0 : Int)) (13 : Int) 1) (256 : Int)] _ := hS.join [0] [] rfl rfl hq
   clear hq
   rw [hX] at hS
   exact ⟨gL [], (fun _ h => by cases h), hS.sel [0] rfl⟩
 have H21m : Fr 117 [(0, [], .slice gl.a 8 gl.c), (3, [], vP b3m), (4, [], vI 0), (5, [], vS [13, 10]), (6, [], vI 0)] _ := (FrG.keep (ks := [0, 3, 4, 5, 6]) H20m (by kernel_rfl))
 replace hS : SH M X w [Ent.mix .u8 b3m [vN, vI 0, vN, vQ, vO, vI 0] (seti (List.replicate 256 (0 : Int)) (13 : Int) 1) (256 : Int), eO 9 tS lit8 gl] _ := hS
 clear hv H20m
 refine w_reg [] [0, 3, 4, 5, 6] [(0, [], .slice gl.a 8 gl.c), (3, [], vP b3m), (4, [], vI 0), (5, [], vS [13, 10]), (6, [], vI 1)] [] H21m (by kernel_rfl) trivial fun _ wd22m H23m hb => ?_
 clear H21m
 replace hS := hS.below hb
 clear hb
 refine lw_round ?_
 refine w_seq ?_
 refine s_reg [] [0, 3, 4, 5, 6, 27] [(0, [], .slice gl.a 8 gl.c), (3, [], vP b3m), (4, [], vI 0), (5, [], vS [13, 10]), (6, [], vI 1), (27, [], vT)] [] H23m (by kernel_rfl) trivial fun _ wd24m H25m hb => ?_
 clear H23m
 replace hS := hS.below hb
 clear hb
 refine w_if H25m rfl (fun _ => ?_) (fun hc => by cases hc)
 refine w_skip ?_
 refine w_seq ?_
 refine w_block ?_
 refine w_drawS (base := [(0, [], .slice gl.a 8 gl.c), (3, [], vP b3m), (4, [], vI 0), (5, [], vS [13, 10]), (6, [], vI 1)]) (L := [Ent.mix .u8 b3m [vN, vI 0, vN, vQ, vO, vI 0] (seti (List.replicate 256 (0 : Int)) (13 : Int) 1) (256 : Int), eO 9 tS lit8 gl]) 8 2 (fun yg26m => [vP b3m, vS [13, 10], vI 1, vU 10, vP b3m, vA b3m 6, .pointer (some ⟨b3m, 6 + ((10 : Int)).toNat * 1, none⟩), undef]) (fun yg26m => [[], [], [], [], [], [], [], [Ent.mix .u8 b3m [vN, vI 0, vN, vQ, vO, vI 0] (seti (seti (List.replicate 256 (0 : Int)) (13 : Int) 1) (10 : Int) 1) (256 : Int)]]) [[8], [], [], [], [8], [8], [8], [8]] [[], [], [], [], [], [], [], [8]] [[0], [1], [2], [1, 2, 3], [0, 4], [0, 4, 5], [0, 1, 2, 3, 4, 5, 6], [0, 1, 2, 3, 4, 5, 6, 7]] [] (FrG.keep (ks := [0, 3, 4, 5, 6]) H25m (by kernel_rfl)) (fun _ _ h => by cases h) (by kernel_rfl) hS (by kernel_rfl) rfl rfl (by kernel_rfl) (by kernel_rfl) (by kernel_rfl) (gd_none (by kernel_rfl) _ _) ?hloc_yg26m ?hstep_yg26m fun _ wd27m yg26m H28m hv hS => ?hK_yg26m
 case hloc_yg26m => exact ⟨(fun _ _ _ _ => ⟨rfl, rfl⟩), (fun _ _ _ _ => ⟨rfl, rfl⟩), (fun _ _ _ _ => ⟨rfl, rfl⟩), (fun _ _ _ _ => ⟨rfl, rfl⟩), (fun _ _ _ _ => ⟨rfl, rfl⟩), (fun _ _ _ _ => ⟨rfl, rfl⟩), (fun _ _ _ _ => ⟨rfl, rfl⟩), (fun _ _ _ _ => ⟨rfl, rfl⟩), trivial⟩
 case hstep_yg26m =>
  refine ⟨?_, ?_, ?_, ?_, ?_, ?_, ?_, ?_, trivial⟩
  ·intro o ho a w yg26m M Hb hv hO hS
   obtain rfl := Option.some.inj ho
   exact Stp.mono (o_evs [] (vP b3m) none [] Hb rfl (by kernel_rfl) (fun q e => by cases e)) fun _ _ hq => ⟨gL [], fun _ _ => hq.1, (hS.below hq.2.below).sel [0] rfl⟩
  ·intro o ho a w yg26m M Hb hv hO hS
   obtain rfl := Option.some.inj ho
   exact Stp.mono (o_evs [] (vS [13, 10]) none [] Hb rfl (by kernel_rfl) (fun q e => by cases e)) fun _ _ hq => ⟨gL [], fun _ _ => hq.1, (hS.below hq.2.below).sel [] rfl⟩
  ·intro o ho a w yg26m M Hb hv hO hS
   obtain rfl := Option.some.inj ho
   exact Stp.mono (o_evs [] (vI 1) none [] Hb rfl (by kernel_rfl) (fun q e => by cases e)) fun _ _ hq => ⟨gL [], fun _ _ => hq.1, (hS.below hq.2.below).sel [] rfl⟩
  ·intro o ho a w yg26m M Hb hv hO hS
   obtain rfl := Option.some.inj ho
   exact Stp.mono (o_evs [] (vU 10) (some (fun _ => 0 ≤ (1 : Int) ∧ (1 : Int) < ln ([13, 10] : Str))) [] (((Hb).add (hv 1 (by decide) (by decide) 31 rfl)).add (hv 2 (by decide) (by decide) 32 rfl)) rfl (by kernel_rfl) (fun q e => by cases e; exact (show 0 ≤ (1 : Int) ∧ (1 : Int) < ln ([13, 10] : Str) from by decide))) fun _ _ hq => ⟨gL [], fun _ _ => hq.1, (hS.below hq.2.below).sel [] rfl⟩
  ·intro o ho a w yg26m M Hb hv hO hS
   obtain rfl := Option.some.inj ho
   exact Stp.mono (o_evs [] (vP b3m) none [] ((Hb).add (hv 0 (by decide) (by decide) 30 rfl)) rfl (by kernel_rfl) (fun q e => by cases e)) fun _ _ hq => ⟨gL [], fun _ _ => hq.1, (hS.below hq.2.below).sel [0] rfl⟩
  ·intro o ho a w yg26m M Hb hv hO hS
   obtain rfl := Option.some.inj ho
   exact Stp.mono (o_evs [] (vA b3m 6) none [] ((Hb).add (hv 4 (by decide) (by decide) 34 rfl)) rfl (by kernel_rfl) (fun q e => by cases e)) fun _ _ hq => ⟨gL [], fun _ _ => hq.1, (hS.below hq.2.below).sel [0] rfl⟩
  ·intro o ho a w yg26m M Hb hv hO hS
   obtain rfl := Option.some.inj ho
   exact Stp.mono (o_evs [] (.pointer (some ⟨b3m, 6 + ((10 : Int)).toNat * 1, none⟩)) (some (fun _ => 0 ≤ (10 : Int) ∧ (10 : Int) < (256 : Int))) [] (((Hb).add (hv 3 (by decide) (by decide) 33 rfl)).add (hv 5 (by decide) (by decide) 35 rfl)) rfl (by kernel_rfl) (fun q e => by cases e; exact (show 0 ≤ (10 : Int) ∧ (10 : Int) < (256 : Int) from by decide))) fun _ _ hq => ⟨gL [], fun _ _ => hq.1, (hS.below hq.2.below).sel [0] rfl⟩
  ·intro o ho a w yg26m M Hb hv hO hS0
   obtain rfl := Option.some.inj ho
   have H : Fr 117 ([(36, [], .pointer (some ⟨b3m, 6 + ((10 : Int)).toNat * 1, none⟩))] ++ [(0, [], .slice gl.a 8 gl.c), (3, [], vP b3m), (4, [], vI 0), (5, [], vS [13, 10]), (6, [], vI 1)]) _ := (Hb).add (hv 6 (by decide) (by decide) 36 rfl)
   obtain ⟨X, hX⟩ : ∃ X, X = fpl [Ent.mix .u8 b3m [vN, vI 0, vN, vQ, vO, vI 0] (seti (List.replicate 256 (0 : Int)) (13 : Int) 1) (256 : Int)] := ⟨_, rfl⟩
   have hS : SH M X w [Ent.mix .u8 b3m [vN, vI 0, vN, vQ, vO, vI 0] (seti (List.replicate 256 (0 : Int)) (13 : Int) 1) (256 : Int)] w := by rw [hX]; exact hS0
   have hd := hS.hand [0] [] rfl rfl
   refine Stp.mono (o_mrstore H hd rfl rfl (by kernel_rfl) rfl (show 0 ≤ (10 : Int) ∧ (10 : Int) < (256 : Int) from by decide)) ?_
   rintro v w2 hq
   replace hS : SH M X w [Ent.mix .u8 b3m [vN, vI 0, vN, vQ, vO, vI 0] (seti (seti (List.replicate 256 (0 : Int)) (13 : Int) 1) (10 : Int) 1) (256 : Int)] _ := hS.join [0] [] rfl rfl hq
   clear hq
   rw [hX] at hS
   exact ⟨gL [], (fun _ h => by cases h), hS.sel [0] rfl⟩
 have H29m : Fr 117 [(0, [], .slice gl.a 8 gl.c), (3, [], vP b3m), (4, [], vI 0), (5, [], vS [13, 10]), (6, [], vI 1)] _ := (FrG.keep (ks := [0, 3, 4, 5, 6]) H28m (by kernel_rfl))
 replace hS : SH M X w [Ent.mix .u8 b3m [vN, vI 0, vN, vQ, vO, vI 0] (seti (seti (List.replicate 256 (0 : Int)) (13 : Int) 1) (10 : Int) 1) (256 : Int), eO 9 tS lit8 gl] _ := hS
 clear hv H28m
 refine w_reg [] [0, 3, 4, 5, 6] [(0, [], .slice gl.a 8 gl.c), (3, [], vP b3m), (4, [], vI 0), (5, [], vS [13, 10]), (6, [], vI 2)] [] H29m (by kernel_rfl) trivial fun _ wd30m H31m hb => ?_
 clear H29m
 replace hS := hS.below hb
 clear hb
 refine lw_round ?_
 refine w_seq ?_
 refine s_reg [] [0, 3, 4, 5, 6, 27] [(0, [], .slice gl.a 8 gl.c), (3, [], vP b3m), (4, [], vI 0), (5, [], vS [13, 10]), (6, [], vI 2), (27, [], vF)] [] H31m (by kernel_rfl) trivial fun _ wd32m H33m hb => ?_
 clear H31m
 replace hS := hS.below hb
 clear hb
 refine w_if H33m rfl (fun hc => by cases hc) (fun _ => ?_)
 refine w_exit rfl ?_
 refine w_reg [] [0, 3, 4] [(0, [], .slice gl.a 8 gl.c), (3, [], vP b3m), (4, [], vI 2)] [] H33m (by kernel_rfl) trivial fun _ wd34m H35m hb => ?_
 clear H33m
 replace hS := hS.below hb
 clear hb
 refine lw_round ?_
 refine w_seq ?_
 refine s_reg [] [0, 3, 4, 17] [(0, [], .slice gl.a 8 gl.c), (3, [], vP b3m), (4, [], vI 2), (17, [], vT)] [] H35m (by kernel_rfl) trivial fun _ wd36m H37m hb => ?_
 clear H35m
 replace hS := hS.below hb
 clear hb
 refine w_if H37m rfl (fun _ => ?_) (fun hc => by cases hc)
 refine w_skip ?_
 refine w_seq ?_
 refine w_block ?_
 refine s_reg [(vS [13])] [0, 3, 4, 5] [(0, [], .slice gl.a 8 gl.c), (3, [], vP b3m), (4, [], vI 2), (5, [], vS [13])] [fun _ => oka gl.a ∧ 0 ≤ (2 : Int) ∧ (2 : Int) < ln lit8, fun wz => V.at1 ⟨ab gl.a, ao gl.a + ((2 : Int)).toNat * 1, none⟩ (vS [13]) wz] H37m (by kernel_rfl) ⟨((hS.osl 1 rfl).oki (show 0 ≤ (2 : Int) ∧ (2 : Int) < ln lit8 from by decide)), ((hS.osl 1 rfl).at1 (show 0 ≤ (2 : Int) ∧ (2 : Int) < ln lit8 from by decide) 0 rfl), trivial⟩ fun _ wd38m H39m hb => ?_
 clear H37m
 replace hS := hS.below hb
 clear hb
 refine s_reg [] [0, 3, 4, 5, 6] [(0, [], .slice gl.a 8 gl.c), (3, [], vP b3m), (4, [], vI 2), (5, [], vS [13]), (6, [], vI 0)] [] H39m (by kernel_rfl) trivial fun _ wd40m H41m hb => ?_
 clear H39m
 replace hS := hS.below hb
 clear hb
 refine w_block ?_
 refine w_loopU ?_
 refine lw_round ?_
 refine w_seq ?_
 refine s_reg [] [0, 3, 4, 5, 6, 27] [(0, [], .slice gl.a 8 gl.c), (3, [], vP b3m), (4, [], vI 2), (5, [], vS [13]), (6, [], vI 0), (27, [], vT)] [] H41m (by kernel_rfl) trivial fun _ wd42m H43m hb => ?_
 clear H41m
 replace hS := hS.below hb
 clear hb
 refine w_if H43m rfl (fun _ => ?_) (fun hc => by cases hc)
 refine w_skip ?_
 refine w_seq ?_
 refine w_block ?_
 refine w_drawS (base := [(0, [], .slice gl.a 8 gl.c), (3, [], vP b3m), (4, [], vI 2), (5, [], vS [13]), (6, [], vI 0)]) (L := [Ent.mix .u8 b3m [vN, vI 0, vN, vQ, vO, vI 0] (seti (seti (List.replicate 256 (0 : Int)) (13 : Int) 1) (10 : Int) 1) (256 : Int), eO 9 tS lit8 gl]) 8 2 (fun yg44m => [vP b3m, vS [13], vI 0, vU 13, vP b3m, vA b3m 6, .pointer (some ⟨b3m, 6 + ((13 : Int)).toNat * 1, none⟩), undef]) (fun yg44m => [[], [], [], [], [], [], [], [Ent.mix .u8 b3m [vN, vI 0, vN, vQ, vO, vI 0] (seti (seti (seti (List.replicate 256 (0 : Int)) (13 : Int) 1) (10 : Int) 1) (13 : Int) 1) (256 : Int)]]) [[8], [], [], [], [8], [8], [8], [8]] [[], [], [], [], [], [], [], [8]] [[0], [1], [2], [1, 2, 3], [0, 4], [0, 4, 5], [0, 1, 2, 3, 4, 5, 6], [0, 1, 2, 3, 4, 5, 6, 7]] [] (FrG.keep (ks := [0, 3, 4, 5, 6]) H43m (by kernel_rfl)) (fun _ _ h => by cases h) (by kernel_rfl) hS (by kernel_rfl) rfl rfl (by kernel_rfl) (by kernel_rfl) (by kernel_rfl) (gd_none (by kernel_rfl) _ _) ?hloc_yg44m ?hstep_yg44m fun _ wd45m yg44m H46m hv hS => ?hK_yg44m
 case hloc_yg44m => exact ⟨(fun _ _ _ _ => ⟨rfl, rfl⟩), (fun _ _ _ _ => ⟨rfl, rfl⟩), (fun _ _ _ _ => ⟨rfl, rfl⟩), (fun _ _ _ _ => ⟨rfl, rfl⟩), (fun _ _ _ _ => ⟨rfl, rfl⟩), (fun _ _ _ _ => ⟨rfl, rfl⟩), (fun _ _ _ _ => ⟨rfl, rfl⟩), (fun _ _ _ _ => ⟨rfl, rfl⟩), trivial⟩
 case hstep_yg44m =>
  refine ⟨?_, ?_, ?_, ?_, ?_, ?_, ?_, ?_, trivial⟩
  ·intro o ho a w yg44m M Hb hv hO hS
   obtain rfl := Option.some.inj ho
   exact Stp.mono (o_evs [] (vP b3m) none [] Hb rfl (by kernel_rfl) (fun q e => by cases e)) fun _ _ hq => ⟨gL [], fun _ _ => hq.1, (hS.below hq.2.below).sel [0] rfl⟩
  ·intro o ho a w yg44m M Hb hv hO hS
   obtain rfl := Option.some.inj ho
   exact Stp.mono (o_evs [] (vS [13]) none [] Hb rfl (by kernel_rfl) (fun q e => by cases e)) fun _ _ hq => ⟨gL [], fun _ _ => hq.1, (hS.below hq.2.below).sel [] rfl⟩
  ·intro o ho a w yg44m M Hb hv hO hS
   obtain rfl := Option.some.inj ho
   exact Stp.mono (o_evs [] (vI 0) none [] Hb rfl (by kernel_rfl) (fun q e => by cases e)) fun _ _ hq => ⟨gL [], fun _ _ => hq.1, (hS.below hq.2.below).sel [] rfl⟩
  ·intro o ho a w yg44m M Hb hv hO hS
   obtain rfl := Option.some.inj ho
   exact Stp.mono (o_evs [] (vU 13) (some (fun _ => 0 ≤ (0 : Int) ∧ (0 : Int) < ln ([13] : Str))) [] (((Hb).add (hv 1 (by decide) (by decide) 31 rfl)).add (hv 2 (by decide) (by decide) 32 rfl)) rfl (by kernel_rfl) (fun q e => by cases e; exact (show 0 ≤ (0 : Int) ∧ (0 : Int) < ln ([13] : Str) from by decide))) fun _ _ hq => ⟨gL [], fun _ _ => hq.1, (hS.below hq.2.below).sel [] rfl⟩
  ·intro o ho a w yg44m M Hb hv hO hS
   obtain rfl := Option.some.inj ho
   exact Stp.mono (o_evs [] (vP b3m) none [] ((Hb).add (hv 0 (by decide) (by decide) 30 rfl)) rfl (by kernel_rfl) (fun q e => by cases e)) fun _ _ hq => ⟨gL [], fun _ _ => hq.1, (hS.below hq.2.below).sel [0] rfl⟩
  ·intro o ho a w yg44m M Hb hv hO hS
   obtain rfl := Option.some.inj ho
   exact Stp.mono (o_evs [] (vA b3m 6) none [] ((Hb).add (hv 4 (by decide) (by decide) 34 rfl)) rfl (by kernel_rfl) (fun q e => by cases e)) fun _ _ hq => ⟨gL [], fun _ _ => hq.1, (hS.below hq.2.below).sel [0] rfl⟩
  ·intro o ho a w yg44m M Hb hv hO hS
   obtain rfl := Option.some.inj ho
   exact Stp.mono (o_evs [] (.pointer (some ⟨b3m, 6 + ((13 : Int)).toNat * 1, none⟩)) (some (fun _ => 0 ≤ (13 : Int) ∧ (13 : Int) < (256 : Int))) [] (((Hb).add (hv 3 (by decide) (by decide) 33 rfl)).add (hv 5 (by decide) (by decide) 35 rfl)) rfl (by kernel_rfl) (fun q e => by cases e; exact (show 0 ≤ (13 : Int) ∧ (13 : Int) < (256 : Int) from by decide))) fun _ _ hq => ⟨gL [], fun _ _ => hq.1, (hS.below hq.2.below).sel [0] rfl⟩
  ·intro o ho a w yg44m M Hb hv hO hS0
   obtain rfl := Option.some.inj ho
   have H : Fr 117 ([(36, [], .pointer (some ⟨b3m, 6 + ((13 : Int)).toNat * 1, none⟩))] ++ [(0, [], .slice gl.a 8 gl.c), (3, [], vP b3m), (4, [], vI 2), (5, [], vS [13]), (6, [], vI 0)]) _ := (Hb).add (hv 6 (by decide) (by decide) 36 rfl)
   obtain ⟨X, hX⟩ : ∃ X, X = fpl [Ent.mix .u8 b3m [vN, vI 0, vN, vQ, vO, vI 0] (seti (seti (List.replicate 256 (0 : Int)) (13 : Int) 1) (10 : Int) 1) (256 : Int)] := ⟨_, rfl⟩
   have hS : SH M X w [Ent.mix .u8 b3m [vN, vI 0, vN, vQ, vO, vI 0] (seti (seti (List.replicate 256 (0 : Int)) (13 : Int) 1) (10 : Int) 1) (256 : Int)] w := by rw [hX]; exact hS0
   have hd := hS.hand [0] [] rfl rfl
   refine Stp.mono (o_mrstore H hd rfl rfl (by kernel_rfl) rfl (show 0 ≤ (13 : Int) ∧ (13 : Int) < (256 : Int) from by decide)) ?_
   rintro v w2 hq
   replace hS : SH M X w [Ent.mix .u8 b3m [vN, vI 0, vN, vQ, vO, vI 0] (seti (seti (seti (List.replicate 256 (0 : Int)) (13 : Int) 1) (10 : Int) 1) (13 : Int) 1) (256 : Int)] _ := hS.join [0] [] rfl rfl hq
   clear hq
   rw [hX] at hS
   exact ⟨gL [], (fun _ h => by cases h), hS.sel [0] rfl⟩
 have H47m : Fr 117 [(0, [], .slice gl.a 8 gl.c), (3, [], vP b3m), (4, [], vI 2), (5, [], vS [13]), (6, [], vI 0)] _ := (FrG.keep (ks := [0, 3, 4, 5, 6]) H46m (by kernel_rfl))
 replace hS : SH M X w [Ent.mix .u8 b3m [vN, vI 0, vN, vQ, vO, vI 0] (seti (seti (seti (List.replicate 256 (0 : Int)) (13 : Int) 1) (10 : Int) 1) (13 : Int) 1) (256 : Int), eO 9 tS lit8 gl] _ := hS
 clear hv H46m
 refine w_reg [] [0, 3, 4, 5, 6] [(0, [], .slice gl.a 8 gl.c), (3, [], vP b3m), (4, [], vI 2), (5, [], vS [13]), (6, [], vI 1)] [] H47m (by kernel_rfl) trivial fun _ wd48m H49m hb => ?_
 clear H47m
 replace hS := hS.below hb
 clear hb
 refine lw_round ?_
 refine w_seq ?_
 refine s_reg [] [0, 3, 4, 5, 6, 27] [(0, [], .slice gl.a 8 gl.c), (3, [], vP b3m), (4, [], vI 2), (5, [], vS [13]), (6, [], vI 1), (27, [], vF)] [] H49m (by kernel_rfl) trivial fun _ wd50m H51m hb => ?_
 clear H49m
 replace hS := hS.below hb
 clear hb
 refine w_if H51m rfl (fun hc => by cases hc) (fun _ => ?_)
 refine w_exit rfl ?_
 refine w_reg [] [0, 3, 4] [(0, [], .slice gl.a 8 gl.c), (3, [], vP b3m), (4, [], vI 4)] [] H51m (by kernel_rfl) trivial fun _ wd52m H53m hb => ?_
 clear H51m
 replace hS := hS.below hb
 clear hb
 refine lw_round ?_
 refine w_seq ?_
 refine s_reg [] [0, 3, 4, 17] [(0, [], .slice gl.a 8 gl.c), (3, [], vP b3m), (4, [], vI 4), (17, [], vT)] [] H53m (by kernel_rfl) trivial fun _ wd54m H55m hb => ?_
 clear H53m
 replace hS := hS.below hb
 clear hb
 refine w_if H55m rfl (fun _ => ?_) (fun hc => by cases hc)
 refine w_skip ?_
 refine w_seq ?_
 refine w_block ?_
 refine s_reg [(vS [12])] [0, 3, 4, 5] [(0, [], .slice gl.a 8 gl.c), (3, [], vP b3m), (4, [], vI 4), (5, [], vS [12])] [fun _ => oka gl.a ∧ 0 ≤ (4 : Int) ∧ (4 : Int) < ln lit8, fun wz => V.at1 ⟨ab gl.a, ao gl.a + ((4 : Int)).toNat * 1, none⟩ (vS [12]) wz] H55m (by kernel_rfl) ⟨((hS.osl 1 rfl).oki (show 0 ≤ (4 : Int) ∧ (4 : Int) < ln lit8 from by decide)), ((hS.osl 1 rfl).at1 (show 0 ≤ (4 : Int) ∧ (4 : Int) < ln lit8 from by decide) 0 rfl), trivial⟩ fun _ wd56m H57m hb => ?_
 clear H55m
 replace hS := hS.below hb
 clear hb
 refine s_reg [] [0, 3, 4, 5, 6] [(0, [], .slice gl.a 8 gl.c), (3, [], vP b3m), (4, [], vI 4), (5, [], vS [12]), (6, [], vI 0)] [] H57m (by kernel_rfl) trivial fun _ wd58m H59m hb => ?_
 clear H57m
 replace hS := hS.below hb
 clear hb
 refine w_block ?_
 refine w_loopU ?_
 refine lw_round ?_
 refine w_seq ?_
 refine s_reg [] [0, 3, 4, 5, 6, 27] [(0, [], .slice gl.a 8 gl.c), (3, [], vP b3m), (4, [], vI 4), (5, [], vS [12]), (6, [], vI 0), (27, [], vT)] [] H59m (by kernel_rfl) trivial fun _ wd60m H61m hb => ?_
 clear H59m
 replace hS := hS.below hb
 clear hb
 refine w_if H61m rfl (fun _ => ?_) (fun hc => by cases hc)
 refine w_skip ?_
 refine w_seq ?_
 refine w_block ?_
 refine w_drawS (base := [(0, [], .slice gl.a 8 gl.c), (3, [], vP b3m), (4, [], vI 4), (5, [], vS [12]), (6, [], vI 0)]) (L := [Ent.mix .u8 b3m [vN, vI 0, vN, vQ, vO, vI 0] (seti (seti (seti (List.replicate 256 (0 : Int)) (13 : Int) 1) (10 : Int) 1) (13 : Int) 1) (256 : Int), eO 9 tS lit8 gl]) 8 2 (fun yg62m => [vP b3m, vS [12], vI 0, vU 12, vP b3m, vA b3m 6, .pointer (some ⟨b3m, 6 + ((12 : Int)).toNat * 1, none⟩), undef]) (fun yg62m => [[], [], [], [], [], [], [], [Ent.mix .u8 b3m [vN, vI 0, vN, vQ, vO, vI 0] (seti (seti (seti (seti (List.replicate 256 (0 : Int)) (13 : Int) 1) (10 : Int) 1) (13 : Int) 1) (12 : Int) 1) (256 : Int)]]) [[8], [], [], [], [8], [8], [8], [8]] [[], [], [], [], [], [], [], [8]] [[0], [1], [2], [1, 2, 3], [0, 4], [0, 4, 5], [0, 1, 2, 3, 4, 5, 6], [0, 1, 2, 3, 4, 5, 6, 7]] [] (FrG.keep (ks := [0, 3, 4, 5, 6]) H61m (by kernel_rfl)) (fun _ _ h => by cases h) (by kernel_rfl) hS (by kernel_rfl) rfl rfl (by kernel_rfl) (by kernel_rfl) (by kernel_rfl) (gd_none (by kernel_rfl) _ _) ?hloc_yg62m ?hstep_yg62m fun _ wd63m yg62m H64m hv hS => ?hK_yg62m
 case hloc_yg62m => exact ⟨(fun _ _ _ _ => ⟨rfl, rfl⟩), (fun _ _ _ _ => ⟨rfl, rfl⟩), (fun _ _ _ _ => ⟨rfl, rfl⟩), (fun _ _ _ _ => ⟨rfl, rfl⟩), (fun _ _ _ _ => ⟨rfl, rfl⟩), (fun _ _ _ _ => ⟨rfl, rfl⟩), (fun _ _ _ _ => ⟨rfl, rfl⟩), (fun _ _ _ _ => ⟨rfl, rfl⟩), trivial⟩
 case hstep_yg62m =>
  refine ⟨?_, ?_, ?_, ?_, ?_, ?_, ?_, ?_, trivial⟩
  ·intro o ho a w yg62m M Hb hv hO hS
   obtain rfl := Option.some.inj ho
   exact Stp.mono (o_evs [] (vP b3m) none [] Hb rfl (by kernel_rfl) (fun q e => by cases e)) fun _ _ hq => ⟨gL [], fun _ _ => hq.1, (hS.below hq.2.below).sel [0] rfl⟩
  ·intro o ho a w yg62m M Hb hv hO hS
   obtain rfl := Option.some.inj ho
   exact Stp.mono (o_evs [] (vS [12]) none [] Hb rfl (by kernel_rfl) (fun q e => by cases e)) fun _ _ hq => ⟨gL [], fun _ _ => hq.1, (hS.below hq.2.below).sel [] rfl⟩
  ·intro o ho a w yg62m M Hb hv hO hS
   obtain rfl := Option.some.inj ho
   exact Stp.mono (o_evs [] (vI 0) none [] Hb rfl (by kernel_rfl) (fun q e => by cases e)) fun _ _ hq => ⟨gL [], fun _ _ => hq.1, (hS.below hq.2.below).sel [] rfl⟩
  ·intro o ho a w yg62m M Hb hv hO hS
   obtain rfl := Option.some.inj ho
   exact Stp.mono (o_evs [] (vU 12) (some (fun _ => 0 ≤ (0 : Int) ∧ (0 : Int) < ln ([12] : Str))) [] (((Hb).add (hv 1 (by decide) (by decide) 31 rfl)).add (hv 2 (by decide) (by decide) 32 rfl)) rfl (by kernel_rfl) (fun q e => by cases e; exact (show 0 ≤ (0 : Int) ∧ (0 : Int) < ln ([12] : Str) from by decide))) fun _ _ hq => ⟨gL [], fun _ _ => hq.1, (hS.below hq.2.below).sel [] rfl⟩
  ·intro o ho a w yg62m M Hb hv hO hS
   obtain rfl := Option.some.inj ho
   exact Stp.mono (o_evs [] (vP b3m) none [] ((Hb).add (hv 0 (by decide) (by decide) 30 rfl)) rfl (by kernel_rfl) (fun q e => by cases e)) fun _ _ hq => ⟨gL [], fun _ _ => hq.1, (hS.below hq.2.below).sel [0] rfl⟩
  ·intro o ho a w yg62m M Hb hv hO hS
   obtain rfl := Option.some.inj ho
   exact Stp.mono (o_evs [] (vA b3m 6) none [] ((Hb).add (hv 4 (by decide) (by decide) 34 rfl)) rfl (by kernel_rfl) (fun q e => by cases e)) fun _ _ hq => ⟨gL [], fun _ _ => hq.1, (hS.below hq.2.below).sel [0] rfl⟩
  ·intro o ho a w yg62m M Hb hv hO hS
   obtain rfl := Option.some.inj ho
   exact Stp.mono (o_evs [] (.pointer (some ⟨b3m, 6 + ((12 : Int)).toNat * 1, none⟩)) (some (fun _ => 0 ≤ (12 : Int) ∧ (12 : Int) < (256 : Int))) [] (((Hb).add (hv 3 (by decide) (by decide) 33 rfl)).add (hv 5 (by decide) (by decide) 35 rfl)) rfl (by kernel_rfl) (fun q e => by cases e; exact (show 0 ≤ (12 : Int) ∧ (12 : Int) < (256 : Int) from by decide))) fun _ _ hq => ⟨gL [], fun _ _ => hq.1, (hS.below hq.2.below).sel [0] rfl⟩
  ·intro o ho a w yg62m M Hb hv hO hS0
   obtain rfl := Option.some.inj ho
   have H : Fr 117 ([(36, [], .pointer (some ⟨b3m, 6 + ((12 : Int)).toNat * 1, none⟩))] ++ [(0, [], .slice gl.a 8 gl.c), (3, [], vP b3m), (4, [], vI 4), (5, [], vS [12]), (6, [], vI 0)]) _ := (Hb).add (hv 6 (by decide) (by decide) 36 rfl)
   obtain ⟨X, hX⟩ : ∃ X, X = fpl [Ent.mix .u8 b3m [vN, vI 0, vN, vQ, vO, vI 0] (seti (seti (seti (List.replicate 256 (0 : Int)) (13 : Int) 1) (10 : Int) 1) (13 : Int) 1) (256 : Int)] := ⟨_, rfl⟩
   have hS : SH M X w [Ent.mix .u8 b3m [vN, vI 0, vN, vQ, vO, vI 0] (seti (seti (seti (List.replicate 256 (0 : Int)) (13 : Int) 1) (10 : Int) 1) (13 : Int) 1) (256 : Int)] w := by rw [hX]; exact hS0
   have hd := hS.hand [0] [] rfl rfl
   refine Stp.mono (o_mrstore H hd rfl rfl (by kernel_rfl) rfl (show 0 ≤ (12 : Int) ∧ (12 : Int) < (256 : Int) from by decide)) ?_
   rintro v w2 hq
   replace hS : SH M X w [Ent.mix .u8 b3m [vN, vI 0, vN, vQ, vO, vI 0] (seti (seti (seti (seti (List.replicate 256 (0 : Int)) (13 : Int) 1) (10 : Int) 1) (13 : Int) 1) (12 : Int) 1) (256 : Int)] _ := hS.join [0] [] rfl rfl hq
   clear hq
   rw [hX] at hS
   exact ⟨gL [], (fun _ h => by cases h), hS.sel [0] rfl⟩
 have H65m : Fr 117 [(0, [], .slice gl.a 8 gl.c), (3, [], vP b3m), (4, [], vI 4), (5, [], vS [12]), (6, [], vI 0)] _ := (FrG.keep (ks := [0, 3, 4, 5, 6]) H64m (by kernel_rfl))
 replace hS : SH M X w [Ent.mix .u8 b3m [vN, vI 0, vN, vQ, vO, vI 0] (seti (seti (seti (seti (List.replicate 256 (0 : Int)) (13 : Int) 1) (10 : Int) 1) (13 : Int) 1) (12 : Int) 1) (256 : Int), eO 9 tS lit8 gl] _ := hS
 clear hv H64m
 refine w_reg [] [0, 3, 4, 5, 6] [(0, [], .slice gl.a 8 gl.c), (3, [], vP b3m), (4, [], vI 4), (5, [], vS [12]), (6, [], vI 1)] [] H65m (by kernel_rfl) trivial fun _ wd66m H67m hb => ?_
 clear H65m
 replace hS := hS.below hb
 clear hb
 refine lw_round ?_
 refine w_seq ?_
 refine s_reg [] [0, 3, 4, 5, 6, 27] [(0, [], .slice gl.a 8 gl.c), (3, [], vP b3m), (4, [], vI 4), (5, [], vS [12]), (6, [], vI 1), (27, [], vF)] [] H67m (by kernel_rfl) trivial fun _ wd68m H69m hb => ?_
 clear H67m
 replace hS := hS.below hb
 clear hb
 refine w_if H69m rfl (fun hc => by cases hc) (fun _ => ?_)
 refine w_exit rfl ?_
 refine w_reg [] [0, 3, 4] [(0, [], .slice gl.a 8 gl.c), (3, [], vP b3m), (4, [], vI 6)] [] H69m (by kernel_rfl) trivial fun _ wd70m H71m hb => ?_
 clear H69m
 replace hS := hS.below hb
 clear hb
 refine lw_round ?_
 refine w_seq ?_
 refine s_reg [] [0, 3, 4, 17] [(0, [], .slice gl.a 8 gl.c), (3, [], vP b3m), (4, [], vI 6), (17, [], vT)] [] H71m (by kernel_rfl) trivial fun _ wd72m H73m hb => ?_
 clear H71m
 replace hS := hS.below hb
 clear hb
 refine w_if H73m rfl (fun _ => ?_) (fun hc => by cases hc)
 refine w_skip ?_
 refine w_seq ?_
 refine w_block ?_
 refine s_reg [(vS [0])] [0, 3, 4, 5] [(0, [], .slice gl.a 8 gl.c), (3, [], vP b3m), (4, [], vI 6), (5, [], vS [0])] [fun _ => oka gl.a ∧ 0 ≤ (6 : Int) ∧ (6 : Int) < ln lit8, fun wz => V.at1 ⟨ab gl.a, ao gl.a + ((6 : Int)).toNat * 1, none⟩ (vS [0]) wz] H73m (by kernel_rfl) ⟨((hS.osl 1 rfl).oki (show 0 ≤ (6 : Int) ∧ (6 : Int) < ln lit8 from by decide)), ((hS.osl 1 rfl).at1 (show 0 ≤ (6 : Int) ∧ (6 : Int) < ln lit8 from by decide) 0 rfl), trivial⟩ fun _ wd74m H75m hb => ?_
 clear H73m
 replace hS := hS.below hb
 clear hb
 refine s_reg [] [0, 3, 4, 5, 6] [(0, [], .slice gl.a 8 gl.c), (3, [], vP b3m), (4, [], vI 6), (5, [], vS [0]), (6, [], vI 0)] [] H75m (by kernel_rfl) trivial fun _ wd76m H77m hb => ?_
 clear H75m
 replace hS := hS.below hb
 clear hb
 refine w_block ?_
 refine w_loopU ?_
 refine lw_round ?_
 refine w_seq ?_
 refine s_reg [] [0, 3, 4, 5, 6, 27] [(0, [], .slice gl.a 8 gl.c), (3, [], vP b3m), (4, [], vI 6), (5, [], vS [0]), (6, [], vI 0), (27, [], vT)] [] H77m (by kernel_rfl) trivial fun _ wd78m H79m hb => ?_
 clear H77m
 replace hS := hS.below hb
 clear hb
 refine w_if H79m rfl (fun _ => ?_) (fun hc => by cases hc)
 refine w_skip ?_
 refine w_seq ?_
 refine w_block ?_
 refine w_drawS (base := [(0, [], .slice gl.a 8 gl.c), (3, [], vP b3m), (4, [], vI 6), (5, [], vS [0]), (6, [], vI 0)]) (L := [Ent.mix .u8 b3m [vN, vI 0, vN, vQ, vO, vI 0] (seti (seti (seti (seti (List.replicate 256 (0 : Int)) (13 : Int) 1) (10 : Int) 1) (13 : Int) 1) (12 : Int) 1) (256 : Int), eO 9 tS lit8 gl]) 8 2 (fun yg80m => [vP b3m, vS [0], vI 0, vU 0, vP b3m, vA b3m 6, .pointer (some ⟨b3m, 6 + ((0 : Int)).toNat * 1, none⟩), undef]) (fun yg80m => [[], [], [], [], [], [], [], [Ent.mix .u8 b3m [vN, vI 0, vN, vQ, vO, vI 0] (seti (seti (seti (seti (seti (List.replicate 256 (0 : Int)) (13 : Int) 1) (10 : Int) 1) (13 : Int) 1) (12 : Int) 1) (0 : Int) 1) (256 : Int)]]) [[8], [], [], [], [8], [8], [8], [8]] [[], [], [], [], [], [], [], [8]] [[0], [1], [2], [1, 2, 3], [0, 4], [0, 4, 5], [0, 1, 2, 3, 4, 5, 6], [0, 1, 2, 3, 4, 5, 6, 7]] [] (FrG.keep (ks := [0, 3, 4, 5, 6]) H79m (by kernel_rfl)) (fun _ _ h => by cases h) (by kernel_rfl) hS (by kernel_rfl) rfl rfl (by kernel_rfl) (by kernel_rfl) (by kernel_rfl) (gd_none (by kernel_rfl) _ _) ?hloc_yg80m ?hstep_yg80m fun _ wd81m yg80m H82m hv hS => ?hK_yg80m
 case hloc_yg80m => exact ⟨(fun _ _ _ _ => ⟨rfl, rfl⟩), (fun _ _ _ _ => ⟨rfl, rfl⟩), (fun _ _ _ _ => ⟨rfl, rfl⟩), (fun _ _ _ _ => ⟨rfl, rfl⟩), (fun _ _ _ _ => ⟨rfl, rfl⟩), (fun _ _ _ _ => ⟨rfl, rfl⟩), (fun _ _ _ _ => ⟨rfl, rfl⟩), (fun _ _ _ _ => ⟨rfl, rfl⟩), trivial⟩
 case hstep_yg80m =>
  refine ⟨?_, ?_, ?_, ?_, ?_, ?_, ?_, ?_, trivial⟩
  ·intro o ho a w yg80m M Hb hv hO hS
   obtain rfl := Option.some.inj ho
   exact Stp.mono (o_evs [] (vP b3m) none [] Hb rfl (by kernel_rfl) (fun q e => by cases e)) fun _ _ hq => ⟨gL [], fun _ _ => hq.1, (hS.below hq.2.below).sel [0] rfl⟩
  ·intro o ho a w yg80m M Hb hv hO hS
   obtain rfl := Option.some.inj ho
   exact Stp.mono (o_evs [] (vS [0]) none [] Hb rfl (by kernel_rfl) (fun q e => by cases e)) fun _ _ hq => ⟨gL [], fun _ _ => hq.1, (hS.below hq.2.below).sel [] rfl⟩
  ·intro o ho a w yg80m M Hb hv hO hS
   obtain rfl := Option.some.inj ho
   exact Stp.mono (o_evs [] (vI 0) none [] Hb rfl (by kernel_rfl) (fun q e => by cases e)) fun _ _ hq => ⟨gL [], fun _ _ => hq.1, (hS.below hq.2.below).sel [] rfl⟩
  ·intro o ho a w yg80m M Hb hv hO hS
   obtain rfl := Option.some.inj ho
   exact Stp.mono (o_evs [] (vU 0) (some (fun _ => 0 ≤ (0 : Int) ∧ (0 : Int) < ln ([0] : Str))) [] (((Hb).add (hv 1 (by decide) (by decide) 31 rfl)).add (hv 2 (by decide) (by decide) 32 rfl)) rfl (by kernel_rfl) (fun q e => by cases e; exact (show 0 ≤ (0 : Int) ∧ (0 : Int) < ln ([0] : Str) from by decide))) fun _ _ hq => ⟨gL [], fun _ _ => hq.1, (hS.below hq.2.below).sel [] rfl⟩
  ·intro o ho a w yg80m M Hb hv hO hS
   obtain rfl := Option.some.inj ho
   exact Stp.mono (o_evs [] (vP b3m) none [] ((Hb).add (hv 0 (by decide) (by decide) 30 rfl)) rfl (by kernel_rfl) (fun q e => by cases e)) fun _ _ hq => ⟨gL [], fun _ _ => hq.1, (hS.below hq.2.below).sel [0] rfl⟩
  ·intro o ho a w yg80m M Hb hv hO hS
   obtain rfl := Option.some.inj ho
   exact Stp.mono (o_evs [] (vA b3m 6) none [] ((Hb).add (hv 4 (by decide) (by decide) 34 rfl)) rfl (by kernel_rfl) (fun q e => by cases e)) fun _ _ hq => ⟨gL [], fun _ _ => hq.1, (hS.below hq.2.below).sel [0] rfl⟩
  ·intro o ho a w yg80m M Hb hv hO hS
   obtain rfl := Option.some.inj ho
   exact Stp.mono (o_evs [] (.pointer (some ⟨b3m, 6 + ((0 : Int)).toNat * 1, none⟩)) (some (fun _ => 0 ≤ (0 : Int) ∧ (0 : Int) < (256 : Int))) [] (((Hb).add (hv 3 (by decide) (by decide) 33 rfl)).add (hv 5 (by decide) (by decide) 35 rfl)) rfl (by kernel_rfl) (fun q e => by cases e; exact (show 0 ≤ (0 : Int) ∧ (0 : Int) < (256 : Int) from by decide))) fun _ _ hq => ⟨gL [], fun _ _ => hq.1, (hS.below hq.2.below).sel [0] rfl⟩
  ·intro o ho a w yg80m M Hb hv hO hS0
   obtain rfl := Option.some.inj ho
   have H : Fr 117 ([(36, [], .pointer (some ⟨b3m, 6 + ((0 : Int)).toNat * 1, none⟩))] ++ [(0, [], .slice gl.a 8 gl.c), (3, [], vP b3m), (4, [], vI 6), (5, [], vS [0]), (6, [], vI 0)]) _ := (Hb).add (hv 6 (by decide) (by decide) 36 rfl)
   obtain ⟨X, hX⟩ : ∃ X, X = fpl [Ent.mix .u8 b3m [vN, vI 0, vN, vQ, vO, vI 0] (seti (seti (seti (seti (List.replicate 256 (0 : Int)) (13 : Int) 1) (10 : Int) 1) (13 : Int) 1) (12 : Int) 1) (256 : Int)] := ⟨_, rfl⟩
   have hS : SH M X w [Ent.mix .u8 b3m [vN, vI 0, vN, vQ, vO, vI 0] (seti (seti (seti (seti (List.replicate 256 (0 : Int)) (13 : Int) 1) (10 : Int) 1) (13 : Int) 1) (12 : Int) 1) (256 : Int)] w := by rw [hX]; exact hS0
   have hd := hS.hand [0] [] rfl rfl
   refine Stp.mono (o_mrstore H hd rfl rfl (by kernel_rfl) rfl (show 0 ≤ (0 : Int) ∧ (0 : Int) < (256 : Int) from by decide)) ?_
   rintro v w2 hq
   replace hS : SH M X w [Ent.mix .u8 b3m [vN, vI 0, vN, vQ, vO, vI 0] (seti (seti (seti (seti (seti (List.replicate 256 (0 : Int)) (13 : Int) 1) (10 : Int) 1) (13 : Int) 1) (12 : Int) 1) (0 : Int) 1) (256 : Int)] _ := hS.join [0] [] rfl rfl hq
   clear hq
   rw [hX] at hS
   exact ⟨gL [], (fun _ h => by cases h), hS.sel [0] rfl⟩
 have H83m : Fr 117 [(0, [], .slice gl.a 8 gl.c), (3, [], vP b3m), (4, [], vI 6), (5, [], vS [0]), (6, [], vI 0)] _ := (FrG.keep (ks := [0, 3, 4, 5, 6]) H82m (by kernel_rfl))
 replace hS : SH M X w [Ent.mix .u8 b3m [vN, vI 0, vN, vQ, vO, vI 0] (seti (seti (seti (seti (seti (List.replicate 256 (0 : Int)) (13 : Int) 1) (10 : Int) 1) (13 : Int) 1) (12 : Int) 1) (0 : Int) 1) (256 : Int), eO 9 tS lit8 gl] _ := hS
 clear hv H82m
 refine w_reg [] [0, 3, 4, 5, 6] [(0, [], .slice gl.a 8 gl.c), (3, [], vP b3m), (4, [], vI 6), (5, [], vS [0]), (6, [], vI 1)] [] H83m (by kernel_rfl) trivial fun _ wd84m H85m hb => ?_
 clear H83m
 replace hS := hS.below hb
 clear hb
 refine lw_round ?_
 refine w_seq ?_
 refine s_reg [] [0, 3, 4, 5, 6, 27] [(0, [], .slice gl.a 8 gl.c), (3, [], vP b3m), (4, [], vI 6), (5, [], vS [0]), (6, [], vI 1), (27, [], vF)] [] H85m (by kernel_rfl) trivial fun _ wd86m H87m hb => ?_
 clear H85m
 replace hS := hS.below hb
 clear hb
 refine w_if H87m rfl (fun hc => by cases hc) (fun _ => ?_)
 refine w_exit rfl ?_
 refine w_reg [] [0, 3, 4] [(0, [], .slice gl.a 8 gl.c), (3, [], vP b3m), (4, [], vI 8)] [] H87m (by kernel_rfl) trivial fun _ wd88m H89m hb => ?_
 clear H87m
 replace hS := hS.below hb
 clear hb
 refine lw_round ?_
 refine w_seq ?_
 refine s_reg [] [0, 3, 4, 17] [(0, [], .slice gl.a 8 gl.c), (3, [], vP b3m), (4, [], vI 8), (17, [], vF)] [] H89m (by kernel_rfl) trivial fun _ wd90m H91m hb => ?_
 clear H89m
 replace hS := hS.below hb
 clear hb
 refine w_if H91m rfl (fun hc => by cases hc) (fun _ => ?_)
 refine w_exit rfl ?_
 refine w_seq ?_
 refine s_reg [(.agg ⟨gis .u8 (seti (seti (seti (seti (seti (List.replicate 256 (0 : Int)) (13 : Int) 1) (10 : Int) 1) (13 : Int) 1) (12 : Int) 1) (0 : Int) 1) 256⟩)] [0, 3, 40, 41] [(0, [], .slice gl.a 8 gl.c), (3, [], vP b3m), (40, [], .agg ⟨gis .u8 (seti (seti (seti (seti (seti (List.replicate 256 (0 : Int)) (13 : Int) 1) (10 : Int) 1) (13 : Int) 1) (12 : Int) 1) (0 : Int) 1) 256⟩), (41, [], vI 0)] [fun wz => V.atN b3m 6 (gis .u8 (seti (seti (seti (seti (seti (List.replicate 256 (0 : Int)) (13 : Int) 1) (10 : Int) 1) (13 : Int) 1) (12 : Int) 1) (0 : Int) 1) 256) 0 wz] H91m (by kernel_rfl) ⟨(Mix.atG (hS.mix 0 rfl) rfl rfl), trivial⟩ fun _ wd92m H93m hb => ?_
 clear H91m
 replace hS := hS.below hb
 clear hb
 have hz : (strings_makeGenericReplacer_cs_L1 300  300 0 0) = some (4) := by kernel_rfl
 refine w_then (fun a' w' => Fr 117 [(0, [], .slice gl.a 8 gl.c), (3, [], vP b3m)] a' ∧ SH M X w [Ent.mix .u8 b3m [vN, vI 0, vN, vQ, vO, vI 4] (seti (seti (seti (seti (seti (List.replicate 256 (0 : Int)) (13 : Int) 1) (10 : Int) 1) (13 : Int) 1) (12 : Int) 1) (0 : Int) 1) (256 : Int), eO 9 tS lit8 gl] w') ?_ ?_
 ·have hm := hz
  clear hz
  refine w_block ?_
  refine w_loop (fun kk a' w' => ∃ (v95m : Int) (v96m : Int), strings_makeGenericReplacer_cs_L1 300  kk v95m v96m = some _ ∧ Fr 117 [(0, [], .slice gl.a 8 gl.c), (3, [], vP b3m), (40, [], .agg ⟨gis .u8 (seti (seti (seti (seti (seti (List.replicate 256 (0 : Int)) (13 : Int) 1) (10 : Int) 1) (13 : Int) 1) (12 : Int) 1) (0 : Int) 1) 256⟩), (41, [], vI v95m)] a' ∧ SH M X w [Ent.mix .u8 b3m [vN, vI 0, vN, vQ, vO, vI v96m] (seti (seti (seti (seti (seti (List.replicate 256 (0 : Int)) (13 : Int) 1) (10 : Int) 1) (13 : Int) 1) (12 : Int) 1) (0 : Int) 1) (256 : Int), eO 9 tS lit8 gl] w') ⟨_, 0, 0, hm, FrG.keep (ks := [0, 3, 40, 41]) H93m (by kernel_rfl), hS⟩ ?_
  clear hm H93m hS
  rintro kk _ wd109m ⟨v95m, v96m, hm, H, hS⟩
  cases kk with
  | zero => exact noneE hm
  | succ kk =>
   rw [strings_makeGenericReplacer_cs_L1] at hm
   refine s_reg [] [0, 3, 40, 41, 42] [(0, [], .slice gl.a 8 gl.c), (3, [], vP b3m), (40, [], .agg ⟨gis .u8 (seti (seti (seti (seti (seti (List.replicate 256 (0 : Int)) (13 : Int) 1) (10 : Int) 1) (13 : Int) 1) (12 : Int) 1) (0 : Int) 1) 256⟩), (41, [], vI v95m), (42, [], .bool (decide (v95m < 256)))] [] H (by kernel_rfl) trivial fun _ wd97m H98m hb => ?_
   clear H
   replace hS := hS.below hb
   clear hb
   refine w_seq ?_
   refine w_if H98m rfl (fun hc => ?_) (fun hc => ?c108m)
   case c108m =>
    replace hm := bF hc hm
    refine w_exit rfl ?_
    obtain rfl := someE hm
    exact ⟨FrG.keep (ks := [0, 3]) H98m (by kernel_rfl), hS⟩
   replace hm := bT hc hm
   refine w_skip ?_
   refine w_seq ?_
   refine w_block ?_
   obtain ⟨ho99m, hm⟩ := chkE hm
   refine s_reg [] [0, 3, 8, 40, 41] [(0, [], .slice gl.a 8 gl.c), (3, [], vP b3m), (8, [], vU (gi (agi (seti (seti (seti (seti (seti (List.replicate 256 (0 : Int)) (13 : Int) 1) (10 : Int) 1) (13 : Int) 1) (12 : Int) 1) (0 : Int) 1) 256) v95m)), (40, [], .agg ⟨gis .u8 (seti (seti (seti (seti (seti (List.replicate 256 (0 : Int)) (13 : Int) 1) (10 : Int) 1) (13 : Int) 1) (12 : Int) 1) (0 : Int) 1) 256⟩), (41, [], vI v95m)] [fun _ => 0 ≤ v95m ∧ v95m < (256 : Int)] H98m (by kernel_rfl) ⟨ho99m, trivial⟩ fun _ wd100m H101m hb => ?_
   clear H98m
   replace hS := hS.below hb
   clear hb
   refine wl_start ?_
   refine wl_batch 0 9 [(vI v96m)] [0, 3, 40, 41, 50, 52] [(0, [], .slice gl.a 8 gl.c), (3, [], vP b3m), (40, [], .agg ⟨gis .u8 (seti (seti (seti (seti (seti (List.replicate 256 (0 : Int)) (13 : Int) 1) (10 : Int) 1) (13 : Int) 1) (12 : Int) 1) (0 : Int) 1) 256⟩), (41, [], vI v95m), (50, [], vI (w64 (v96m + (w64 (gi (agi (seti (seti (seti (seti (seti (List.replicate 256 (0 : Int)) (13 : Int) 1) (10 : Int) 1) (13 : Int) 1) (12 : Int) 1) (0 : Int) 1) 256) v95m))))), (52, [], vA b3m 5)] [fun wz => V.at1 ⟨b3m, 5, none⟩ (vI v96m) wz] H101m (by decide) (by kernel_rfl) ⟨((hS.mix 0 rfl).1.at1 rfl), trivial⟩ fun _ wd102m H103m hb => ?_
   clear H101m
   replace hS := hS.below hb
   clear hb
   have hd := hS.hand [0] [1] rfl rfl
   refine m_stp0 [0, 3, 40, 41] [(0, [], .slice gl.a 8 gl.c), (3, [], vP b3m), (40, [], .agg ⟨gis .u8 (seti (seti (seti (seti (seti (List.replicate 256 (0 : Int)) (13 : Int) 1) (10 : Int) 1) (13 : Int) 1) (12 : Int) 1) (0 : Int) 1) 256⟩), (41, [], vI v95m)] H103m rfl rfl rfl (o_mstore [vN, vI 0, vN, vQ, vO, vI (w64 (v96m + (w64 (gi (agi (seti (seti (seti (seti (seti (List.replicate 256 (0 : Int)) (13 : Int) 1) (10 : Int) 1) (13 : Int) 1) (12 : Int) 1) (0 : Int) 1) 256) v95m))))] H103m hd rfl rfl (by kernel_rfl) rfl rfl rfl) rfl fun _ wd104m H105m hq => ?_
   clear H103m hd
   obtain ⟨_, hq⟩ := hq
   replace hS : SH M X w [Ent.mix .u8 b3m [vN, vI 0, vN, vQ, vO, vI (w64 (v96m + (w64 (gi (agi (seti (seti (seti (seti (seti (List.replicate 256 (0 : Int)) (13 : Int) 1) (10 : Int) 1) (13 : Int) 1) (12 : Int) 1) (0 : Int) 1) 256) v95m))))] (seti (seti (seti (seti (seti (List.replicate 256 (0 : Int)) (13 : Int) 1) (10 : Int) 1) (13 : Int) 1) (12 : Int) 1) (0 : Int) 1) (256 : Int), eO 9 tS lit8 gl] _ := hS.join [0] [1] rfl rfl hq
   clear hq
   refine wl_end rfl ?_
   refine w_reg [] [0, 3, 40, 41] [(0, [], .slice gl.a 8 gl.c), (3, [], vP b3m), (40, [], .agg ⟨gis .u8 (seti (seti (seti (seti (seti (List.replicate 256 (0 : Int)) (13 : Int) 1) (10 : Int) 1) (13 : Int) 1) (12 : Int) 1) (0 : Int) 1) 256⟩), (41, [], vI (w64 (v95m + 1)))] [] H105m (by kernel_rfl) trivial fun _ wd106m H107m hb => ?_
   clear H105m
   replace hS := hS.below hb
   clear hb
   exact ⟨_, Nat.lt_succ_self _, w64 (v95m + 1), w64 (v96m + (w64 (gi (agi (seti (seti (seti (seti (seti (List.replicate 256 (0 : Int)) (13 : Int) 1) (10 : Int) 1) (13 : Int) 1) (12 : Int) 1) (0 : Int) 1) 256) v95m))), hm, FrG.keep (ks := [0, 3, 40, 41]) H107m (by kernel_rfl), hS⟩
 ·clear hz
  rintro _ wd200m ⟨H, hS⟩
  refine s_reg [] [0, 3, 9] [(0, [], .slice gl.a 8 gl.c), (3, [], vP b3m), (9, [], vU 0)] [] H (by kernel_rfl) trivial fun _ wd110m H111m hb => ?_
  clear H
  replace hS := hS.below hb
  clear hb
  refine w_seq ?_
  refine s_reg [(.agg ⟨gis .u8 (seti (seti (seti (seti (seti (List.replicate 256 (0 : Int)) (13 : Int) 1) (10 : Int) 1) (13 : Int) 1) (12 : Int) 1) (0 : Int) 1) 256⟩)] [0, 3, 9, 57, 58] [(0, [], .slice gl.a 8 gl.c), (3, [], vP b3m), (9, [], vU 0), (57, [], .agg ⟨gis .u8 (seti (seti (seti (seti (seti (List.replicate 256 (0 : Int)) (13 : Int) 1) (10 : Int) 1) (13 : Int) 1) (12 : Int) 1) (0 : Int) 1) 256⟩), (58, [], vI 0)] [fun wz => V.atN b3m 6 (gis .u8 (seti (seti (seti (seti (seti (List.replicate 256 (0 : Int)) (13 : Int) 1) (10 : Int) 1) (13 : Int) 1) (12 : Int) 1) (0 : Int) 1) 256) 0 wz] H111m (by kernel_rfl) ⟨(Mix.atG (hS.mix 0 rfl) rfl rfl), trivial⟩ fun _ wd112m H113m hb => ?_
  clear H111m
  replace hS := hS.below hb
  clear hb
  have hz : (strings_makeGenericReplacer_cs_L2 300  300 0 0 (seti (seti (seti (seti (seti (List.replicate 256 (0 : Int)) (13 : Int) 1) (10 : Int) 1) (13 : Int) 1) (12 : Int) 1) (0 : Int) 1)) = some (gmap) := by kernel_rfl
  refine w_then (fun a' w' => Fr 117 [(0, [], .slice gl.a 8 gl.c), (3, [], vP b3m)] a' ∧ SH M X w [Ent.mix .u8 b3m [vN, vI 0, vN, vQ, vO, vI 4] gmap (256 : Int), eO 9 tS lit8 gl] w') ?_ ?_
  ·have hm := hz
   clear hz
   refine w_block ?_
   refine w_loop (fun kk a' w' => ∃ (v115m : Int) (v116m : Int) (v117m : List Int), strings_makeGenericReplacer_cs_L2 300  kk v115m v116m v117m = some _ ∧ Fr 117 [(0, [], .slice gl.a 8 gl.c), (3, [], vP b3m), (57, [], .agg ⟨gis .u8 (seti (seti (seti (seti (seti (List.replicate 256 (0 : Int)) (13 : Int) 1) (10 : Int) 1) (13 : Int) 1) (12 : Int) 1) (0 : Int) 1) 256⟩), (9, [], vU v115m), (58, [], vI v116m)] a' ∧ SH M X w [Ent.mix .u8 b3m [vN, vI 0, vN, vQ, vO, vI 4] v117m (256 : Int), eO 9 tS lit8 gl] w') ⟨_, 0, 0, seti (seti (seti (seti (seti (List.replicate 256 (0 : Int)) (13 : Int) 1) (10 : Int) 1) (13 : Int) 1) (12 : Int) 1) (0 : Int) 1, hm, FrG.keep (ks := [0, 3, 57, 9, 58]) H113m (by kernel_rfl), hS⟩ ?_
   clear hm H113m hS
   rintro kk _ wd143m ⟨v115m, v116m, v117m, hm, H, hS⟩
   cases kk with
   | zero => exact noneE hm
   | succ kk =>
    rw [strings_makeGenericReplacer_cs_L2] at hm
    refine s_reg [] [0, 3, 9, 57, 58, 59] [(0, [], .slice gl.a 8 gl.c), (3, [], vP b3m), (9, [], vU v115m), (57, [], .agg ⟨gis .u8 (seti (seti (seti (seti (seti (List.replicate 256 (0 : Int)) (13 : Int) 1) (10 : Int) 1) (13 : Int) 1) (12 : Int) 1) (0 : Int) 1) 256⟩), (58, [], vI v116m), (59, [], .bool (decide (v116m < 256)))] [] H (by kernel_rfl) trivial fun _ wd118m H119m hb => ?_
    clear H
    replace hS := hS.below hb
    clear hb
    refine w_seq ?_
    refine w_if H119m rfl (fun hc => ?_) (fun hc => ?c142m)
    case c142m =>
     replace hm := bF hc hm
     refine w_exit rfl ?_
     obtain rfl := someE hm
     exact ⟨FrG.keep (ks := [0, 3]) H119m (by kernel_rfl), hS⟩
    replace hm := bT hc hm
    refine w_skip ?_
    obtain ⟨z120m, hz, hm⟩ := bindE hm
    refine w_cut (fun a' w' => Fr 117 [(0, [], .slice gl.a 8 gl.c), (3, [], vP b3m), (57, [], .agg ⟨gis .u8 (seti (seti (seti (seti (seti (List.replicate 256 (0 : Int)) (13 : Int) 1) (10 : Int) 1) (13 : Int) 1) (12 : Int) 1) (0 : Int) 1) 256⟩), (58, [], vI v116m), (9, [], vU z120m.1)] a' ∧ SH M X w [Ent.mix .u8 b3m [vN, vI 0, vN, vQ, vO, vI 4] z120m.2 (256 : Int), eO 9 tS lit8 gl] w') ?_ ?_
    ·replace hm := hz
     refine w_block ?_
     obtain ⟨ho121m, hm⟩ := chkE hm
     refine s_reg [] [0, 3, 9, 10, 11, 57, 58] [(0, [], .slice gl.a 8 gl.c), (3, [], vP b3m), (9, [], vU v115m), (10, [], vI v116m), (11, [], vU (gi (agi (seti (seti (seti (seti (seti (List.replicate 256 (0 : Int)) (13 : Int) 1) (10 : Int) 1) (13 : Int) 1) (12 : Int) 1) (0 : Int) 1) 256) v116m)), (57, [], .agg ⟨gis .u8 (seti (seti (seti (seti (seti (List.replicate 256 (0 : Int)) (13 : Int) 1) (10 : Int) 1) (13 : Int) 1) (12 : Int) 1) (0 : Int) 1) 256⟩), (58, [], vI v116m)] [fun _ => 0 ≤ v116m ∧ v116m < (256 : Int)] H119m (by kernel_rfl) ⟨ho121m, trivial⟩ fun _ wd122m H123m hb => ?_
     clear H119m
     replace hS := hS.below hb
     clear hb
     refine s_reg [] [0, 3, 9, 10, 57, 58, 63] [(0, [], .slice gl.a 8 gl.c), (3, [], vP b3m), (9, [], vU v115m), (10, [], vI v116m), (57, [], .agg ⟨gis .u8 (seti (seti (seti (seti (seti (List.replicate 256 (0 : Int)) (13 : Int) 1) (10 : Int) 1) (13 : Int) 1) (12 : Int) 1) (0 : Int) 1) 256⟩), (58, [], vI v116m), (63, [], .bool ((gi (agi (seti (seti (seti (seti (seti (List.replicate 256 (0 : Int)) (13 : Int) 1) (10 : Int) 1) (13 : Int) 1) (12 : Int) 1) (0 : Int) 1) 256) v116m) == 0))] [] H123m (by kernel_rfl) trivial fun _ wd124m H125m hb => ?_
     clear H123m
     replace hS := hS.below hb
     clear hb
     refine w_if H125m rfl (fun hc => ?_) (fun hc => ?c138m)
     case c138m =>
      replace hm := bF hc hm
      refine w_seq ?_
      refine wl_start ?_
      refine wl_batch 0 6 [] [0, 3, 9, 57, 58, 76, 79] [(0, [], .slice gl.a 8 gl.c), (3, [], vP b3m), (9, [], vU v115m), (57, [], .agg ⟨gis .u8 (seti (seti (seti (seti (seti (List.replicate 256 (0 : Int)) (13 : Int) 1) (10 : Int) 1) (13 : Int) 1) (12 : Int) 1) (0 : Int) 1) 256⟩), (58, [], vI v116m), (76, [], vU v115m), (79, [], .pointer (some ⟨b3m, 6 + (v116m).toNat * 1, none⟩))] [fun _ => 0 ≤ v116m ∧ v116m < (256 : Int)] H125m (by decide) (by kernel_rfl) ⟨ho121m, trivial⟩ fun _ wd131m H132m hb => ?_
      clear H125m
      replace hS := hS.below hb
      clear hb
      have hd := hS.hand [0] [1] rfl rfl
      refine m_stp0 [0, 3, 9, 57, 58] [(0, [], .slice gl.a 8 gl.c), (3, [], vP b3m), (9, [], vU v115m), (57, [], .agg ⟨gis .u8 (seti (seti (seti (seti (seti (List.replicate 256 (0 : Int)) (13 : Int) 1) (10 : Int) 1) (13 : Int) 1) (12 : Int) 1) (0 : Int) 1) 256⟩), (58, [], vI v116m)] H132m rfl rfl rfl (o_mrstore H132m hd rfl rfl (by kernel_rfl) rfl ho121m) rfl fun _ wd133m H134m hq => ?_
      clear H132m hd
      obtain ⟨_, hq⟩ := hq
      obtain ⟨q135m, hq135m, hm⟩ := letE hm
      rw [← hq135m] at hq
      replace hS : SH M X w [Ent.mix .u8 b3m [vN, vI 0, vN, vQ, vO, vI 4] q135m (256 : Int), eO 9 tS lit8 gl] _ := hS.join [0] [1] rfl rfl hq
      clear hq
      refine wl_end rfl ?_
      refine w_reg [] [0, 3, 9, 57, 58] [(0, [], .slice gl.a 8 gl.c), (3, [], vP b3m), (9, [], vU (wu8 (v115m + 1))), (57, [], .agg ⟨gis .u8 (seti (seti (seti (seti (seti (List.replicate 256 (0 : Int)) (13 : Int) 1) (10 : Int) 1) (13 : Int) 1) (12 : Int) 1) (0 : Int) 1) 256⟩), (58, [], vI v116m)] [] H134m (by kernel_rfl) trivial fun _ wd136m H137m hb => ?_
      clear H134m
      replace hS := hS.below hb
      clear hb
      obtain rfl := someE hm
      exact ⟨FrG.keep (ks := [0, 3, 57, 58, 9]) H137m (by kernel_rfl), hS⟩
     replace hm := bT hc hm
     obtain ⟨q127m, hq127m, hm⟩ := letE hm
     refine w_drawS (base := [(0, [], .slice gl.a 8 gl.c), (3, [], vP b3m), (9, [], vU v115m), (10, [], vI v116m), (57, [], .agg ⟨gis .u8 (seti (seti (seti (seti (seti (List.replicate 256 (0 : Int)) (13 : Int) 1) (10 : Int) 1) (13 : Int) 1) (12 : Int) 1) (0 : Int) 1) 256⟩), (58, [], vI v116m)]) (L := [Ent.mix .u8 b3m [vN, vI 0, vN, vQ, vO, vI 4] v117m (256 : Int), eO 9 tS lit8 gl]) 11 2 (fun yg126m => [vP b3m, vI v116m, vP b3m, vP b3m, vA b3m 5, vI 4, vU 4, vP b3m, vA b3m 6, .pointer (some ⟨b3m, 6 + (v116m).toNat * 1, none⟩), undef]) (fun yg126m => [[], [], [], [], [], [], [], [], [], [], [Ent.mix .u8 b3m [vN, vI 0, vN, vQ, vO, vI 4] q127m (256 : Int)]]) [[11], [], [11], [11], [11], [11], [], [11], [11], [11], [11]] [[], [], [], [], [], [], [], [], [], [], [11]] [[0], [1], [2], [2, 3], [2, 3, 4], [2, 3, 4, 5], [2, 3, 4, 5, 6], [0, 7], [0, 7, 8], [0, 1, 7, 8, 9], [0, 1, 2, 3, 4, 5, 6, 7, 8, 9, 10]] [] (FrG.keep (ks := [0, 3, 9, 10, 57, 58]) H125m (by kernel_rfl)) (fun _ _ h => by cases h) (by kernel_rfl) hS (by kernel_rfl) rfl rfl (by kernel_rfl) (by kernel_rfl) (by kernel_rfl) (gd_none (by kernel_rfl) _ _) ?hloc_yg126m ?hstep_yg126m fun _ wd128m yg126m H129m hv hS => ?hK_yg126m
     case hloc_yg126m => exact ⟨(fun _ _ _ _ => ⟨rfl, rfl⟩), (fun _ _ _ _ => ⟨rfl, rfl⟩), (fun _ _ _ _ => ⟨rfl, rfl⟩), (fun _ _ _ _ => ⟨rfl, rfl⟩), (fun _ _ _ _ => ⟨rfl, rfl⟩), (fun _ _ _ _ => ⟨rfl, rfl⟩), (fun _ _ _ _ => ⟨rfl, rfl⟩), (fun _ _ _ _ => ⟨rfl, rfl⟩), (fun _ _ _ _ => ⟨rfl, rfl⟩), (fun _ _ _ _ => ⟨rfl, rfl⟩), (fun _ _ _ _ => ⟨rfl, rfl⟩), trivial⟩
     case hstep_yg126m =>
      refine ⟨?_, ?_, ?_, ?_, ?_, ?_, ?_, ?_, ?_, ?_, ?_, trivial⟩
      ·intro o ho a w yg126m M Hb hv hO hS
       obtain rfl := Option.some.inj ho
       exact Stp.mono (o_evs [] (vP b3m) none [] Hb rfl (by kernel_rfl) (fun q e => by cases e)) fun _ _ hq => ⟨gL [], fun _ _ => hq.1, (hS.below hq.2.below).sel [0] rfl⟩
      ·intro o ho a w yg126m M Hb hv hO hS
       obtain rfl := Option.some.inj ho
       exact Stp.mono (o_evs [] (vI v116m) none [] Hb rfl (by kernel_rfl) (fun q e => by cases e)) fun _ _ hq => ⟨gL [], fun _ _ => hq.1, (hS.below hq.2.below).sel [] rfl⟩
      ·intro o ho a w yg126m M Hb hv hO hS
       obtain rfl := Option.some.inj ho
       exact Stp.mono (o_evs [] (vP b3m) none [] Hb rfl (by kernel_rfl) (fun q e => by cases e)) fun _ _ hq => ⟨gL [], fun _ _ => hq.1, (hS.below hq.2.below).sel [0] rfl⟩
      ·intro o ho a w yg126m M Hb hv hO hS
       obtain rfl := Option.some.inj ho
       exact Stp.mono (o_evs [] (vP b3m) none [] ((Hb).add (hv 2 (by decide) (by decide) 66 rfl)) rfl (by kernel_rfl) (fun q e => by cases e)) fun _ _ hq => ⟨gL [], fun _ _ => hq.1, (hS.below hq.2.below).sel [0] rfl⟩
      ·intro o ho a w yg126m M Hb hv hO hS
       obtain rfl := Option.some.inj ho
       exact Stp.mono (o_evs [] (vA b3m 5) none [] ((Hb).add (hv 3 (by decide) (by decide) 67 rfl)) rfl (by kernel_rfl) (fun q e => by cases e)) fun _ _ hq => ⟨gL [], fun _ _ => hq.1, (hS.below hq.2.below).sel [0] rfl⟩
      ·intro o ho a w yg126m M Hb hv hO hS
       obtain rfl := Option.some.inj ho
       exact Stp.mono (o_evs [(vI 4)] (vI 4) (some (fun wz => V.at1 ⟨b3m, 5, none⟩ (vI 4) wz)) [] ((Hb).add (hv 4 (by decide) (by decide) 68 rfl)) rfl (by kernel_rfl) (fun q e => by cases e; exact ((hS.mix 0 rfl).1.at1 rfl))) fun _ _ hq => ⟨gL [], fun _ _ => hq.1, (hS.below hq.2.below).sel [0] rfl⟩
      ·intro o ho a w yg126m M Hb hv hO hS
       obtain rfl := Option.some.inj ho
       exact Stp.mono (o_evs [] (vU 4) none [] ((Hb).add (hv 5 (by decide) (by decide) 69 rfl)) rfl (by kernel_rfl) (fun q e => by cases e)) fun _ _ hq => ⟨gL [], fun _ _ => hq.1, (hS.below hq.2.below).sel [] rfl⟩
      ·intro o ho a w yg126m M Hb hv hO hS
       obtain rfl := Option.some.inj ho
       exact Stp.mono (o_evs [] (vP b3m) none [] ((Hb).add (hv 0 (by decide) (by decide) 64 rfl)) rfl (by kernel_rfl) (fun q e => by cases e)) fun _ _ hq => ⟨gL [], fun _ _ => hq.1, (hS.below hq.2.below).sel [0] rfl⟩
      ·intro o ho a w yg126m M Hb hv hO hS
       obtain rfl := Option.some.inj ho
       exact Stp.mono (o_evs [] (vA b3m 6) none [] ((Hb).add (hv 7 (by decide) (by decide) 71 rfl)) rfl (by kernel_rfl) (fun q e => by cases e)) fun _ _ hq => ⟨gL [], fun _ _ => hq.1, (hS.below hq.2.below).sel [0] rfl⟩
      ·intro o ho a w yg126m M Hb hv hO hS
       obtain rfl := Option.some.inj ho
       exact Stp.mono (o_evs [] (.pointer (some ⟨b3m, 6 + (v116m).toNat * 1, none⟩)) (some (fun _ => 0 ≤ v116m ∧ v116m < (256 : Int))) [] (((Hb).add (hv 1 (by decide) (by decide) 65 rfl)).add (hv 8 (by decide) (by decide) 72 rfl)) rfl (by kernel_rfl) (fun q e => by cases e; exact ho121m)) fun _ _ hq => ⟨gL [], fun _ _ => hq.1, (hS.below hq.2.below).sel [0] rfl⟩
      ·intro o ho a w yg126m M Hb hv hO hS0
       obtain rfl := Option.some.inj ho
       have H : Fr 117 ([(73, [], .pointer (some ⟨b3m, 6 + (v116m).toNat * 1, none⟩)), (70, [], vU 4)] ++ [(0, [], .slice gl.a 8 gl.c), (3, [], vP b3m), (9, [], vU v115m), (10, [], vI v116m), (57, [], .agg ⟨gis .u8 (seti (seti (seti (seti (seti (List.replicate 256 (0 : Int)) (13 : Int) 1) (10 : Int) 1) (13 : Int) 1) (12 : Int) 1) (0 : Int) 1) 256⟩), (58, [], vI v116m)]) _ := ((Hb).add (hv 6 (by decide) (by decide) 70 rfl)).add (hv 9 (by decide) (by decide) 73 rfl)
       obtain ⟨X, hX⟩ : ∃ X, X = fpl [Ent.mix .u8 b3m [vN, vI 0, vN, vQ, vO, vI 4] v117m (256 : Int)] := ⟨_, rfl⟩
       have hS : SH M X w [Ent.mix .u8 b3m [vN, vI 0, vN, vQ, vO, vI 4] v117m (256 : Int)] w := by rw [hX]; exact hS0
       have hd := hS.hand [0] [] rfl rfl
       refine Stp.mono (o_mrstore H hd rfl rfl (by kernel_rfl) rfl ho121m) ?_
       rintro v w2 hq
       rw [← hq127m] at hq
       replace hS : SH M X w [Ent.mix .u8 b3m [vN, vI 0, vN, vQ, vO, vI 4] q127m (256 : Int)] _ := hS.join [0] [] rfl rfl hq
       clear hq
       rw [hX] at hS
       exact ⟨gL [], (fun _ h => by cases h), hS.sel [0] rfl⟩
     have H130m : Fr 117 [(0, [], .slice gl.a 8 gl.c), (3, [], vP b3m), (9, [], vU v115m), (57, [], .agg ⟨gis .u8 (seti (seti (seti (seti (seti (List.replicate 256 (0 : Int)) (13 : Int) 1) (10 : Int) 1) (13 : Int) 1) (12 : Int) 1) (0 : Int) 1) 256⟩), (58, [], vI v116m)] _ := (FrG.keep (ks := [0, 3, 9, 57, 58]) H129m (by kernel_rfl))
     replace hS : SH M X w [Ent.mix .u8 b3m [vN, vI 0, vN, vQ, vO, vI 4] q127m (256 : Int), eO 9 tS lit8 gl] _ := hS
     clear hv H129m
     obtain rfl := someE hm
     exact ⟨FrG.keep (ks := [0, 3, 57, 58, 9]) H130m (by kernel_rfl), hS⟩
    ·rintro _ wd141m ⟨H, hS⟩
     refine w_reg [] [0, 3, 9, 57, 58] [(0, [], .slice gl.a 8 gl.c), (3, [], vP b3m), (9, [], vU z120m.1), (57, [], .agg ⟨gis .u8 (seti (seti (seti (seti (seti (List.replicate 256 (0 : Int)) (13 : Int) 1) (10 : Int) 1) (13 : Int) 1) (12 : Int) 1) (0 : Int) 1) 256⟩), (58, [], vI (w64 (v116m + 1)))] [] H (by kernel_rfl) trivial fun _ wd139m H140m hb => ?_
     clear H
     replace hS := hS.below hb
     clear hb
     exact ⟨_, Nat.lt_succ_self _, z120m.1, w64 (v116m + 1), z120m.2, hm, FrG.keep (ks := [0, 3, 57, 9, 58]) H140m (by kernel_rfl), hS⟩
  ·clear hz
   rintro _ wd199m ⟨H, hS⟩
   refine w_seq ?_
   refine wl_start ?_
   refine wl_batch 0 5 [(vI 4)] [0, 3, 83, 87] [(0, [], .slice gl.a 8 gl.c), (3, [], vP b3m), (83, [], vP b3m), (87, [], vI 4)] [fun wz => V.at1 ⟨b3m, 5, none⟩ (vI 4) wz] H (by decide) (by kernel_rfl) ⟨((hS.mix 0 rfl).1.at1 rfl), trivial⟩ fun _ wd144m H145m hb => ?_
   clear H
   replace hS := hS.below hb
   clear hb
   have hd := hS.hand [] [0, 1] rfl rfl
   refine m_stp [88, 0, 3, 83] [(0, [], .slice gl.a 8 gl.c), (3, [], vP b3m), (83, [], vP b3m)] H145m rfl rfl rfl rfl (o_mkblk (E := 146) (zv := vQ) 4 [vQ, vQ, vQ, vQ] H145m hd rfl rfl (by kernel_rfl) (by kernel_rfl) (by kernel_rfl) rfl (by kernel_rfl)) (fun _ => rfl) fun _ wd147m v H148m hq => ?_
   clear H145m hd
   obtain ⟨b146m, rfl, hq⟩ := hq
   replace hS : SH M X w [eB b146m [vQ, vQ, vQ, vQ], Ent.mix .u8 b3m [vN, vI 0, vN, vQ, vO, vI 4] gmap (256 : Int), eO 9 tS lit8 gl] _ := hS.join [] [0, 1] rfl rfl hq
   clear hq
   refine wl_batch 6 9 [] [0, 3, 88, 91] [(0, [], .slice gl.a 8 gl.c), (3, [], vP b3m), (88, [], .slice (some ⟨b146m, 0, none⟩) 4 4), (91, [], vA b3m 4)] [] H148m (by decide) (by kernel_rfl) trivial fun _ wd149m H150m hb => ?_
   clear H148m
   replace hS := hS.below hb
   clear hb
   have hd := hS.hand [1] [0, 2] rfl rfl
   refine m_stp0 [0, 3] [(0, [], .slice gl.a 8 gl.c), (3, [], vP b3m)] H150m rfl rfl rfl (o_mstore [vN, vI 0, vN, vQ, .slice (some ⟨b146m, 0, none⟩) 4 4, vI 4] H150m hd rfl rfl (by kernel_rfl) rfl rfl rfl) rfl fun _ wd151m H152m hq => ?_
   clear H150m hd
   obtain ⟨_, hq⟩ := hq
   replace hS : SH M X w [Ent.mix .u8 b3m [vN, vI 0, vN, vQ, .slice (some ⟨b146m, 0, none⟩) 4 4, vI 4] gmap (256 : Int), eB b146m [vQ, vQ, vQ, vQ], eO 9 tS lit8 gl] _ := hS.join [1] [0, 2] rfl rfl hq
   clear hq
   refine wl_end rfl ?_
   refine w_seq ?_
   refine s_reg [] [0, 3, 12] [(0, [], .slice gl.a 8 gl.c), (3, [], vP b3m), (12, [], vI 0)] [] H152m (by kernel_rfl) trivial fun _ wd153m H154m hb => ?_
   clear H152m
   replace hS := hS.below hb
   clear hb
   refine w_block ?_
   refine w_loopU ?_
   refine lw_round ?_
   refine w_seq ?_
   refine s_reg [] [0, 3, 12, 95] [(0, [], .slice gl.a 8 gl.c), (3, [], vP b3m), (12, [], vI 0), (95, [], vT)] [] H154m (by kernel_rfl) trivial fun _ wd155m H156m hb => ?_
   clear H154m
   replace hS := hS.below hb
   clear hb
   refine w_if H156m rfl (fun _ => ?_) (fun hc => by cases hc)
   refine w_skip ?_
   refine w_seq ?_
   refine w_block ?_
   refine w_drawS (base := [(0, [], .slice gl.a 8 gl.c), (3, [], vP b3m), (12, [], vI 0)]) (L := [Ent.mix .u8 b3m [vN, vI 0, vN, vQ, .slice (some ⟨b146m, 0, none⟩) 4 4, vI 4] gmap (256 : Int), eB b146m [vQ, vQ, vQ, vQ], eO 9 tS lit8 gl]) 18 3 (fun yg157m => [vP b3m, vP b3m, vP b3m, .slice gl.a 8 gl.c, vI 0, .pointer (some ⟨ab gl.a, ao gl.a + ((0 : Int)).toNat * 1, none⟩), vS [13, 10], .slice gl.a 8 gl.c, vI 0, vI 1, .pointer (some ⟨ab gl.a, ao gl.a + ((1 : Int)).toNat * 1, none⟩), vS [10], .slice gl.a 8 gl.c, vI 8, vI 0, vI 8, vP b3m, .tuple ⟨[]⟩]) (fun yg157m => [[], [], [], [], [], [], [], [], [], [], [], [], [], [], [], [], [], [eB (ab (yg157m 17 0).a) [vS [10], vI 8, vN, vQ, vO], eB (ab (yg157m 17 1).a) [vN, vI 0, vS [10], .pointer (some ⟨(ab (yg157m 17 0).a), 0, none⟩), vO], eB b146m [vQ, vQ, vQ, .pointer (some ⟨(ab (yg157m 17 1).a), 0, none⟩)]]]) [[18, 19], [18, 19], [18, 19], [20], [], [20], [20], [20], [], [], [20], [20], [20], [20], [], [], [18, 19], [18, 19]] [[], [], [], [], [], [], [], [], [], [], [], [], [], [], [], [], [], [19]] [[0], [0, 1], [0, 1, 2], [3], [4], [3, 4, 5], [3, 4, 5, 6], [7], [8], [8, 9], [7, 8, 9, 10], [7, 8, 9, 10, 11], [12], [12, 13], [14], [12, 13, 14, 15], [16], [0, 1, 2, 3, 4, 5, 6, 7, 8, 9, 10, 11, 12, 13, 14, 15, 16, 17]] [] (FrG.keep (ks := [0, 3, 12]) H156m (by kernel_rfl)) (fun _ _ h => by cases h) (by kernel_rfl) hS (by kernel_rfl) rfl rfl (by kernel_rfl) (by kernel_rfl) (by kernel_rfl) (gd_none (by kernel_rfl) _ _) ?hloc_yg157m ?hstep_yg157m fun _ wd160m yg157m H161m hv hS => ?hK_yg157m
   case hloc_yg157m => exact ⟨(fun _ _ _ _ => ⟨rfl, rfl⟩), (fun _ _ _ _ => ⟨rfl, rfl⟩), (fun _ _ _ _ => ⟨rfl, rfl⟩), (fun _ _ _ _ => ⟨rfl, rfl⟩), (fun _ _ _ _ => ⟨rfl, rfl⟩), (fun _ _ _ _ => ⟨rfl, rfl⟩), (fun _ _ _ _ => ⟨rfl, rfl⟩), (fun _ _ _ _ => ⟨rfl, rfl⟩), (fun _ _ _ _ => ⟨rfl, rfl⟩), (fun _ _ _ _ => ⟨rfl, rfl⟩), (fun _ _ _ _ => ⟨rfl, rfl⟩), (fun _ _ _ _ => ⟨rfl, rfl⟩), (fun _ _ _ _ => ⟨rfl, rfl⟩), (fun _ _ _ _ => ⟨rfl, rfl⟩), (fun _ _ _ _ => ⟨rfl, rfl⟩), (fun _ _ _ _ => ⟨rfl, rfl⟩), (fun _ _ _ _ => ⟨rfl, rfl⟩), (fun yg157m i g hi => by have h17 : updC yg157m i g 17 = yg157m 17 := updC_out hi rfl; exact ⟨(show (.tuple ⟨[]⟩ : Value) = .tuple ⟨[]⟩ by simp only []), (show ([eB (ab ((updC yg157m i g) 17 0).a) [vS [10], vI 8, vN, vQ, vO], eB (ab ((updC yg157m i g) 17 1).a) [vN, vI 0, vS [10], .pointer (some ⟨(ab ((updC yg157m i g) 17 0).a), 0, none⟩), vO], eB b146m [vQ, vQ, vQ, .pointer (some ⟨(ab ((updC yg157m i g) 17 1).a), 0, none⟩)]] : List Ent) = [eB (ab (yg157m 17 0).a) [vS [10], vI 8, vN, vQ, vO], eB (ab (yg157m 17 1).a) [vN, vI 0, vS [10], .pointer (some ⟨(ab (yg157m 17 0).a), 0, none⟩), vO], eB b146m [vQ, vQ, vQ, .pointer (some ⟨(ab (yg157m 17 1).a), 0, none⟩)]] by simp only [h17])⟩), trivial⟩
   case hstep_yg157m =>
    refine ⟨?_, ?_, ?_, ?_, ?_, ?_, ?_, ?_, ?_, ?_, ?_, ?_, ?_, ?_, ?_, ?_, ?_, ?_, trivial⟩
    ·intro o ho a w yg157m M Hb hv hO hS
     obtain rfl := Option.some.inj ho
     exact Stp.mono (o_evs [] (vP b3m) none [] Hb rfl (by kernel_rfl) (fun q e => by cases e)) fun _ _ hq => ⟨gL [], fun _ _ => hq.1, (hS.below hq.2.below).sel [0, 1] rfl⟩
    ·intro o ho a w yg157m M Hb hv hO hS
     obtain rfl := Option.some.inj ho
     exact Stp.mono (o_evs [] (vP b3m) none [] ((Hb).add (hv 0 (by decide) (by decide) 98 rfl)) rfl (by kernel_rfl) (fun q e => by cases e)) fun _ _ hq => ⟨gL [], fun _ _ => hq.1, (hS.below hq.2.below).sel [0, 1] rfl⟩
    ·intro o ho a w yg157m M Hb hv hO hS
     obtain rfl := Option.some.inj ho
     exact Stp.mono (o_evs [] (vP b3m) none [] ((Hb).add (hv 1 (by decide) (by decide) 99 rfl)) rfl (by kernel_rfl) (fun q e => by cases e)) fun _ _ hq => ⟨gL [], fun _ _ => hq.1, (hS.below hq.2.below).sel [0, 1] rfl⟩
    ·intro o ho a w yg157m M Hb hv hO hS
     obtain rfl := Option.some.inj ho
     exact Stp.mono (o_evs [] (.slice gl.a 8 gl.c) none [] Hb rfl (by kernel_rfl) (fun q e => by cases e)) fun _ _ hq => ⟨gL [], fun _ _ => hq.1, (hS.below hq.2.below).sel [0] rfl⟩
    ·intro o ho a w yg157m M Hb hv hO hS
     obtain rfl := Option.some.inj ho
     exact Stp.mono (o_evs [] (vI 0) none [] Hb rfl (by kernel_rfl) (fun q e => by cases e)) fun _ _ hq => ⟨gL [], fun _ _ => hq.1, (hS.below hq.2.below).sel [] rfl⟩
    ·intro o ho a w yg157m M Hb hv hO hS
     obtain rfl := Option.some.inj ho
     exact Stp.mono (o_evs [] (.pointer (some ⟨ab gl.a, ao gl.a + ((0 : Int)).toNat * 1, none⟩)) (some (fun _ => oka gl.a ∧ 0 ≤ (0 : Int) ∧ (0 : Int) < ln lit8)) [] (((Hb).add (hv 3 (by decide) (by decide) 101 rfl)).add (hv 4 (by decide) (by decide) 102 rfl)) rfl (by kernel_rfl) (fun q e => by cases e; exact ((hS.osl 0 rfl).oki (show 0 ≤ (0 : Int) ∧ (0 : Int) < ln lit8 from by decide)))) fun _ _ hq => ⟨gL [], fun _ _ => hq.1, (hS.below hq.2.below).sel [0] rfl⟩
    ·intro o ho a w yg157m M Hb hv hO hS
     obtain rfl := Option.some.inj ho
     exact Stp.mono (o_evs [(vS [13, 10])] (vS [13, 10]) (some (fun wz => V.at1 ⟨ab gl.a, ao gl.a + ((0 : Int)).toNat * 1, none⟩ (vS [13, 10]) wz)) [] ((Hb).add (hv 5 (by decide) (by decide) 103 rfl)) rfl (by kernel_rfl) (fun q e => by cases e; exact ((hS.osl 0 rfl).at1 (show 0 ≤ (0 : Int) ∧ (0 : Int) < ln lit8 from by decide) 0 rfl))) fun _ _ hq => ⟨gL [], fun _ _ => hq.1, (hS.below hq.2.below).sel [0] rfl⟩
    ·intro o ho a w yg157m M Hb hv hO hS
     obtain rfl := Option.some.inj ho
     exact Stp.mono (o_evs [] (.slice gl.a 8 gl.c) none [] Hb rfl (by kernel_rfl) (fun q e => by cases e)) fun _ _ hq => ⟨gL [], fun _ _ => hq.1, (hS.below hq.2.below).sel [0] rfl⟩
    ·intro o ho a w yg157m M Hb hv hO hS
     obtain rfl := Option.some.inj ho
     exact Stp.mono (o_evs [] (vI 0) none [] Hb rfl (by kernel_rfl) (fun q e => by cases e)) fun _ _ hq => ⟨gL [], fun _ _ => hq.1, (hS.below hq.2.below).sel [] rfl⟩
    ·intro o ho a w yg157m M Hb hv hO hS
     obtain rfl := Option.some.inj ho
     exact Stp.mono (o_evs [] (vI 1) none [] ((Hb).add (hv 8 (by decide) (by decide) 106 rfl)) rfl (by kernel_rfl) (fun q e => by cases e)) fun _ _ hq => ⟨gL [], fun _ _ => hq.1, (hS.below hq.2.below).sel [] rfl⟩
    ·intro o ho a w yg157m M Hb hv hO hS
     obtain rfl := Option.some.inj ho
     exact Stp.mono (o_evs [] (.pointer (some ⟨ab gl.a, ao gl.a + ((1 : Int)).toNat * 1, none⟩)) (some (fun _ => oka gl.a ∧ 0 ≤ (1 : Int) ∧ (1 : Int) < ln lit8)) [] (((Hb).add (hv 7 (by decide) (by decide) 105 rfl)).add (hv 9 (by decide) (by decide) 107 rfl)) rfl (by kernel_rfl) (fun q e => by cases e; exact ((hS.osl 0 rfl).oki (show 0 ≤ (1 : Int) ∧ (1 : Int) < ln lit8 from by decide)))) fun _ _ hq => ⟨gL [], fun _ _ => hq.1, (hS.below hq.2.below).sel [0] rfl⟩
    ·intro o ho a w yg157m M Hb hv hO hS
     obtain rfl := Option.some.inj ho
     exact Stp.mono (o_evs [(vS [10])] (vS [10]) (some (fun wz => V.at1 ⟨ab gl.a, ao gl.a + ((1 : Int)).toNat * 1, none⟩ (vS [10]) wz)) [] ((Hb).add (hv 10 (by decide) (by decide) 108 rfl)) rfl (by kernel_rfl) (fun q e => by cases e; exact ((hS.osl 0 rfl).at1 (show 0 ≤ (1 : Int) ∧ (1 : Int) < ln lit8 from by decide) 0 rfl))) fun _ _ hq => ⟨gL [], fun _ _ => hq.1, (hS.below hq.2.below).sel [0] rfl⟩
    ·intro o ho a w yg157m M Hb hv hO hS
     obtain rfl := Option.some.inj ho
     exact Stp.mono (o_evs [] (.slice gl.a 8 gl.c) none [] Hb rfl (by kernel_rfl) (fun q e => by cases e)) fun _ _ hq => ⟨gL [], fun _ _ => hq.1, (hS.below hq.2.below).sel [0] rfl⟩
    ·intro o ho a w yg157m M Hb hv hO hS
     obtain rfl := Option.some.inj ho
     exact Stp.mono (o_evs [] (vI 8) none [] ((Hb).add (hv 12 (by decide) (by decide) 110 rfl)) rfl (by kernel_rfl) (fun q e => by cases e)) fun _ _ hq => ⟨gL [], fun _ _ => hq.1, (hS.below hq.2.below).sel [0] rfl⟩
    ·intro o ho a w yg157m M Hb hv hO hS
     obtain rfl := Option.some.inj ho
     exact Stp.mono (o_evs [] (vI 0) none [] Hb rfl (by kernel_rfl) (fun q e => by cases e)) fun _ _ hq => ⟨gL [], fun _ _ => hq.1, (hS.below hq.2.below).sel [] rfl⟩
    ·intro o ho a w yg157m M Hb hv hO hS
     obtain rfl := Option.some.inj ho
     exact Stp.mono (o_evs [] (vI 8) none [] (((Hb).add (hv 13 (by decide) (by decide) 111 rfl)).add (hv 14 (by decide) (by decide) 112 rfl)) rfl (by kernel_rfl) (fun q e => by cases e)) fun _ _ hq => ⟨gL [], fun _ _ => hq.1, (hS.below hq.2.below).sel [] rfl⟩
    ·intro o ho a w yg157m M Hb hv hO hS
     obtain rfl := Option.some.inj ho
     exact Stp.mono (o_evs [] (vP b3m) none [] Hb rfl (by kernel_rfl) (fun q e => by cases e)) fun _ _ hq => ⟨gL [], fun _ _ => hq.1, (hS.below hq.2.below).sel [0, 1] rfl⟩
    ·intro o ho a w yg157m M Hb hv hO hS0
     obtain rfl := Option.some.inj ho
     have H : Fr 117 ([(114, [], vP b3m), (113, [], vI 8), (109, [], vS [10]), (104, [], vS [13, 10]), (100, [], vP b3m)] ++ [(0, [], .slice gl.a 8 gl.c), (3, [], vP b3m), (12, [], vI 0)]) _ := (((((Hb).add (hv 2 (by decide) (by decide) 100 rfl)).add (hv 6 (by decide) (by decide) 104 rfl)).add (hv 11 (by decide) (by decide) 109 rfl)).add (hv 15 (by decide) (by decide) 113 rfl)).add (hv 16 (by decide) (by decide) 114 rfl)
     obtain ⟨X, hX⟩ : ∃ X, X = fpl [Ent.mix .u8 b3m [vN, vI 0, vN, vQ, .slice (some ⟨b146m, 0, none⟩) 4 4, vI 4] gmap (256 : Int), eB b146m [vQ, vQ, vQ, vQ]] := ⟨_, rfl⟩
     have hS : SH M X w [Ent.mix .u8 b3m [vN, vI 0, vN, vQ, .slice (some ⟨b146m, 0, none⟩) 4 4, vI 4] gmap (256 : Int), eB b146m [vQ, vQ, vQ, vQ]] w := by rw [hX]; exact hS0
     have hd := hS.hand [0, 1] [] rfl rfl
     refine Stp.mono (o_callx H rfl rfl (strings_trieNode_add_cs _ _ hd)) ?_
     rintro v w2 hq
     obtain ⟨b158m, b159m, rfl, hq⟩ := hq
     replace hS : SH M X w [eB b159m [vS [10], vI 8, vN, vQ, vO], eB b158m [vN, vI 0, vS [10], vP b159m, vO], eB b146m [vQ, vQ, vQ, vP b158m], Ent.mix .u8 b3m [vN, vI 0, vN, vQ, .slice (some ⟨b146m, 0, none⟩) 4 4, vI 4] gmap (256 : Int)] _ := hS.join [0, 1] [] rfl rfl hq
     clear hq
     rw [hX] at hS
     exact ⟨gL [Gh.mk (some ⟨b159m, 0, none⟩) 0 fun _ _ => .nil, Gh.mk (some ⟨b158m, 0, none⟩) 0 fun _ _ => .nil], fun _ _ => rfl, hS.sel [0, 1, 2, 3] rfl⟩
   have H162m : Fr 117 [(0, [], .slice gl.a 8 gl.c), (3, [], vP b3m), (12, [], vI 0)] _ := (FrG.keep (ks := [0, 3, 12]) H161m (by kernel_rfl))
   replace hS : SH M X w [eB (ab (yg157m 17 0).a) [vS [10], vI 8, vN, vQ, vO], eB (ab (yg157m 17 1).a) [vN, vI 0, vS [10], .pointer (some ⟨(ab (yg157m 17 0).a), 0, none⟩), vO], eB b146m [vQ, vQ, vQ, .pointer (some ⟨(ab (yg157m 17 1).a), 0, none⟩)], Ent.mix .u8 b3m [vN, vI 0, vN, vQ, .slice (some ⟨b146m, 0, none⟩) 4 4, vI 4] gmap (256 : Int), eO 9 tS lit8 gl] _ := hS
   clear hv H161m
   generalize ab (yg157m 17 0).a = b163m at H162m hS
   generalize ab (yg157m 17 1).a = b164m at H162m hS
   refine w_reg [] [0, 3, 12] [(0, [], .slice gl.a 8 gl.c), (3, [], vP b3m), (12, [], vI 2)] [] H162m (by kernel_rfl) trivial fun _ wd165m H166m hb => ?_
   clear H162m
   replace hS := hS.below hb
   clear hb
   refine lw_round ?_
   refine w_seq ?_
   refine s_reg [] [0, 3, 12, 95] [(0, [], .slice gl.a 8 gl.c), (3, [], vP b3m), (12, [], vI 2), (95, [], vT)] [] H166m (by kernel_rfl) trivial fun _ wd167m H168m hb => ?_
   clear H166m
   replace hS := hS.below hb
   clear hb
   refine w_if H168m rfl (fun _ => ?_) (fun hc => by cases hc)
   refine w_skip ?_
   refine w_seq ?_
   refine w_block ?_
   refine w_drawS (base := [(0, [], .slice gl.a 8 gl.c), (3, [], vP b3m), (12, [], vI 2)]) (L := [eB b163m [vS [10], vI 8, vN, vQ, vO], eB b164m [vN, vI 0, vS [10], vP b163m, vO], eB b146m [vQ, vQ, vQ, vP b164m], Ent.mix .u8 b3m [vN, vI 0, vN, vQ, .slice (some ⟨b146m, 0, none⟩) 4 4, vI 4] gmap (256 : Int), eO 9 tS lit8 gl]) 18 5 (fun yg169m => [vP b3m, vP b3m, vP b3m, .slice gl.a 8 gl.c, vI 2, .pointer (some ⟨ab gl.a, ao gl.a + ((2 : Int)).toNat * 1, none⟩), vS [13], .slice gl.a 8 gl.c, vI 2, vI 3, .pointer (some ⟨ab gl.a, ao gl.a + ((3 : Int)).toNat * 1, none⟩), vS [10], .slice gl.a 8 gl.c, vI 8, vI 2, vI 6, vP b3m, .tuple ⟨[]⟩]) (fun yg169m => [[], [], [], [], [], [], [], [], [], [], [], [], [], [], [], [], [], [eB b164m [vS [10], vI 6, vS [10], vP b163m, vO]]]) [[18, 19, 20, 21], [18, 19, 20, 21], [18, 19, 20, 21], [22], [], [22], [22], [22], [], [], [22], [22], [22], [22], [], [], [18, 19, 20, 21], [18, 19, 20, 21]] [[], [], [], [], [], [], [], [], [], [], [], [], [], [], [], [], [], [19]] [[0], [0, 1], [0, 1, 2], [3], [4], [3, 4, 5], [3, 4, 5, 6], [7], [8], [8, 9], [7, 8, 9, 10], [7, 8, 9, 10, 11], [12], [12, 13], [14], [12, 13, 14, 15], [16], [0, 1, 2, 3, 4, 5, 6, 7, 8, 9, 10, 11, 12, 13, 14, 15, 16, 17]] [] (FrG.keep (ks := [0, 3, 12]) H168m (by kernel_rfl)) (fun _ _ h => by cases h) (by kernel_rfl) hS (by kernel_rfl) rfl rfl (by kernel_rfl) (by kernel_rfl) (by kernel_rfl) (gd_none (by kernel_rfl) _ _) ?hloc_yg169m ?hstep_yg169m fun _ wd170m yg169m H171m hv hS => ?hK_yg169m
   case hloc_yg169m => exact ⟨(fun _ _ _ _ => ⟨rfl, rfl⟩), (fun _ _ _ _ => ⟨rfl, rfl⟩), (fun _ _ _ _ => ⟨rfl, rfl⟩), (fun _ _ _ _ => ⟨rfl, rfl⟩), (fun _ _ _ _ => ⟨rfl, rfl⟩), (fun _ _ _ _ => ⟨rfl, rfl⟩), (fun _ _ _ _ => ⟨rfl, rfl⟩), (fun _ _ _ _ => ⟨rfl, rfl⟩), (fun _ _ _ _ => ⟨rfl, rfl⟩), (fun _ _ _ _ => ⟨rfl, rfl⟩), (fun _ _ _ _ => ⟨rfl, rfl⟩), (fun _ _ _ _ => ⟨rfl, rfl⟩), (fun _ _ _ _ => ⟨rfl, rfl⟩), (fun _ _ _ _ => ⟨rfl, rfl⟩), (fun _ _ _ _ => ⟨rfl, rfl⟩), (fun _ _ _ _ => ⟨rfl, rfl⟩), (fun _ _ _ _ => ⟨rfl, rfl⟩), (fun _ _ _ _ => ⟨rfl, rfl⟩), trivial⟩
   case hstep_yg169m =>
    refine ⟨?_, ?_, ?_, ?_, ?_, ?_, ?_, ?_, ?_, ?_, ?_, ?_, ?_, ?_, ?_, ?_, ?_, ?_, trivial⟩
    ·intro o ho a w yg169m M Hb hv hO hS
     obtain rfl := Option.some.inj ho
     exact Stp.mono (o_evs [] (vP b3m) none [] Hb rfl (by kernel_rfl) (fun q e => by cases e)) fun _ _ hq => ⟨gL [], fun _ _ => hq.1, (hS.below hq.2.below).sel [0, 1, 2, 3] rfl⟩
    ·intro o ho a w yg169m M Hb hv hO hS
     obtain rfl := Option.some.inj ho
     exact Stp.mono (o_evs [] (vP b3m) none [] ((Hb).add (hv 0 (by decide) (by decide) 98 rfl)) rfl (by kernel_rfl) (fun q e => by cases e)) fun _ _ hq => ⟨gL [], fun _ _ => hq.1, (hS.below hq.2.below).sel [0, 1, 2, 3] rfl⟩
    ·intro o ho a w yg169m M Hb hv hO hS
     obtain rfl := Option.some.inj ho
     exact Stp.mono (o_evs [] (vP b3m) none [] ((Hb).add (hv 1 (by decide) (by decide) 99 rfl)) rfl (by kernel_rfl) (fun q e => by cases e)) fun _ _ hq => ⟨gL [], fun _ _ => hq.1, (hS.below hq.2.below).sel [0, 1, 2, 3] rfl⟩
    ·intro o ho a w yg169m M Hb hv hO hS
     obtain rfl := Option.some.inj ho
     exact Stp.mono (o_evs [] (.slice gl.a 8 gl.c) none [] Hb rfl (by kernel_rfl) (fun q e => by cases e)) fun _ _ hq => ⟨gL [], fun _ _ => hq.1, (hS.below hq.2.below).sel [0] rfl⟩
    ·intro o ho a w yg169m M Hb hv hO hS
     obtain rfl := Option.some.inj ho
     exact Stp.mono (o_evs [] (vI 2) none [] Hb rfl (by kernel_rfl) (fun q e => by cases e)) fun _ _ hq => ⟨gL [], fun _ _ => hq.1, (hS.below hq.2.below).sel [] rfl⟩
    ·intro o ho a w yg169m M Hb hv hO hS
     obtain rfl := Option.some.inj ho
     exact Stp.mono (o_evs [] (.pointer (some ⟨ab gl.a, ao gl.a + ((2 : Int)).toNat * 1, none⟩)) (some (fun _ => oka gl.a ∧ 0 ≤ (2 : Int) ∧ (2 : Int) < ln lit8)) [] (((Hb).add (hv 3 (by decide) (by decide) 101 rfl)).add (hv 4 (by decide) (by decide) 102 rfl)) rfl (by kernel_rfl) (fun q e => by cases e; exact ((hS.osl 0 rfl).oki (show 0 ≤ (2 : Int) ∧ (2 : Int) < ln lit8 from by decide)))) fun _ _ hq => ⟨gL [], fun _ _ => hq.1, (hS.below hq.2.below).sel [0] rfl⟩
    ·intro o ho a w yg169m M Hb hv hO hS
     obtain rfl := Option.some.inj ho
     exact Stp.mono (o_evs [(vS [13])] (vS [13]) (some (fun wz => V.at1 ⟨ab gl.a, ao gl.a + ((2 : Int)).toNat * 1, none⟩ (vS [13]) wz)) [] ((Hb).add (hv 5 (by decide) (by decide) 103 rfl)) rfl (by kernel_rfl) (fun q e => by cases e; exact ((hS.osl 0 rfl).at1 (show 0 ≤ (2 : Int) ∧ (2 : Int) < ln lit8 from by decide) 0 rfl))) fun _ _ hq => ⟨gL [], fun _ _ => hq.1, (hS.below hq.2.below).sel [0] rfl⟩
    ·intro o ho a w yg169m M Hb hv hO hS
     obtain rfl := Option.some.inj ho
     exact Stp.mono (o_evs [] (.slice gl.a 8 gl.c) none [] Hb rfl (by kernel_rfl) (fun q e => by cases e)) fun _ _ hq => ⟨gL [], fun _ _ => hq.1, (hS.below hq.2.below).sel [0] rfl⟩
    ·intro o ho a w yg169m M Hb hv hO hS
     obtain rfl := Option.some.inj ho
     exact Stp.mono (o_evs [] (vI 2) none [] Hb rfl (by kernel_rfl) (fun q e => by cases e)) fun _ _ hq => ⟨gL [], fun _ _ => hq.1, (hS.below hq.2.below).sel [] rfl⟩
    ·intro o ho a w yg169m M Hb hv hO hS
     obtain rfl := Option.some.inj ho
     exact Stp.mono (o_evs [] (vI 3) none [] ((Hb).add (hv 8 (by decide) (by decide) 106 rfl)) rfl (by kernel_rfl) (fun q e => by cases e)) fun _ _ hq => ⟨gL [], fun _ _ => hq.1, (hS.below hq.2.below).sel [] rfl⟩
    ·intro o ho a w yg169m M Hb hv hO hS
     obtain rfl := Option.some.inj ho
     exact Stp.mono (o_evs [] (.pointer (some ⟨ab gl.a, ao gl.a + ((3 : Int)).toNat * 1, none⟩)) (some (fun _ => oka gl.a ∧ 0 ≤ (3 : Int) ∧ (3 : Int) < ln lit8)) [] (((Hb).add (hv 7 (by decide) (by decide) 105 rfl)).add (hv 9 (by decide) (by decide) 107 rfl)) rfl (by kernel_rfl) (fun q e => by cases e; exact ((hS.osl 0 rfl).oki (show 0 ≤ (3 : Int) ∧ (3 : Int) < ln lit8 from by decide)))) fun _ _ hq => ⟨gL [], fun _ _ => hq.1, (hS.below hq.2.below).sel [0] rfl⟩
    ·intro o ho a w yg169m M Hb hv hO hS
     obtain rfl := Option.some.inj ho
     exact Stp.mono (o_evs [(vS [10])] (vS [10]) (some (fun wz => V.at1 ⟨ab gl.a, ao gl.a + ((3 : Int)).toNat * 1, none⟩ (vS [10]) wz)) [] ((Hb).add (hv 10 (by decide) (by decide) 108 rfl)) rfl (by kernel_rfl) (fun q e => by cases e; exact ((hS.osl 0 rfl).at1 (show 0 ≤ (3 : Int) ∧ (3 : Int) < ln lit8 from by decide) 0 rfl))) fun _ _ hq => ⟨gL [], fun _ _ => hq.1, (hS.below hq.2.below).sel [0] rfl⟩
    ·intro o ho a w yg169m M Hb hv hO hS
     obtain rfl := Option.some.inj ho
     exact Stp.mono (o_evs [] (.slice gl.a 8 gl.c) none [] Hb rfl (by kernel_rfl) (fun q e => by cases e)) fun _ _ hq => ⟨gL [], fun _ _ => hq.1, (hS.below hq.2.below).sel [0] rfl⟩
    ·intro o ho a w yg169m M Hb hv hO hS
     obtain rfl := Option.some.inj ho
     exact Stp.mono (o_evs [] (vI 8) none [] ((Hb).add (hv 12 (by decide) (by decide) 110 rfl)) rfl (by kernel_rfl) (fun q e => by cases e)) fun _ _ hq => ⟨gL [], fun _ _ => hq.1, (hS.below hq.2.below).sel [0] rfl⟩
    ·intro o ho a w yg169m M Hb hv hO hS
     obtain rfl := Option.some.inj ho
     exact Stp.mono (o_evs [] (vI 2) none [] Hb rfl (by kernel_rfl) (fun q e => by cases e)) fun _ _ hq => ⟨gL [], fun _ _ => hq.1, (hS.below hq.2.below).sel [] rfl⟩
    ·intro o ho a w yg169m M Hb hv hO hS
     obtain rfl := Option.some.inj ho
     exact Stp.mono (o_evs [] (vI 6) none [] (((Hb).add (hv 13 (by decide) (by decide) 111 rfl)).add (hv 14 (by decide) (by decide) 112 rfl)) rfl (by kernel_rfl) (fun q e => by cases e)) fun _ _ hq => ⟨gL [], fun _ _ => hq.1, (hS.below hq.2.below).sel [] rfl⟩
    ·intro o ho a w yg169m M Hb hv hO hS
     obtain rfl := Option.some.inj ho
     exact Stp.mono (o_evs [] (vP b3m) none [] Hb rfl (by kernel_rfl) (fun q e => by cases e)) fun _ _ hq => ⟨gL [], fun _ _ => hq.1, (hS.below hq.2.below).sel [0, 1, 2, 3] rfl⟩
    ·intro o ho a w yg169m M Hb hv hO hS0
     obtain rfl := Option.some.inj ho
     have H : Fr 117 ([(114, [], vP b3m), (113, [], vI 6), (109, [], vS [10]), (104, [], vS [13]), (100, [], vP b3m)] ++ [(0, [], .slice gl.a 8 gl.c), (3, [], vP b3m), (12, [], vI 2)]) _ := (((((Hb).add (hv 2 (by decide) (by decide) 100 rfl)).add (hv 6 (by decide) (by decide) 104 rfl)).add (hv 11 (by decide) (by decide) 109 rfl)).add (hv 15 (by decide) (by decide) 113 rfl)).add (hv 16 (by decide) (by decide) 114 rfl)
     obtain ⟨X, hX⟩ : ∃ X, X = fpl [eB b163m [vS [10], vI 8, vN, vQ, vO], eB b164m [vN, vI 0, vS [10], vP b163m, vO], eB b146m [vQ, vQ, vQ, vP b164m], Ent.mix .u8 b3m [vN, vI 0, vN, vQ, .slice (some ⟨b146m, 0, none⟩) 4 4, vI 4] gmap (256 : Int)] := ⟨_, rfl⟩
     have hS : SH M X w [eB b163m [vS [10], vI 8, vN, vQ, vO], eB b164m [vN, vI 0, vS [10], vP b163m, vO], eB b146m [vQ, vQ, vQ, vP b164m], Ent.mix .u8 b3m [vN, vI 0, vN, vQ, .slice (some ⟨b146m, 0, none⟩) 4 4, vI 4] gmap (256 : Int)] w := by rw [hX]; exact hS0
     have hd := hS.hand [0, 1, 2, 3] [] rfl rfl
     refine Stp.mono (o_callx H rfl rfl (strings_trieNode_add_cs4 _ _ hd)) ?_
     rintro v w2 hq
     obtain ⟨rfl, hq⟩ := hq
     replace hS : SH M X w [eB b164m [vS [10], vI 6, vS [10], vP b163m, vO], eB b163m [vS [10], vI 8, vN, vQ, vO], eB b146m [vQ, vQ, vQ, vP b164m], Ent.mix .u8 b3m [vN, vI 0, vN, vQ, .slice (some ⟨b146m, 0, none⟩) 4 4, vI 4] gmap (256 : Int)] _ := hS.join [0, 1, 2, 3] [] rfl rfl hq
     clear hq
     rw [hX] at hS
     exact ⟨gL [], fun _ _ => rfl, hS.sel [0, 1, 2, 3] rfl⟩
   have H172m : Fr 117 [(0, [], .slice gl.a 8 gl.c), (3, [], vP b3m), (12, [], vI 2)] _ := (FrG.keep (ks := [0, 3, 12]) H171m (by kernel_rfl))
   replace hS : SH M X w [eB b164m [vS [10], vI 6, vS [10], vP b163m, vO], eB b163m [vS [10], vI 8, vN, vQ, vO], eB b146m [vQ, vQ, vQ, vP b164m], Ent.mix .u8 b3m [vN, vI 0, vN, vQ, .slice (some ⟨b146m, 0, none⟩) 4 4, vI 4] gmap (256 : Int), eO 9 tS lit8 gl] _ := hS
   clear hv H171m
   refine w_reg [] [0, 3, 12] [(0, [], .slice gl.a 8 gl.c), (3, [], vP b3m), (12, [], vI 4)] [] H172m (by kernel_rfl) trivial fun _ wd173m H174m hb => ?_
   clear H172m
   replace hS := hS.below hb
   clear hb
   refine lw_round ?_
   refine w_seq ?_
   refine s_reg [] [0, 3, 12, 95] [(0, [], .slice gl.a 8 gl.c), (3, [], vP b3m), (12, [], vI 4), (95, [], vT)] [] H174m (by kernel_rfl) trivial fun _ wd175m H176m hb => ?_
   clear H174m
   replace hS := hS.below hb
   clear hb
   refine w_if H176m rfl (fun _ => ?_) (fun hc => by cases hc)
   refine w_skip ?_
   refine w_seq ?_
   refine w_block ?_
   refine w_drawS (base := [(0, [], .slice gl.a 8 gl.c), (3, [], vP b3m), (12, [], vI 4)]) (L := [eB b164m [vS [10], vI 6, vS [10], vP b163m, vO], eB b163m [vS [10], vI 8, vN, vQ, vO], eB b146m [vQ, vQ, vQ, vP b164m], Ent.mix .u8 b3m [vN, vI 0, vN, vQ, .slice (some ⟨b146m, 0, none⟩) 4 4, vI 4] gmap (256 : Int), eO 9 tS lit8 gl]) 18 5 (fun yg177m => [vP b3m, vP b3m, vP b3m, .slice gl.a 8 gl.c, vI 4, .pointer (some ⟨ab gl.a, ao gl.a + ((4 : Int)).toNat * 1, none⟩), vS [12], .slice gl.a 8 gl.c, vI 4, vI 5, .pointer (some ⟨ab gl.a, ao gl.a + ((5 : Int)).toNat * 1, none⟩), vS [10], .slice gl.a 8 gl.c, vI 8, vI 4, vI 4, vP b3m, .tuple ⟨[]⟩]) (fun yg177m => [[], [], [], [], [], [], [], [], [], [], [], [], [], [], [], [], [], [eB (ab (yg177m 17 0).a) [vS [10], vI 4, vN, vQ, vO], eB b146m [vQ, vQ, .pointer (some ⟨(ab (yg177m 17 0).a), 0, none⟩), vP b164m]]]) [[18, 19, 20, 21], [18, 19, 20, 21], [18, 19, 20, 21], [22], [], [22], [22], [22], [], [], [22], [22], [22], [22], [], [], [18, 19, 20, 21], [18, 19, 20, 21]] [[], [], [], [], [], [], [], [], [], [], [], [], [], [], [], [], [], [20]] [[0], [0, 1], [0, 1, 2], [3], [4], [3, 4, 5], [3, 4, 5, 6], [7], [8], [8, 9], [7, 8, 9, 10], [7, 8, 9, 10, 11], [12], [12, 13], [14], [12, 13, 14, 15], [16], [0, 1, 2, 3, 4, 5, 6, 7, 8, 9, 10, 11, 12, 13, 14, 15, 16, 17]] [] (FrG.keep (ks := [0, 3, 12]) H176m (by kernel_rfl)) (fun _ _ h => by cases h) (by kernel_rfl) hS (by kernel_rfl) rfl rfl (by kernel_rfl) (by kernel_rfl) (by kernel_rfl) (gd_none (by kernel_rfl) _ _) ?hloc_yg177m ?hstep_yg177m fun _ wd179m yg177m H180m hv hS => ?hK_yg177m
   case hloc_yg177m => exact ⟨(fun _ _ _ _ => ⟨rfl, rfl⟩), (fun _ _ _ _ => ⟨rfl, rfl⟩), (fun _ _ _ _ => ⟨rfl, rfl⟩), (fun _ _ _ _ => ⟨rfl, rfl⟩), (fun _ _ _ _ => ⟨rfl, rfl⟩), (fun _ _ _ _ => ⟨rfl, rfl⟩), (fun _ _ _ _ => ⟨rfl, rfl⟩), (fun _ _ _ _ => ⟨rfl, rfl⟩), (fun _ _ _ _ => ⟨rfl, rfl⟩), (fun _ _ _ _ => ⟨rfl, rfl⟩), (fun _ _ _ _ => ⟨rfl, rfl⟩), (fun _ _ _ _ => ⟨rfl, rfl⟩), (fun _ _ _ _ => ⟨rfl, rfl⟩), (fun _ _ _ _ => ⟨rfl, rfl⟩), (fun _ _ _ _ => ⟨rfl, rfl⟩), (fun _ _ _ _ => ⟨rfl, rfl⟩), (fun _ _ _ _ => ⟨rfl, rfl⟩), (fun yg177m i g hi => by have h17 : updC yg177m i g 17 = yg177m 17 := updC_out hi rfl; exact ⟨(show (.tuple ⟨[]⟩ : Value) = .tuple ⟨[]⟩ by simp only []), (show ([eB (ab ((updC yg177m i g) 17 0).a) [vS [10], vI 4, vN, vQ, vO], eB b146m [vQ, vQ, .pointer (some ⟨(ab ((updC yg177m i g) 17 0).a), 0, none⟩), vP b164m]] : List Ent) = [eB (ab (yg177m 17 0).a) [vS [10], vI 4, vN, vQ, vO], eB b146m [vQ, vQ, .pointer (some ⟨(ab (yg177m 17 0).a), 0, none⟩), vP b164m]] by simp only [h17])⟩), trivial⟩
   case hstep_yg177m =>
    refine ⟨?_, ?_, ?_, ?_, ?_, ?_, ?_, ?_, ?_, ?_, ?_, ?_, ?_, ?_, ?_, ?_, ?_, ?_, trivial⟩
    ·intro o ho a w yg177m M Hb hv hO hS
     obtain rfl := Option.some.inj ho
     exact Stp.mono (o_evs [] (vP b3m) none [] Hb rfl (by kernel_rfl) (fun q e => by cases e)) fun _ _ hq => ⟨gL [], fun _ _ => hq.1, (hS.below hq.2.below).sel [0, 1, 2, 3] rfl⟩
    ·intro o ho a w yg177m M Hb hv hO hS
     obtain rfl := Option.some.inj ho
     exact Stp.mono (o_evs [] (vP b3m) none [] ((Hb).add (hv 0 (by decide) (by decide) 98 rfl)) rfl (by kernel_rfl) (fun q e => by cases e)) fun _ _ hq => ⟨gL [], fun _ _ => hq.1, (hS.below hq.2.below).sel [0, 1, 2, 3] rfl⟩
    ·intro o ho a w yg177m M Hb hv hO hS
     obtain rfl := Option.some.inj ho
     exact Stp.mono (o_evs [] (vP b3m) none [] ((Hb).add (hv 1 (by decide) (by decide) 99 rfl)) rfl (by kernel_rfl) (fun q e => by cases e)) fun _ _ hq => ⟨gL [], fun _ _ => hq.1, (hS.below hq.2.below).sel [0, 1, 2, 3] rfl⟩
    ·intro o ho a w yg177m M Hb hv hO hS
     obtain rfl := Option.some.inj ho
     exact Stp.mono (o_evs [] (.slice gl.a 8 gl.c) none [] Hb rfl (by kernel_rfl) (fun q e => by cases e)) fun _ _ hq => ⟨gL [], fun _ _ => hq.1, (hS.below hq.2.below).sel [0] rfl⟩
    ·intro o ho a w yg177m M Hb hv hO hS
     obtain rfl := Option.some.inj ho
     exact Stp.mono (o_evs [] (vI 4) none [] Hb rfl (by kernel_rfl) (fun q e => by cases e)) fun _ _ hq => ⟨gL [], fun _ _ => hq.1, (hS.below hq.2.below).sel [] rfl⟩
    ·intro o ho a w yg177m M Hb hv hO hS
     obtain rfl := Option.some.inj ho
     exact Stp.mono (o_evs [] (.pointer (some ⟨ab gl.a, ao gl.a + ((4 : Int)).toNat * 1, none⟩)) (some (fun _ => oka gl.a ∧ 0 ≤ (4 : Int) ∧ (4 : Int) < ln lit8)) [] (((Hb).add (hv 3 (by decide) (by decide) 101 rfl)).add (hv 4 (by decide) (by decide) 102 rfl)) rfl (by kernel_rfl) (fun q e => by cases e; exact ((hS.osl 0 rfl).oki (show 0 ≤ (4 : Int) ∧ (4 : Int) < ln lit8 from by decide)))) fun _ _ hq => ⟨gL [], fun _ _ => hq.1, (hS.below hq.2.below).sel [0] rfl⟩
    ·intro o ho a w yg177m M Hb hv hO hS
     obtain rfl := Option.some.inj ho
     exact Stp.mono (o_evs [(vS [12])] (vS [12]) (some (fun wz => V.at1 ⟨ab gl.a, ao gl.a + ((4 : Int)).toNat * 1, none⟩ (vS [12]) wz)) [] ((Hb).add (hv 5 (by decide) (by decide) 103 rfl)) rfl (by kernel_rfl) (fun q e => by cases e; exact ((hS.osl 0 rfl).at1 (show 0 ≤ (4 : Int) ∧ (4 : Int) < ln lit8 from by decide) 0 rfl))) fun _ _ hq => ⟨gL [], fun _ _ => hq.1, (hS.below hq.2.below).sel [0] rfl⟩
    ·intro o ho a w yg177m M Hb hv hO hS
     obtain rfl := Option.some.inj ho
     exact Stp.mono (o_evs [] (.slice gl.a 8 gl.c) none [] Hb rfl (by kernel_rfl) (fun q e => by cases e)) fun _ _ hq => ⟨gL [], fun _ _ => hq.1, (hS.below hq.2.below).sel [0] rfl⟩
    ·intro o ho a w yg177m M Hb hv hO hS
     obtain rfl := Option.some.inj ho
     exact Stp.mono (o_evs [] (vI 4) none [] Hb rfl (by kernel_rfl) (fun q e => by cases e)) fun _ _ hq => ⟨gL [], fun _ _ => hq.1, (hS.below hq.2.below).sel [] rfl⟩
    ·intro o ho a w yg177m M Hb hv hO hS
     obtain rfl := Option.some.inj ho
     exact Stp.mono (o_evs [] (vI 5) none [] ((Hb).add (hv 8 (by decide) (by decide) 106 rfl)) rfl (by kernel_rfl) (fun q e => by cases e)) fun _ _ hq => ⟨gL [], fun _ _ => hq.1, (hS.below hq.2.below).sel [] rfl⟩
    ·intro o ho a w yg177m M Hb hv hO hS
     obtain rfl := Option.some.inj ho
     exact Stp.mono (o_evs [] (.pointer (some ⟨ab gl.a, ao gl.a + ((5 : Int)).toNat * 1, none⟩)) (some (fun _ => oka gl.a ∧ 0 ≤ (5 : Int) ∧ (5 : Int) < ln lit8)) [] (((Hb).add (hv 7 (by decide) (by decide) 105 rfl)).add (hv 9 (by decide) (by decide) 107 rfl)) rfl (by kernel_rfl) (fun q e => by cases e; exact ((hS.osl 0 rfl).oki (show 0 ≤ (5 : Int) ∧ (5 : Int) < ln lit8 from by decide)))) fun _ _ hq => ⟨gL [], fun _ _ => hq.1, (hS.below hq.2.below).sel [0] rfl⟩
    ·intro o ho a w yg177m M Hb hv hO hS
     obtain rfl := Option.some.inj ho
     exact Stp.mono (o_evs [(vS [10])] (vS [10]) (some (fun wz => V.at1 ⟨ab gl.a, ao gl.a + ((5 : Int)).toNat * 1, none⟩ (vS [10]) wz)) [] ((Hb).add (hv 10 (by decide) (by decide) 108 rfl)) rfl (by kernel_rfl) (fun q e => by cases e; exact ((hS.osl 0 rfl).at1 (show 0 ≤ (5 : Int) ∧ (5 : Int) < ln lit8 from by decide) 0 rfl))) fun _ _ hq => ⟨gL [], fun _ _ => hq.1, (hS.below hq.2.below).sel [0] rfl⟩
    ·intro o ho a w yg177m M Hb hv hO hS
     obtain rfl := Option.some.inj ho
     exact Stp.mono (o_evs [] (.slice gl.a 8 gl.c) none [] Hb rfl (by kernel_rfl) (fun q e => by cases e)) fun _ _ hq => ⟨gL [], fun _ _ => hq.1, (hS.below hq.2.below).sel [0] rfl⟩
    ·intro o ho a w yg177m M Hb hv hO hS
     obtain rfl := Option.some.inj ho
     exact Stp.mono (o_evs [] (vI 8) none [] ((Hb).add (hv 12 (by decide) (by decide) 110 rfl)) rfl (by kernel_rfl) (fun q e => by cases e)) fun _ _ hq => ⟨gL [], fun _ _ => hq.1, (hS.below hq.2.below).sel [0] rfl⟩
    ·intro o ho a w yg177m M Hb hv hO hS
     obtain rfl := Option.some.inj ho
     exact Stp.mono (o_evs [] (vI 4) none [] Hb rfl (by kernel_rfl) (fun q e => by cases e)) fun _ _ hq => ⟨gL [], fun _ _ => hq.1, (hS.below hq.2.below).sel [] rfl⟩
    ·intro o ho a w yg177m M Hb hv hO hS
     obtain rfl := Option.some.inj ho
     exact Stp.mono (o_evs [] (vI 4) none [] (((Hb).add (hv 13 (by decide) (by decide) 111 rfl)).add (hv 14 (by decide) (by decide) 112 rfl)) rfl (by kernel_rfl) (fun q e => by cases e)) fun _ _ hq => ⟨gL [], fun _ _ => hq.1, (hS.below hq.2.below).sel [] rfl⟩
    ·intro o ho a w yg177m M Hb hv hO hS
     obtain rfl := Option.some.inj ho
     exact Stp.mono (o_evs [] (vP b3m) none [] Hb rfl (by kernel_rfl) (fun q e => by cases e)) fun _ _ hq => ⟨gL [], fun _ _ => hq.1, (hS.below hq.2.below).sel [0, 1, 2, 3] rfl⟩
    ·intro o ho a w yg177m M Hb hv hO hS0
     obtain rfl := Option.some.inj ho
     have H : Fr 117 ([(114, [], vP b3m), (113, [], vI 4), (109, [], vS [10]), (104, [], vS [12]), (100, [], vP b3m)] ++ [(0, [], .slice gl.a 8 gl.c), (3, [], vP b3m), (12, [], vI 4)]) _ := (((((Hb).add (hv 2 (by decide) (by decide) 100 rfl)).add (hv 6 (by decide) (by decide) 104 rfl)).add (hv 11 (by decide) (by decide) 109 rfl)).add (hv 15 (by decide) (by decide) 113 rfl)).add (hv 16 (by decide) (by decide) 114 rfl)
     obtain ⟨X, hX⟩ : ∃ X, X = fpl [eB b164m [vS [10], vI 6, vS [10], vP b163m, vO], eB b163m [vS [10], vI 8, vN, vQ, vO], eB b146m [vQ, vQ, vQ, vP b164m], Ent.mix .u8 b3m [vN, vI 0, vN, vQ, .slice (some ⟨b146m, 0, none⟩) 4 4, vI 4] gmap (256 : Int)] := ⟨_, rfl⟩
     have hS : SH M X w [eB b164m [vS [10], vI 6, vS [10], vP b163m, vO], eB b163m [vS [10], vI 8, vN, vQ, vO], eB b146m [vQ, vQ, vQ, vP b164m], Ent.mix .u8 b3m [vN, vI 0, vN, vQ, .slice (some ⟨b146m, 0, none⟩) 4 4, vI 4] gmap (256 : Int)] w := by rw [hX]; exact hS0
     have hd := hS.hand [0, 1, 2, 3] [] rfl rfl
     refine Stp.mono (o_callx H rfl rfl (strings_trieNode_add_cs6 _ _ hd)) ?_
     rintro v w2 hq
     obtain ⟨b178m, rfl, hq⟩ := hq
     replace hS : SH M X w [eB b178m [vS [10], vI 4, vN, vQ, vO], eB b146m [vQ, vQ, vP b178m, vP b164m], eB b164m [vS [10], vI 6, vS [10], vP b163m, vO], eB b163m [vS [10], vI 8, vN, vQ, vO], Ent.mix .u8 b3m [vN, vI 0, vN, vQ, .slice (some ⟨b146m, 0, none⟩) 4 4, vI 4] gmap (256 : Int)] _ := hS.join [0, 1, 2, 3] [] rfl rfl hq
     clear hq
     rw [hX] at hS
     exact ⟨gL [Gh.mk (some ⟨b178m, 0, none⟩) 0 fun _ _ => .nil], fun _ _ => rfl, hS.sel [0, 1, 2, 3, 4] rfl⟩
   have H181m : Fr 117 [(0, [], .slice gl.a 8 gl.c), (3, [], vP b3m), (12, [], vI 4)] _ := (FrG.keep (ks := [0, 3, 12]) H180m (by kernel_rfl))
   replace hS : SH M X w [eB (ab (yg177m 17 0).a) [vS [10], vI 4, vN, vQ, vO], eB b146m [vQ, vQ, .pointer (some ⟨(ab (yg177m 17 0).a), 0, none⟩), vP b164m], eB b164m [vS [10], vI 6, vS [10], vP b163m, vO], eB b163m [vS [10], vI 8, vN, vQ, vO], Ent.mix .u8 b3m [vN, vI 0, vN, vQ, .slice (some ⟨b146m, 0, none⟩) 4 4, vI 4] gmap (256 : Int), eO 9 tS lit8 gl] _ := hS
   clear hv H180m
   generalize ab (yg177m 17 0).a = b182m at H181m hS
   refine w_reg [] [0, 3, 12] [(0, [], .slice gl.a 8 gl.c), (3, [], vP b3m), (12, [], vI 6)] [] H181m (by kernel_rfl) trivial fun _ wd183m H184m hb => ?_
   clear H181m
   replace hS := hS.below hb
   clear hb
   refine lw_round ?_
   refine w_seq ?_
   refine s_reg [] [0, 3, 12, 95] [(0, [], .slice gl.a 8 gl.c), (3, [], vP b3m), (12, [], vI 6), (95, [], vT)] [] H184m (by kernel_rfl) trivial fun _ wd185m H186m hb => ?_
   clear H184m
   replace hS := hS.below hb
   clear hb
   refine w_if H186m rfl (fun _ => ?_) (fun hc => by cases hc)
   refine w_skip ?_
   refine w_seq ?_
   refine w_block ?_
   refine w_drawS (base := [(0, [], .slice gl.a 8 gl.c), (3, [], vP b3m), (12, [], vI 6)]) (L := [eB b182m [vS [10], vI 4, vN, vQ, vO], eB b146m [vQ, vQ, vP b182m, vP b164m], eB b164m [vS [10], vI 6, vS [10], vP b163m, vO], eB b163m [vS [10], vI 8, vN, vQ, vO], Ent.mix .u8 b3m [vN, vI 0, vN, vQ, .slice (some ⟨b146m, 0, none⟩) 4 4, vI 4] gmap (256 : Int), eO 9 tS lit8 gl]) 18 6 (fun yg187m => [vP b3m, vP b3m, vP b3m, .slice gl.a 8 gl.c, vI 6, .pointer (some ⟨ab gl.a, ao gl.a + ((6 : Int)).toNat * 1, none⟩), vS [0], .slice gl.a 8 gl.c, vI 6, vI 7, .pointer (some ⟨ab gl.a, ao gl.a + ((7 : Int)).toNat * 1, none⟩), vS [239, 191, 189], .slice gl.a 8 gl.c, vI 8, vI 6, vI 2, vP b3m, .tuple ⟨[]⟩]) (fun yg187m => [[], [], [], [], [], [], [], [], [], [], [], [], [], [], [], [], [], [eB (ab (yg187m 17 0).a) [vS [239, 191, 189], vI 2, vN, vQ, vO], eB b146m [.pointer (some ⟨(ab (yg187m 17 0).a), 0, none⟩), vQ, vP b182m, vP b164m]]]) [[18, 19, 20, 21, 22], [18, 19, 20, 21, 22], [18, 19, 20, 21, 22], [23], [], [23], [23], [23], [], [], [23], [23], [23], [23], [], [], [18, 19, 20, 21, 22], [18, 19, 20, 21, 22]] [[], [], [], [], [], [], [], [], [], [], [], [], [], [], [], [], [], [19]] [[0], [0, 1], [0, 1, 2], [3], [4], [3, 4, 5], [3, 4, 5, 6], [7], [8], [8, 9], [7, 8, 9, 10], [7, 8, 9, 10, 11], [12], [12, 13], [14], [12, 13, 14, 15], [16], [0, 1, 2, 3, 4, 5, 6, 7, 8, 9, 10, 11, 12, 13, 14, 15, 16, 17]] [] (FrG.keep (ks := [0, 3, 12]) H186m (by kernel_rfl)) (fun _ _ h => by cases h) (by kernel_rfl) hS (by kernel_rfl) rfl rfl (by kernel_rfl) (by kernel_rfl) (by kernel_rfl) (gd_none (by kernel_rfl) _ _) ?hloc_yg187m ?hstep_yg187m fun _ wd189m yg187m H190m hv hS => ?hK_yg187m
   case hloc_yg187m => exact ⟨(fun _ _ _ _ => ⟨rfl, rfl⟩), (fun _ _ _ _ => ⟨rfl, rfl⟩), (fun _ _ _ _ => ⟨rfl, rfl⟩), (fun _ _ _ _ => ⟨rfl, rfl⟩), (fun _ _ _ _ => ⟨rfl, rfl⟩), (fun _ _ _ _ => ⟨rfl, rfl⟩), (fun _ _ _ _ => ⟨rfl, rfl⟩), (fun _ _ _ _ => ⟨rfl, rfl⟩), (fun _ _ _ _ => ⟨rfl, rfl⟩), (fun _ _ _ _ => ⟨rfl, rfl⟩), (fun _ _ _ _ => ⟨rfl, rfl⟩), (fun _ _ _ _ => ⟨rfl, rfl⟩), (fun _ _ _ _ => ⟨rfl, rfl⟩), (fun _ _ _ _ => ⟨rfl, rfl⟩), (fun _ _ _ _ => ⟨rfl, rfl⟩), (fun _ _ _ _ => ⟨rfl, rfl⟩), (fun _ _ _ _ => ⟨rfl, rfl⟩), (fun yg187m i g hi => by have h17 : updC yg187m i g 17 = yg187m 17 := updC_out hi rfl; exact ⟨(show (.tuple ⟨[]⟩ : Value) = .tuple ⟨[]⟩ by simp only []), (show ([eB (ab ((updC yg187m i g) 17 0).a) [vS [239, 191, 189], vI 2, vN, vQ, vO], eB b146m [.pointer (some ⟨(ab ((updC yg187m i g) 17 0).a), 0, none⟩), vQ, vP b182m, vP b164m]] : List Ent) = [eB (ab (yg187m 17 0).a) [vS [239, 191, 189], vI 2, vN, vQ, vO], eB b146m [.pointer (some ⟨(ab (yg187m 17 0).a), 0, none⟩), vQ, vP b182m, vP b164m]] by simp only [h17])⟩), trivial⟩
   case hstep_yg187m =>
    refine ⟨?_, ?_, ?_, ?_, ?_, ?_, ?_, ?_, ?_, ?_, ?_, ?_, ?_, ?_, ?_, ?_, ?_, ?_, trivial⟩
    ·intro o ho a w yg187m M Hb hv hO hS
     obtain rfl := Option.some.inj ho
     exact Stp.mono (o_evs [] (vP b3m) none [] Hb rfl (by kernel_rfl) (fun q e => by cases e)) fun _ _ hq => ⟨gL [], fun _ _ => hq.1, (hS.below hq.2.below).sel [0, 1, 2, 3, 4] rfl⟩
    ·intro o ho a w yg187m M Hb hv hO hS
     obtain rfl := Option.some.inj ho
     exact Stp.mono (o_evs [] (vP b3m) none [] ((Hb).add (hv 0 (by decide) (by decide) 98 rfl)) rfl (by kernel_rfl) (fun q e => by cases e)) fun _ _ hq => ⟨gL [], fun _ _ => hq.1, (hS.below hq.2.below).sel [0, 1, 2, 3, 4] rfl⟩
    ·intro o ho a w yg187m M Hb hv hO hS
     obtain rfl := Option.some.inj ho
     exact Stp.mono (o_evs [] (vP b3m) none [] ((Hb).add (hv 1 (by decide) (by decide) 99 rfl)) rfl (by kernel_rfl) (fun q e => by cases e)) fun _ _ hq => ⟨gL [], fun _ _ => hq.1, (hS.below hq.2.below).sel [0, 1, 2, 3, 4] rfl⟩
    ·intro o ho a w yg187m M Hb hv hO hS
     obtain rfl := Option.some.inj ho
     exact Stp.mono (o_evs [] (.slice gl.a 8 gl.c) none [] Hb rfl (by kernel_rfl) (fun q e => by cases e)) fun _ _ hq => ⟨gL [], fun _ _ => hq.1, (hS.below hq.2.below).sel [0] rfl⟩
    ·intro o ho a w yg187m M Hb hv hO hS
     obtain rfl := Option.some.inj ho
     exact Stp.mono (o_evs [] (vI 6) none [] Hb rfl (by kernel_rfl) (fun q e => by cases e)) fun _ _ hq => ⟨gL [], fun _ _ => hq.1, (hS.below hq.2.below).sel [] rfl⟩
    ·intro o ho a w yg187m M Hb hv hO hS
     obtain rfl := Option.some.inj ho
     exact Stp.mono (o_evs [] (.pointer (some ⟨ab gl.a, ao gl.a + ((6 : Int)).toNat * 1, none⟩)) (some (fun _ => oka gl.a ∧ 0 ≤ (6 : Int) ∧ (6 : Int) < ln lit8)) [] (((Hb).add (hv 3 (by decide) (by decide) 101 rfl)).add (hv 4 (by decide) (by decide) 102 rfl)) rfl (by kernel_rfl) (fun q e => by cases e; exact ((hS.osl 0 rfl).oki (show 0 ≤ (6 : Int) ∧ (6 : Int) < ln lit8 from by decide)))) fun _ _ hq => ⟨gL [], fun _ _ => hq.1, (hS.below hq.2.below).sel [0] rfl⟩
    ·intro o ho a w yg187m M Hb hv hO hS
     obtain rfl := Option.some.inj ho
     exact Stp.mono (o_evs [(vS [0])] (vS [0]) (some (fun wz => V.at1 ⟨ab gl.a, ao gl.a + ((6 : Int)).toNat * 1, none⟩ (vS [0]) wz)) [] ((Hb).add (hv 5 (by decide) (by decide) 103 rfl)) rfl (by kernel_rfl) (fun q e => by cases e; exact ((hS.osl 0 rfl).at1 (show 0 ≤ (6 : Int) ∧ (6 : Int) < ln lit8 from by decide) 0 rfl))) fun _ _ hq => ⟨gL [], fun _ _ => hq.1, (hS.below hq.2.below).sel [0] rfl⟩
    ·intro o ho a w yg187m M Hb hv hO hS
     obtain rfl := Option.some.inj ho
     exact Stp.mono (o_evs [] (.slice gl.a 8 gl.c) none [] Hb rfl (by kernel_rfl) (fun q e => by cases e)) fun _ _ hq => ⟨gL [], fun _ _ => hq.1, (hS.below hq.2.below).sel [0] rfl⟩
    ·intro o ho a w yg187m M Hb hv hO hS
     obtain rfl := Option.some.inj ho
     exact Stp.mono (o_evs [] (vI 6) none [] Hb rfl (by kernel_rfl) (fun q e => by cases e)) fun _ _ hq => ⟨gL [], fun _ _ => hq.1, (hS.below hq.2.below).sel [] rfl⟩
    ·intro o ho a w yg187m M Hb hv hO hS
     obtain rfl := Option.some.inj ho
     exact Stp.mono (o_evs [] (vI 7) none [] ((Hb).add (hv 8 (by decide) (by decide) 106 rfl)) rfl (by kernel_rfl) (fun q e => by cases e)) fun _ _ hq => ⟨gL [], fun _ _ => hq.1, (hS.below hq.2.below).sel [] rfl⟩
    ·intro o ho a w yg187m M Hb hv hO hS
     obtain rfl := Option.some.inj ho
     exact Stp.mono (o_evs [] (.pointer (some ⟨ab gl.a, ao gl.a + ((7 : Int)).toNat * 1, none⟩)) (some (fun _ => oka gl.a ∧ 0 ≤ (7 : Int) ∧ (7 : Int) < ln lit8)) [] (((Hb).add (hv 7 (by decide) (by decide) 105 rfl)).add (hv 9 (by decide) (by decide) 107 rfl)) rfl (by kernel_rfl) (fun q e => by cases e; exact ((hS.osl 0 rfl).oki (show 0 ≤ (7 : Int) ∧ (7 : Int) < ln lit8 from by decide)))) fun _ _ hq => ⟨gL [], fun _ _ => hq.1, (hS.below hq.2.below).sel [0] rfl⟩
    ·intro o ho a w yg187m M Hb hv hO hS
     obtain rfl := Option.some.inj ho
     exact Stp.mono (o_evs [(vS [239, 191, 189])] (vS [239, 191, 189]) (some (fun wz => V.at1 ⟨ab gl.a, ao gl.a + ((7 : Int)).toNat * 1, none⟩ (vS [239, 191, 189]) wz)) [] ((Hb).add (hv 10 (by decide) (by decide) 108 rfl)) rfl (by kernel_rfl) (fun q e => by cases e; exact ((hS.osl 0 rfl).at1 (show 0 ≤ (7 : Int) ∧ (7 : Int) < ln lit8 from by decide) 0 rfl))) fun _ _ hq => ⟨gL [], fun _ _ => hq.1, (hS.below hq.2.below).sel [0] rfl⟩
    ·intro o ho a w yg187m M Hb hv hO hS
     obtain rfl := Option.some.inj ho
     exact Stp.mono (o_evs [] (.slice gl.a 8 gl.c) none [] Hb rfl (by kernel_rfl) (fun q e => by cases e)) fun _ _ hq => ⟨gL [], fun _ _ => hq.1, (hS.below hq.2.below).sel [0] rfl⟩
    ·intro o ho a w yg187m M Hb hv hO hS
     obtain rfl := Option.some.inj ho
     exact Stp.mono (o_evs [] (vI 8) none [] ((Hb).add (hv 12 (by decide) (by decide) 110 rfl)) rfl (by kernel_rfl) (fun q e => by cases e)) fun _ _ hq => ⟨gL [], fun _ _ => hq.1, (hS.below hq.2.below).sel [0] rfl⟩
    ·intro o ho a w yg187m M Hb hv hO hS
     obtain rfl := Option.some.inj ho
     exact Stp.mono (o_evs [] (vI 6) none [] Hb rfl (by kernel_rfl) (fun q e => by cases e)) fun _ _ hq => ⟨gL [], fun _ _ => hq.1, (hS.below hq.2.below).sel [] rfl⟩
    ·intro o ho a w yg187m M Hb hv hO hS
     obtain rfl := Option.some.inj ho
     exact Stp.mono (o_evs [] (vI 2) none [] (((Hb).add (hv 13 (by decide) (by decide) 111 rfl)).add (hv 14 (by decide) (by decide) 112 rfl)) rfl (by kernel_rfl) (fun q e => by cases e)) fun _ _ hq => ⟨gL [], fun _ _ => hq.1, (hS.below hq.2.below).sel [] rfl⟩
    ·intro o ho a w yg187m M Hb hv hO hS
     obtain rfl := Option.some.inj ho
     exact Stp.mono (o_evs [] (vP b3m) none [] Hb rfl (by kernel_rfl) (fun q e => by cases e)) fun _ _ hq => ⟨gL [], fun _ _ => hq.1, (hS.below hq.2.below).sel [0, 1, 2, 3, 4] rfl⟩
    ·intro o ho a w yg187m M Hb hv hO hS0
     obtain rfl := Option.some.inj ho
     have H : Fr 117 ([(114, [], vP b3m), (113, [], vI 2), (109, [], vS [239, 191, 189]), (104, [], vS [0]), (100, [], vP b3m)] ++ [(0, [], .slice gl.a 8 gl.c), (3, [], vP b3m), (12, [], vI 6)]) _ := (((((Hb).add (hv 2 (by decide) (by decide) 100 rfl)).add (hv 6 (by decide) (by decide) 104 rfl)).add (hv 11 (by decide) (by decide) 109 rfl)).add (hv 15 (by decide) (by decide) 113 rfl)).add (hv 16 (by decide) (by decide) 114 rfl)
     obtain ⟨X, hX⟩ : ∃ X, X = fpl [eB b182m [vS [10], vI 4, vN, vQ, vO], eB b146m [vQ, vQ, vP b182m, vP b164m], eB b164m [vS [10], vI 6, vS [10], vP b163m, vO], eB b163m [vS [10], vI 8, vN, vQ, vO], Ent.mix .u8 b3m [vN, vI 0, vN, vQ, .slice (some ⟨b146m, 0, none⟩) 4 4, vI 4] gmap (256 : Int)] := ⟨_, rfl⟩
     have hS : SH M X w [eB b182m [vS [10], vI 4, vN, vQ, vO], eB b146m [vQ, vQ, vP b182m, vP b164m], eB b164m [vS [10], vI 6, vS [10], vP b163m, vO], eB b163m [vS [10], vI 8, vN, vQ, vO], Ent.mix .u8 b3m [vN, vI 0, vN, vQ, .slice (some ⟨b146m, 0, none⟩) 4 4, vI 4] gmap (256 : Int)] w := by rw [hX]; exact hS0
     have hd := hS.hand [0, 1, 2, 3, 4] [] rfl rfl
     refine Stp.mono (o_callx H rfl rfl (strings_trieNode_add_cs8 _ _ hd)) ?_
     rintro v w2 hq
     obtain ⟨b188m, rfl, hq⟩ := hq
     replace hS : SH M X w [eB b188m [vS [239, 191, 189], vI 2, vN, vQ, vO], eB b146m [vP b188m, vQ, vP b182m, vP b164m], eB b182m [vS [10], vI 4, vN, vQ, vO], eB b164m [vS [10], vI 6, vS [10], vP b163m, vO], eB b163m [vS [10], vI 8, vN, vQ, vO], Ent.mix .u8 b3m [vN, vI 0, vN, vQ, .slice (some ⟨b146m, 0, none⟩) 4 4, vI 4] gmap (256 : Int)] _ := hS.join [0, 1, 2, 3, 4] [] rfl rfl hq
     clear hq
     rw [hX] at hS
     exact ⟨gL [Gh.mk (some ⟨b188m, 0, none⟩) 0 fun _ _ => .nil], fun _ _ => rfl, hS.sel [0, 1, 2, 3, 4, 5] rfl⟩
   have H191m : Fr 117 [(0, [], .slice gl.a 8 gl.c), (3, [], vP b3m), (12, [], vI 6)] _ := (FrG.keep (ks := [0, 3, 12]) H190m (by kernel_rfl))
   replace hS : SH M X w [eB (ab (yg187m 17 0).a) [vS [239, 191, 189], vI 2, vN, vQ, vO], eB b146m [.pointer (some ⟨(ab (yg187m 17 0).a), 0, none⟩), vQ, vP b182m, vP b164m], eB b182m [vS [10], vI 4, vN, vQ, vO], eB b164m [vS [10], vI 6, vS [10], vP b163m, vO], eB b163m [vS [10], vI 8, vN, vQ, vO], Ent.mix .u8 b3m [vN, vI 0, vN, vQ, .slice (some ⟨b146m, 0, none⟩) 4 4, vI 4] gmap (256 : Int), eO 9 tS lit8 gl] _ := hS
   clear hv H190m
   generalize ab (yg187m 17 0).a = b192m at H191m hS
   refine w_reg [] [0, 3, 12] [(0, [], .slice gl.a 8 gl.c), (3, [], vP b3m), (12, [], vI 8)] [] H191m (by kernel_rfl) trivial fun _ wd193m H194m hb => ?_
   clear H191m
   replace hS := hS.below hb
   clear hb
   refine lw_round ?_
   refine w_seq ?_
   refine s_reg [] [0, 3, 12, 95] [(0, [], .slice gl.a 8 gl.c), (3, [], vP b3m), (12, [], vI 8), (95, [], vF)] [] H194m (by kernel_rfl) trivial fun _ wd195m H196m hb => ?_
   clear H194m
   replace hS := hS.below hb
   clear hb
   refine w_if H196m rfl (fun hc => by cases hc) (fun _ => ?_)
   refine w_exit rfl ?_
   refine s_reg [] [2] [(2, [], vP b3m)] [] H196m (by kernel_rfl) trivial fun _ wd197m H198m hb => ?_
   clear H196m
   replace hS := hS.below hb
   clear hb
   refine w_ret ?_
   exact retR1 H198m rfl rfl ⟨_, rfl, b3m, b146m, b163m, b164m, b182m, b192m, rfl, (hS.sel [0, 1, 2, 3, 4, 5, 6] rfl)⟩

theorem strings_Replacer_build_cs {rb : Nat} {gl : Gh} (M : Av) (w : World) (hS : S0 M [eB rb [.int .u32 0, .int .i32 1, .int .u32 0, .nilIface, .slice gl.a 8 gl.c], eO 9 tS lit8 gl] w) : DoesX Tryz.prog 76 ⟨[vP rb]⟩ w (fun v w' => ∃ (b26l : Nat) (b27l : Nat) (b28l : Nat) (b29l : Nat) (b30l : Nat) (b31l : Nat), v = .iface 125 (vP b26l) ∧ SH M (fpl [eB rb [.int .u32 0, .int .i32 1, .int .u32 0, .nilIface, .slice gl.a 8 gl.c], eO 9 tS lit8 gl]) w [eB b31l [vS [239, 191, 189], vI 2, vN, vQ, vO], eB b27l [vP b31l, vQ, vP b30l, vP b29l], eB b30l [vS [10], vI 4, vN, vQ, vO], eB b29l [vS [10], vI 6, vS [10], vP b28l, vO], eB b28l [vS [10], vI 8, vN, vQ, vO], Ent.mix .u8 b26l [vN, vI 0, vN, vQ, .slice (some ⟨b27l, 0, none⟩) 4 4, vI 4] gmap (256 : Int), eO 9 tS lit8 gl, eB rb [.int .u32 0, .int .i32 1, .int .u32 0, .nilIface, .slice gl.a 8 gl.c]] w') := by
 refine ⟨Tryz.call76 _, ?_⟩
 have hS0 : SH M (fpl [eB rb [.int .u32 0, .int .i32 1, .int .u32 0, .nilIface, .slice gl.a 8 gl.c], eO 9 tS lit8 gl]) w [eB rb [.int .u32 0, .int .i32 1, .int .u32 0, .nilIface, .slice gl.a 8 gl.c], eO 9 tS lit8 gl] w := hS
 generalize hX : fpl [eB rb [.int .u32 0, .int .i32 1, .int .u32 0, .nilIface, .slice gl.a 8 gl.c], eO 9 tS lit8 gl] = X at hS0 ⊢
 clear hS hX
 have hS := hS0
 clear hS0
 refine calls_entryP Tryz.func76 rfl Tryz.ntmps76 rfl fun _ H => ?_
 refine s_reg [] [0] [(0, [], vP rb)] [] H (by kernel_rfl) trivial fun _ wd1l H2l hb => ?_
 clear H
 replace hS := hS.below hb
 clear hb
 refine s_reg [(.slice gl.a 8 gl.c)] [3] [(3, [], .slice gl.a 8 gl.c)] [fun wz => V.at1 ⟨rb, 4, none⟩ (.slice gl.a 8 gl.c) wz] H2l (by kernel_rfl) ⟨((hS.bk 0 rfl).at1 rfl), trivial⟩ fun _ wd3l H4l hb => ?_
 clear H2l
 replace hS := hS.below hb
 clear hb
 refine w_seq ?_
 refine w_seq ?_
 refine wl_start ?_
 refine wl_batch 0 4 [] [3, 22] [(3, [], .slice gl.a 8 gl.c), (22, [], vF)] [] H4l (by decide) (by kernel_rfl) trivial fun _ wd5l H6l hb => ?_
 clear H4l
 replace hS := hS.below hb
 clear hb
 refine m_skipG 22 [23, 3, 22] [(23, [], undef), (3, [], .slice gl.a 8 gl.c), (22, [], vF)] H6l rfl rfl rfl rfl rfl rfl fun _ H7l => ?_
 clear H6l
 refine m_skipG 22 [24, 3, 22] [(24, [], undef), (3, [], .slice gl.a 8 gl.c), (22, [], vF)] H7l rfl rfl rfl rfl rfl rfl fun _ H8l => ?_
 clear H7l
 refine m_skipG 22 [25, 3, 22] [(25, [], undef), (3, [], .slice gl.a 8 gl.c), (22, [], vF)] H8l rfl rfl rfl rfl rfl rfl fun _ H9l => ?_
 clear H8l
 refine m_skipG 22 [26, 3, 22] [(26, [], undef), (3, [], .slice gl.a 8 gl.c), (22, [], vF)] H9l rfl rfl rfl rfl rfl rfl fun _ H10l => ?_
 clear H9l
 refine m_skipG 22 [27, 3, 22] [(27, [], undef), (3, [], .slice gl.a 8 gl.c), (22, [], vF)] H10l rfl rfl rfl rfl rfl rfl fun _ H11l => ?_
 clear H10l
 refine wl_batch 9 10 [] [3, 28] [(3, [], .slice gl.a 8 gl.c), (28, [], vF)] [] H11l (by decide) (by kernel_rfl) trivial fun _ wd12l H13l hb => ?_
 clear H11l
 replace hS := hS.below hb
 clear hb
 refine wl_end rfl ?_
 refine w_if H13l rfl (fun hc => by cases hc) (fun _ => ?_)
 refine w_skip ?_
 refine s_reg [] [3, 4] [(3, [], .slice gl.a 8 gl.c), (4, [], vT)] [] H13l (by kernel_rfl) trivial fun _ wd14l H15l hb => ?_
 clear H13l
 replace hS := hS.below hb
 clear hb
 refine w_seq ?_
 refine s_reg [] [3, 4, 5] [(3, [], .slice gl.a 8 gl.c), (4, [], vT), (5, [], vI 0)] [] H15l (by kernel_rfl) trivial fun _ wd16l H17l hb => ?_
 clear H15l
 replace hS := hS.below hb
 clear hb
 refine w_block ?_
 refine w_loopU ?_
 refine lw_round ?_
 refine w_seq ?_
 refine s_reg [] [3, 4, 5, 40] [(3, [], .slice gl.a 8 gl.c), (4, [], vT), (5, [], vI 0), (40, [], vT)] [] H17l (by kernel_rfl) trivial fun _ wd18l H19l hb => ?_
 clear H17l
 replace hS := hS.below hb
 clear hb
 refine w_if H19l rfl (fun _ => ?_) (fun hc => by cases hc)
 refine w_skip ?_
 refine w_seq ?_
 refine w_block ?_
 refine w_seq ?_
 refine s_reg [(vS [13, 10])] [3, 4, 5, 48] [(3, [], .slice gl.a 8 gl.c), (4, [], vT), (5, [], vI 0), (48, [], vT)] [fun _ => oka gl.a ∧ 0 ≤ (0 : Int) ∧ (0 : Int) < ln lit8, fun wz => V.at1 ⟨ab gl.a, ao gl.a + ((0 : Int)).toNat * 1, none⟩ (vS [13, 10]) wz] H19l (by kernel_rfl) ⟨((hS.osl 1 rfl).oki (show 0 ≤ (0 : Int) ∧ (0 : Int) < ln lit8 from by decide)), ((hS.osl 1 rfl).at1 (show 0 ≤ (0 : Int) ∧ (0 : Int) < ln lit8 from by decide) 0 rfl), trivial⟩ fun _ wd20l H21l hb => ?_
 clear H19l
 replace hS := hS.below hb
 clear hb
 refine w_if H21l rfl (fun _ => ?_) (fun hc => by cases hc)
 refine w_seq ?_
 refine wl_start ?_
 refine wl_batch 0 1 [] [49] [(49, [], .slice gl.a 8 gl.c)] [] H21l (by decide) (by kernel_rfl) trivial fun _ wd22l H23l hb => ?_
 clear H21l
 replace hS := hS.below hb
 clear hb
 have hd := hS.hand [1] [0] rfl rfl
 refine m_stp [50] [] H23l rfl rfl rfl rfl (o_callx H23l rfl rfl (strings_makeGenericReplacer_cs _ _ hd)) (fun _ => rfl) fun _ wd24l v H25l hq => ?_
 clear H23l hd
 obtain ⟨b26l, b27l, b28l, b29l, b30l, b31l, rfl, hq⟩ := hq
 replace hS : SH M X w [eB b31l [vS [239, 191, 189], vI 2, vN, vQ, vO], eB b27l [vP b31l, vQ, vP b30l, vP b29l], eB b30l [vS [10], vI 4, vN, vQ, vO], eB b29l [vS [10], vI 6, vS [10], vP b28l, vO], eB b28l [vS [10], vI 8, vN, vQ, vO], Ent.mix .u8 b26l [vN, vI 0, vN, vQ, .slice (some ⟨b27l, 0, none⟩) 4 4, vI 4] gmap (256 : Int), eO 9 tS lit8 gl, eB rb [.int .u32 0, .int .i32 1, .int .u32 0, .nilIface, .slice gl.a 8 gl.c]] _ := hS.join [1] [0] rfl rfl hq
 clear hq
 refine wl_batch 2 4 [] [2] [(2, [], .iface 125 (vP b26l))] [] H25l (by decide) (by kernel_rfl) trivial fun _ wd32l H33l hb => ?_
 clear H25l
 replace hS := hS.below hb
 clear hb
 refine wl_end rfl ?_
 refine w_ret ?_
 exact retR1 H33l rfl rfl ⟨_, rfl, b26l, b27l, b28l, b29l, b30l, b31l, rfl, (hS.sel [0, 1, 2, 3, 4, 5, 6, 7] rfl)⟩

theorem bo {rb : Nat} {gl : Gh} (M : Av) (w : World) (hS : S0 M [eB rb [.int .u32 0, .int .i32 1, .int .u32 0, .nilIface, .slice gl.a 8 gl.c], eO 9 tS lit8 gl] w) : DoesX Tryz.prog 44 ⟨[vP rb]⟩ w (fun v w' => ∃ (b5k : Nat) (b6k : Nat) (b7k : Nat) (b8k : Nat) (b9k : Nat) (b10k : Nat), v = .tuple ⟨[]⟩ ∧ SH M (fpl [eB rb [.int .u32 0, .int .i32 1, .int .u32 0, .nilIface, .slice gl.a 8 gl.c], eO 9 tS lit8 gl]) w [eB rb [.int .u32 0, .int .i32 1, .int .u32 0, .iface 125 (vP b5k), vO], eB b10k [vS [239, 191, 189], vI 2, vN, vQ, vO], eB b6k [vP b10k, vQ, vP b9k, vP b8k], eB b9k [vS [10], vI 4, vN, vQ, vO], eB b8k [vS [10], vI 6, vS [10], vP b7k, vO], eB b7k [vS [10], vI 8, vN, vQ, vO], Ent.mix .u8 b5k [vN, vI 0, vN, vQ, .slice (some ⟨b6k, 0, none⟩) 4 4, vI 4] gmap (256 : Int), eO 9 tS lit8 gl] w') := by
 refine ⟨Tryz.call44 _, ?_⟩
 have hS0 : SH M (fpl [eB rb [.int .u32 0, .int .i32 1, .int .u32 0, .nilIface, .slice gl.a 8 gl.c], eO 9 tS lit8 gl]) w [eB rb [.int .u32 0, .int .i32 1, .int .u32 0, .nilIface, .slice gl.a 8 gl.c], eO 9 tS lit8 gl] w := hS
 generalize hX : fpl [eB rb [.int .u32 0, .int .i32 1, .int .u32 0, .nilIface, .slice gl.a 8 gl.c], eO 9 tS lit8 gl] = X at hS0 ⊢
 clear hS hX
 have hS := hS0
 clear hS0
 refine calls_entryP Tryz.func44 rfl Tryz.ntmps44 rfl fun _ H => ?_
 refine w_seq ?_
 refine wl_start ?_
 refine wl_batch 0 2 [] [0, 2, 3] [(0, [], vP rb), (2, [], vP rb), (3, [], vP rb)] [] H (by decide) (by kernel_rfl) trivial fun _ wd1k H2k hb => ?_
 clear H
 replace hS := hS.below hb
 clear hb
 have hd := hS.hand [0, 1] [] rfl rfl
 refine m_stp [4, 0, 2] [(0, [], vP rb), (2, [], vP rb)] H2k rfl rfl rfl rfl (o_callx H2k rfl rfl (strings_Replacer_build_cs _ _ hd)) (fun _ => rfl) fun _ wd3k v H4k hq => ?_
 clear H2k hd
 obtain ⟨b5k, b6k, b7k, b8k, b9k, b10k, rfl, hq⟩ := hq
 replace hS : SH M X w [eB b10k [vS [239, 191, 189], vI 2, vN, vQ, vO], eB b6k [vP b10k, vQ, vP b9k, vP b8k], eB b9k [vS [10], vI 4, vN, vQ, vO], eB b8k [vS [10], vI 6, vS [10], vP b7k, vO], eB b7k [vS [10], vI 8, vN, vQ, vO], Ent.mix .u8 b5k [vN, vI 0, vN, vQ, .slice (some ⟨b6k, 0, none⟩) 4 4, vI 4] gmap (256 : Int), eO 9 tS lit8 gl, eB rb [.int .u32 0, .int .i32 1, .int .u32 0, .nilIface, .slice gl.a 8 gl.c]] _ := hS.join [0, 1] [] rfl rfl hq
 clear hq
 refine wl_batch 3 5 [] [0, 4, 6] [(0, [], vP rb), (4, [], .iface 125 (vP b5k)), (6, [], vA rb 3)] [] H4k (by decide) (by kernel_rfl) trivial fun _ wd11k H12k hb => ?_
 clear H4k
 replace hS := hS.below hb
 clear hb
 have hd := hS.hand [7] [0, 1, 2, 3, 4, 5, 6] rfl rfl
 refine m_stp0 [0] [(0, [], vP rb)] H12k rfl rfl rfl (o_store [.int .u32 0, .int .i32 1, .int .u32 0, .iface 125 (vP b5k), .slice gl.a 8 gl.c] H12k hd rfl rfl (by kernel_rfl) rfl rfl rfl) rfl fun _ wd13k H14k hq => ?_
 clear H12k hd
 obtain ⟨_, hq⟩ := hq
 replace hS : SH M X w [eB rb [.int .u32 0, .int .i32 1, .int .u32 0, .iface 125 (vP b5k), .slice gl.a 8 gl.c], eB b10k [vS [239, 191, 189], vI 2, vN, vQ, vO], eB b6k [vP b10k, vQ, vP b9k, vP b8k], eB b9k [vS [10], vI 4, vN, vQ, vO], eB b8k [vS [10], vI 6, vS [10], vP b7k, vO], eB b7k [vS [10], vI 8, vN, vQ, vO], Ent.mix .u8 b5k [vN, vI 0, vN, vQ, .slice (some ⟨b6k, 0, none⟩) 4 4, vI 4] gmap (256 : Int), eO 9 tS lit8 gl] _ := hS.join [7] [0, 1, 2, 3, 4, 5, 6] rfl rfl hq
 clear hq
 refine wl_end rfl ?_
 refine wl_start ?_
 refine wl_batch 0 3 [] [9] [(9, [], vA rb 4)] [] H14k (by decide) (by kernel_rfl) trivial fun _ wd15k H16k hb => ?_
 clear H14k
 replace hS := hS.below hb
 clear hb
 have hd := hS.hand [0] [1, 2, 3, 4, 5, 6, 7] rfl rfl
 refine m_stp0 [] [] H16k rfl rfl rfl (o_store [.int .u32 0, .int .i32 1, .int .u32 0, .iface 125 (vP b5k), vO] H16k hd rfl rfl (by kernel_rfl) rfl rfl rfl) rfl fun _ wd17k H18k hq => ?_
 clear H16k hd
 obtain ⟨_, hq⟩ := hq
 replace hS : SH M X w [eB rb [.int .u32 0, .int .i32 1, .int .u32 0, .iface 125 (vP b5k), vO], eB b10k [vS [239, 191, 189], vI 2, vN, vQ, vO], eB b6k [vP b10k, vQ, vP b9k, vP b8k], eB b9k [vS [10], vI 4, vN, vQ, vO], eB b8k [vS [10], vI 6, vS [10], vP b7k, vO], eB b7k [vS [10], vI 8, vN, vQ, vO], Ent.mix .u8 b5k [vN, vI 0, vN, vQ, .slice (some ⟨b6k, 0, none⟩) 4 4, vI 4] gmap (256 : Int), eO 9 tS lit8 gl] _ := hS.join [0] [1, 2, 3, 4, 5, 6, 7] rfl rfl hq
 clear hq
 refine wl_end rfl ?_
 try dsimp only
 exact retR0 H18k rfl ⟨_, rfl, b5k, b6k, b7k, b8k, b9k, b10k, rfl, (hS.sel [0, 1, 2, 3, 4, 5, 6, 7] rfl)⟩

def rp_HasPrefix0 (s : Str) (prefix_ : Str) : Option (Bool) :=
  chk ((decide ((ln prefix_) ≤ (ln s))) = true → 0 ≤ (ln prefix_) ∧ (ln prefix_) ≤ ln s) <|
  lt (cond (decide ((ln prefix_) ≤ (ln s))) ((sub s 0 (ln prefix_)) == prefix_) false) fun x4 =>
  some x4
theorem rp_HasPrefix0_w  (M : Av) (s : Str) (prefix_ : Str) (r : Bool) (hm : rp_HasPrefix0 s prefix_ = some r) (w : World) (hS : S0 M [] w) : Calls Tryz.prog 88 ⟨[vS s, vS prefix_]⟩ w (fun e w' => ∃ v, e = .returned v ∧ v = .bool r ∧ SH M (fpl []) w [] w') := by
 rw [rp_HasPrefix0] at hm
 have hS0 : SH M (fpl []) w [] w := hS
 generalize hX : fpl [] = X at hS0 ⊢
 clear hS hX
 have hS := hS0
 clear hS0
 refine calls_entryP Tryz.func88 rfl Tryz.ntmps88 rfl fun _ H => ?_
 refine s_reg [] [0, 1] [(0, [], vS s), (1, [], vS prefix_)] [] H (by kernel_rfl) trivial fun _ wd1 H2 hb => ?_
 clear H
 replace hS := hS.below hb
 clear hb
 obtain ⟨ho3, hm⟩ := chkE hm
 obtain ⟨x4, hx4, hm⟩ := letE hm
 refine s_reg [] [4] [(4, [], .bool x4)] [fun _ => ((decide ((ln prefix_) ≤ (ln s))) = true ∧ True → 0 ≤ (ln prefix_) ∧ (ln prefix_) ≤ ln s)] H2 (by subst hx4; kernel_rfl) ⟨fun hg => (ho3 hg.1), trivial⟩ fun _ wd5 H6 hb => ?_
 clear H2
 replace hS := hS.below hb
 clear hb
 refine w_ret ?_
 obtain rfl := someE hm
 exact retR1 H6 rfl rfl ⟨_, rfl, rfl, (hS.sel [] rfl)⟩
theorem rp_HasPrefix0_ok  (s : Str) (prefix_ : Str) (r : Bool) (hm : rp_HasPrefix0 s prefix_ = some r) : Ret Tryz.prog 88 ⟨[vS s, vS prefix_]⟩ (.bool r) := retP_of (Tryz.call88 _) (fun w h => rp_HasPrefix0_w F0   s prefix_ r hm w h)

def rp_HasPrefix (s : Str) (prefix_ : Str) : Option (Bool) :=
  Option.bind (rp_HasPrefix0 s prefix_) fun y3 =>
  some y3
theorem rp_HasPrefix_w  (M : Av) (s : Str) (prefix_ : Str) (r : Bool) (hm : rp_HasPrefix s prefix_ = some r) (w : World) (hS : S0 M [] w) : Calls Tryz.prog 55 ⟨[vS s, vS prefix_]⟩ w (fun e w' => ∃ v, e = .returned v ∧ v = .bool r ∧ SH M (fpl []) w [] w') := by
 rw [rp_HasPrefix] at hm
 have hS0 : SH M (fpl []) w [] w := hS
 generalize hX : fpl [] = X at hS0 ⊢
 clear hS hX
 have hS := hS0
 clear hS0
 refine calls_entryP Tryz.func55 rfl Tryz.ntmps55 rfl fun _ H => ?_
 refine s_reg [] [0, 1] [(0, [], vS s), (1, [], vS prefix_)] [] H (by kernel_rfl) trivial fun _ wd1 H2 hb => ?_
 clear H
 replace hS := hS.below hb
 clear hb
 obtain ⟨y3, hy3, hm⟩ := bindE hm
 refine s_reg [(.bool y3)] [4] [(4, [], .bool y3)] [fun wz => RetB Tryz.prog 88 ⟨[vS s, vS prefix_]⟩ (.bool y3) wz] H2 (by kernel_rfl) ⟨((rp_HasPrefix0_ok _ _ _ hy3).b), trivial⟩ fun _ wd4 H5 hb => ?_
 clear H2
 replace hS := hS.below hb
 clear hb
 refine w_ret ?_
 obtain rfl := someE hm
 exact retR1 H5 rfl rfl ⟨_, rfl, rfl, (hS.sel [] rfl)⟩
theorem rp_HasPrefix_ok  (s : Str) (prefix_ : Str) (r : Bool) (hm : rp_HasPrefix s prefix_ = some r) : Ret Tryz.prog 55 ⟨[vS s, vS prefix_]⟩ (.bool r) := retP_of (Tryz.call55 _) (fun w h => rp_HasPrefix_w F0   s prefix_ r hm w h)

def strings_genericReplacer_lookup (s : Str) : Option (Str × Int × Bool) :=
  cond (s == []) (
  some ([], 0, false)) (
  chk (0 ≤ (0 : Int) ∧ (0 : Int) < ln s) <|
  cond (decide ((bat s 0) = 13)) (
  chk (0 ≤ (1 : Int) ∧ (1 : Int) ≤ ln s) <|
  cond ((sub s 1 (ln s)) == []) (
  some ([10], 1, true)) (
  Option.bind (rp_HasPrefix (sub s 1 (ln s)) [10]) fun y63 =>
  cond y63 (
  chk (0 ≤ (1 : Int) ∧ (1 : Int) ≤ ln (sub s 1 (ln s))) <|
  lt (sub (sub s 1 (ln s)) 1 (ln (sub s 1 (ln s)))) fun x69 =>
  cond (x69 == []) (
  some ([10], 2, true)) (
  some ([10], 2, true))) (
  some ([10], 1, true)))) (
  cond (decide ((bat s 0) = 12)) (
  chk (0 ≤ (1 : Int) ∧ (1 : Int) ≤ ln s) <|
  cond ((sub s 1 (ln s)) == []) (
  some ([10], 1, true)) (
  some ([10], 1, true))) (
  cond (decide ((bat s 0) = 10)) (
  chk (0 ≤ (1 : Int) ∧ (1 : Int) ≤ ln s) <|
  some ([], 0, false)) (
  cond (decide ((bat s 0) = 0)) (
  chk (0 ≤ (1 : Int) ∧ (1 : Int) ≤ ln s) <|
  cond ((sub s 1 (ln s)) == []) (
  some ([239, 191, 189], 1, true)) (
  some ([239, 191, 189], 1, true))) (
  some ([], 0, false))))))
theorem strings_genericReplacer_lookup_w {t_r : Nat} {tb_r : Nat} {n1_r : Nat} {n2_r : Nat} {n3_r : Nat} {n4_r : Nat} (M : Av) (s : Str) (r : Str × Int × Bool) (hm : strings_genericReplacer_lookup s = some r) (w : World) (hS : S0 M [Ent.trie t_r tb_r n1_r n2_r n3_r n4_r] w) : Calls Tryz.prog 178 ⟨[vP t_r, vS s, vF]⟩ w (fun e w' => ∃ v, e = .returned v ∧ v = .tuple ⟨[.string ⟨⟨r.1⟩⟩, vI r.2.1, .bool r.2.2]⟩ ∧ SH M (fpl [Ent.trie t_r tb_r n1_r n2_r n3_r n4_r]) w [] w') := by
 rw [strings_genericReplacer_lookup] at hm
 have hS0 : SH M (fpl [Ent.trie t_r tb_r n1_r n2_r n3_r n4_r]) w [Ent.trie t_r tb_r n1_r n2_r n3_r n4_r] w := hS
 generalize hX : fpl [Ent.trie t_r tb_r n1_r n2_r n3_r n4_r] = X at hS0 ⊢
 clear hS hX
 have hS := hS0
 clear hS0
 refine calls_entryP Tryz.func178 rfl Tryz.ntmps178 rfl fun _ H => ?_
 refine s_reg [] [0, 1, 2, 6, 7, 8] [(0, [], vP t_r), (1, [], vS s), (2, [], vF), (6, [], vN), (7, [], vI 0), (8, [], vF)] [] H (by kernel_rfl) trivial fun _ wd1 H2 hb => ?_
 clear H
 replace hS := hS.below hb
 clear hb
 refine s_reg [] [0, 1, 2, 6, 7, 8, 9] [(0, [], vP t_r), (1, [], vS s), (2, [], vF), (6, [], vN), (7, [], vI 0), (8, [], vF), (9, [], vI 0)] [] H2 (by kernel_rfl) trivial fun _ wd3 H4 hb => ?_
 clear H2
 replace hS := hS.below hb
 clear hb
 refine s_reg [] [0, 1, 2, 6, 7, 8, 9, 10] [(0, [], vP t_r), (1, [], vS s), (2, [], vF), (6, [], vN), (7, [], vI 0), (8, [], vF), (9, [], vI 0), (10, [], vP t_r)] [] H4 (by kernel_rfl) trivial fun _ wd5 H6 hb => ?_
 clear H4
 replace hS := hS.below hb
 clear hb
 refine s_reg [] [0, 1, 2, 6, 7, 8, 9, 10, 11] [(0, [], vP t_r), (1, [], vS s), (2, [], vF), (6, [], vN), (7, [], vI 0), (8, [], vF), (9, [], vI 0), (10, [], vP t_r), (11, [], vI 0)] [] H6 (by kernel_rfl) trivial fun _ wd7 H8 hb => ?_
 clear H6
 replace hS := hS.below hb
 clear hb
 refine w_seq ?_
 refine w_block ?_
 refine w_loopU ?_
 refine lw_round ?_
 refine w_seq ?_
 refine s_reg [] [0, 1, 2, 6, 7, 8, 9, 10, 11, 17] [(0, [], vP t_r), (1, [], vS s), (2, [], vF), (6, [], vN), (7, [], vI 0), (8, [], vF), (9, [], vI 0), (10, [], vP t_r), (11, [], vI 0), (17, [], vT)] [] H8 (by kernel_rfl) trivial fun _ wd9 H10 hb => ?_
 clear H8
 replace hS := hS.below hb
 clear hb
 refine w_if H10 rfl (fun _ => ?_) (fun hc => by cases hc)
 refine w_skip ?_
 refine w_block ?_
 refine w_seq ?_
 refine w_seq ?_
 refine wl_start ?_
 refine wl_batch 0 7 [(vI 0)] [0, 1, 2, 6, 7, 8, 9, 10, 11, 24] [(0, [], vP t_r), (1, [], vS s), (2, [], vF), (6, [], vN), (7, [], vI 0), (8, [], vF), (9, [], vI 0), (10, [], vP t_r), (11, [], vI 0), (24, [], vF)] [fun wz => V.at1 ⟨t_r, 1, none⟩ (vI 0) wz] H10 (by decide) (by kernel_rfl) ⟨((hS.tr 0 rfl).bg.at1 rfl), trivial⟩ fun _ wd11 H12 hb => ?_
 clear H10
 replace hS := hS.below hb
 clear hb
 refine m_skipG 24 [25, 0, 1, 2, 6, 7, 8, 9, 10, 11, 24] [(25, [], undef), (0, [], vP t_r), (1, [], vS s), (2, [], vF), (6, [], vN), (7, [], vI 0), (8, [], vF), (9, [], vI 0), (10, [], vP t_r), (11, [], vI 0), (24, [], vF)] H12 rfl rfl rfl rfl rfl rfl fun _ H13 => ?_
 clear H12
 refine m_skipG 24 [26, 0, 1, 2, 6, 7, 8, 9, 10, 11, 24] [(26, [], undef), (0, [], vP t_r), (1, [], vS s), (2, [], vF), (6, [], vN), (7, [], vI 0), (8, [], vF), (9, [], vI 0), (10, [], vP t_r), (11, [], vI 0), (24, [], vF)] H13 rfl rfl rfl rfl rfl rfl fun _ H14 => ?_
 clear H13
 refine m_skipU 26 [27, 0, 1, 2, 6, 7, 8, 9, 10, 11, 24, 26] [(27, [], undef), (0, [], vP t_r), (1, [], vS s), (2, [], vF), (6, [], vN), (7, [], vI 0), (8, [], vF), (9, [], vI 0), (10, [], vP t_r), (11, [], vI 0), (24, [], vF), (26, [], undef)] H14 rfl rfl rfl rfl rfl fun _ H15 => ?_
 clear H14
 refine m_skipU 26 [28, 0, 1, 2, 6, 7, 8, 9, 10, 11, 24, 26, 27] [(28, [], undef), (0, [], vP t_r), (1, [], vS s), (2, [], vF), (6, [], vN), (7, [], vI 0), (8, [], vF), (9, [], vI 0), (10, [], vP t_r), (11, [], vI 0), (24, [], vF), (26, [], undef), (27, [], undef)] H15 rfl rfl rfl rfl rfl fun _ H16 => ?_
 clear H15
 refine m_skipU 26 [29, 0, 1, 2, 6, 7, 8, 9, 10, 11, 24, 26, 27] [(29, [], undef), (0, [], vP t_r), (1, [], vS s), (2, [], vF), (6, [], vN), (7, [], vI 0), (8, [], vF), (9, [], vI 0), (10, [], vP t_r), (11, [], vI 0), (24, [], vF), (26, [], undef), (27, [], undef)] H16 rfl rfl rfl rfl rfl fun _ H17 => ?_
 clear H16
 refine m_skipU 26 [30, 0, 1, 2, 6, 7, 8, 9, 10, 11, 24, 26, 27] [(30, [], undef), (0, [], vP t_r), (1, [], vS s), (2, [], vF), (6, [], vN), (7, [], vI 0), (8, [], vF), (9, [], vI 0), (10, [], vP t_r), (11, [], vI 0), (24, [], vF), (26, [], undef), (27, [], undef)] H17 rfl rfl rfl rfl rfl fun _ H18 => ?_
 clear H17
 refine m_skipU 26 [31, 0, 1, 2, 6, 7, 8, 9, 10, 11, 24, 26] [(31, [], undef), (0, [], vP t_r), (1, [], vS s), (2, [], vF), (6, [], vN), (7, [], vI 0), (8, [], vF), (9, [], vI 0), (10, [], vP t_r), (11, [], vI 0), (24, [], vF), (26, [], undef)] H18 rfl rfl rfl rfl rfl fun _ H19 => ?_
 clear H18
 refine m_skipG 24 [32, 0, 1, 2, 6, 7, 8, 9, 10, 11, 24] [(32, [], undef), (0, [], vP t_r), (1, [], vS s), (2, [], vF), (6, [], vN), (7, [], vI 0), (8, [], vF), (9, [], vI 0), (10, [], vP t_r), (11, [], vI 0), (24, [], vF)] H19 rfl rfl rfl rfl rfl rfl fun _ H20 => ?_
 clear H19
 refine m_skipG 24 [33, 0, 1, 2, 6, 7, 8, 9, 10, 11, 24] [(33, [], undef), (0, [], vP t_r), (1, [], vS s), (2, [], vF), (6, [], vN), (7, [], vI 0), (8, [], vF), (9, [], vI 0), (10, [], vP t_r), (11, [], vI 0), (24, [], vF)] H20 rfl rfl rfl rfl rfl rfl fun _ H21 => ?_
 clear H20
 refine wl_batch 16 17 [] [0, 1, 2, 6, 7, 8, 9, 10, 11, 34] [(0, [], vP t_r), (1, [], vS s), (2, [], vF), (6, [], vN), (7, [], vI 0), (8, [], vF), (9, [], vI 0), (10, [], vP t_r), (11, [], vI 0), (34, [], vF)] [] H21 (by decide) (by kernel_rfl) trivial fun _ wd22 H23 hb => ?_
 clear H21
 replace hS := hS.below hb
 clear hb
 refine wl_end rfl ?_
 refine w_if H23 rfl (fun hc => by cases hc) (fun _ => ?_)
 refine w_skip ?_
 refine w_seq ?_
 refine s_reg [] [0, 1, 2, 6, 7, 8, 9, 10, 11, 45] [(0, [], vP t_r), (1, [], vS s), (2, [], vF), (6, [], vN), (7, [], vI 0), (8, [], vF), (9, [], vI 0), (10, [], vP t_r), (11, [], vI 0), (45, [], .bool (s == []))] [] H23 (by kernel_rfl) trivial fun _ wd24 H25 hb => ?_
 clear H23
 replace hS := hS.below hb
 clear hb
 refine w_if H25 rfl (fun hc => ?c209) (fun hc => ?_)
 case c209 =>
  replace hm := bT hc hm
  refine w_exit rfl ?_
  refine w_ret ?_
  obtain rfl := someE hm
  exact retR3 H25 rfl rfl rfl rfl ⟨_, rfl, rfl, (hS.sel [] rfl)⟩
 replace hm := bF hc hm
 refine w_skip ?_
 refine s_reg [(.slice (some ⟨tb_r, 0, none⟩) 4 4)] [0, 1, 2, 6, 7, 8, 9, 10, 11, 50] [(0, [], vP t_r), (1, [], vS s), (2, [], vF), (6, [], vN), (7, [], vI 0), (8, [], vF), (9, [], vI 0), (10, [], vP t_r), (11, [], vI 0), (50, [], vT)] [fun wz => V.at1 ⟨t_r, 4, none⟩ (.slice (some ⟨tb_r, 0, none⟩) 4 4) wz] H25 (by kernel_rfl) ⟨((hS.tr 0 rfl).bg.at1 rfl), trivial⟩ fun _ wd26 H27 hb => ?_
 clear H25
 replace hS := hS.below hb
 clear hb
 refine w_if H27 rfl (fun _ => ?_) (fun hc => by cases hc)
 obtain ⟨ho28, hm⟩ := chkE hm
 refine s_draw [(vU (gi gmap (bat s 0)))] [0, 1, 2, 6, 7, 8, 9, 10, 11, 12] [(0, [], vP t_r), (1, [], vS s), (2, [], vF), (6, [], vN), (7, [], vI 0), (8, [], vF), (9, [], vI 0), (10, [], vP t_r), (11, [], vI 0), (12, [], vU (gi gmap (bat s 0)))] [fun _ => 0 ≤ (0 : Int) ∧ (0 : Int) < ln s, fun _ => 0 ≤ (bat s 0) ∧ (bat s 0) < (256 : Int), fun wz => V.at1 ⟨t_r, 6 + ((bat s 0)).toNat * 1, none⟩ (vU (gi gmap (bat s 0))) wz] H27 (by kernel_rfl) (by kernel_rfl) (by kernel_rfl) ⟨ho28, (bat_byte _ _), (Mix.ixn ⟨(hS.tr 0 rfl).bg, gmap_len⟩ rfl (bat_byte _ _)), trivial⟩ fun _ wd29 H30 hb => ?_
 clear H27
 replace hS := hS.below hb
 clear hb
 by_cases hx13 : (bat s 0) = 13
 ·replace hm := bT (decide_eq_true hx13) hm
  rw [show gi gmap (bat s 0) = 3 from by rw [hx13]; exact gmap13] at H30
  replace H30 := FrG.keep (l' := [(0, [], vP t_r), (1, [], vS s), (2, [], vF), (6, [], vN), (7, [], vI 0), (8, [], vF), (9, [], vI 0), (10, [], vP t_r), (11, [], vI 0), (12, [], vU 3)]) (ks := [0, 1, 2, 6, 7, 8, 9, 10, 11, 12]) H30 (by kernel_rfl)
  refine w_seq ?_
  refine s_reg [(vI 4)] [0, 1, 2, 6, 7, 8, 9, 10, 11, 12, 64] [(0, [], vP t_r), (1, [], vS s), (2, [], vF), (6, [], vN), (7, [], vI 0), (8, [], vF), (9, [], vI 0), (10, [], vP t_r), (11, [], vI 0), (12, [], vU 3), (64, [], vF)] [fun wz => V.at1 ⟨t_r, 5, none⟩ (vI 4) wz] H30 (by kernel_rfl) ⟨((hS.tr 0 rfl).bg.at1 rfl), trivial⟩ fun _ wd31 H32 hb => ?_
  clear H30
  replace hS := hS.below hb
  clear hb
  refine w_if H32 rfl (fun hc => by cases hc) (fun _ => ?_)
  refine w_skip ?_
  refine s_reg [(.slice (some ⟨tb_r, 0, none⟩) 4 4), (vP n1_r)] [0, 1, 2, 6, 7, 8, 9, 10, 11] [(0, [], vP t_r), (1, [], vS s), (2, [], vF), (6, [], vN), (7, [], vI 0), (8, [], vF), (9, [], vI 0), (10, [], vP n1_r), (11, [], vI 0)] [fun wz => V.at1 ⟨t_r, 4, none⟩ (.slice (some ⟨tb_r, 0, none⟩) 4 4) wz, fun _ => oka (some ⟨tb_r, 0, none⟩) ∧ 0 ≤ (3 : Int) ∧ (3 : Int) < 4, fun wz => V.at1 ⟨tb_r, 3, none⟩ (vP n1_r) wz] H32 (by kernel_rfl) ⟨((hS.tr 0 rfl).bg.at1 rfl), (⟨rfl, (show 0 ≤ (3 : Int) ∧ (3 : Int) < 4 from by decide)⟩), ((hS.tr 0 rfl).bt.at1 rfl), trivial⟩ fun _ wd33 H34 hb => ?_
  clear H32
  replace hS := hS.below hb
  clear hb
  obtain ⟨ho35, hm⟩ := chkE hm
  refine s_reg [] [0, 1, 2, 6, 7, 8, 9, 10, 11] [(0, [], vP t_r), (1, [], .string ⟨⟨sub s 1 (ln s)⟩⟩), (2, [], vF), (6, [], vN), (7, [], vI 0), (8, [], vF), (9, [], vI 0), (10, [], vP n1_r), (11, [], vI 0)] [fun _ => 0 ≤ (1 : Int) ∧ (1 : Int) ≤ ln s] H34 (by kernel_rfl) ⟨ho35, trivial⟩ fun _ wd36 H37 hb => ?_
  clear H34
  replace hS := hS.below hb
  clear hb
  refine w_reg [] [0, 1, 2, 6, 7, 8, 9, 10, 11] [(0, [], vP t_r), (1, [], .string ⟨⟨sub s 1 (ln s)⟩⟩), (2, [], vF), (6, [], vN), (7, [], vI 0), (8, [], vF), (9, [], vI 0), (10, [], vP n1_r), (11, [], vI 1)] [] H37 (by kernel_rfl) trivial fun _ wd38 H39 hb => ?_
  clear H37
  replace hS := hS.below hb
  clear hb
  refine lw_round ?_
  refine w_seq ?_
  refine s_reg [] [0, 1, 2, 6, 7, 8, 9, 10, 11, 17] [(0, [], vP t_r), (1, [], .string ⟨⟨sub s 1 (ln s)⟩⟩), (2, [], vF), (6, [], vN), (7, [], vI 0), (8, [], vF), (9, [], vI 0), (10, [], vP n1_r), (11, [], vI 1), (17, [], vT)] [] H39 (by kernel_rfl) trivial fun _ wd40 H41 hb => ?_
  clear H39
  replace hS := hS.below hb
  clear hb
  refine w_if H41 rfl (fun _ => ?_) (fun hc => by cases hc)
  refine w_skip ?_
  refine w_block ?_
  refine w_seq ?_
  refine w_seq ?_
  refine wl_start ?_
  refine wl_batchM 0 9 [(vI 6)] [(0, 0), (1, 0), (2, 0), (6, 0), (7, 0), (8, 0), (9, 0), (10, 0), (11, 0), (24, 0), (26, 1)] [(0, [], vP t_r), (1, [], .string ⟨⟨sub s 1 (ln s)⟩⟩), (2, [], vF), (6, [], vN), (7, [], vI 0), (8, [], vF), (9, [], vI 0), (10, [], vP n1_r), (11, [], vI 1), (24, [], vT), (26, [], vF)] [fun wz => V.at1 ⟨n1_r, 1, none⟩ (vI 6) wz] H41 (by decide) (by kernel_rfl) ⟨((hS.tr 0 rfl).b1.at1 rfl), trivial⟩ fun _ wd42 H43 hb => ?_
  clear H41
  replace hS := hS.below hb
  clear hb
  refine m_skipG 26 [27, 0, 1, 2, 6, 7, 8, 9, 10, 11, 24, 26] [(27, [], undef), (0, [], vP t_r), (1, [], .string ⟨⟨sub s 1 (ln s)⟩⟩), (2, [], vF), (6, [], vN), (7, [], vI 0), (8, [], vF), (9, [], vI 0), (10, [], vP n1_r), (11, [], vI 1), (24, [], vT), (26, [], vF)] H43 rfl rfl rfl rfl rfl rfl fun _ H44 => ?_
  clear H43
  refine m_skipG 26 [28, 0, 1, 2, 6, 7, 8, 9, 10, 11, 24, 26, 27] [(28, [], undef), (0, [], vP t_r), (1, [], .string ⟨⟨sub s 1 (ln s)⟩⟩), (2, [], vF), (6, [], vN), (7, [], vI 0), (8, [], vF), (9, [], vI 0), (10, [], vP n1_r), (11, [], vI 1), (24, [], vT), (26, [], vF), (27, [], undef)] H44 rfl rfl rfl rfl rfl rfl fun _ H45 => ?_
  clear H44
  refine m_skipG 26 [29, 0, 1, 2, 6, 7, 8, 9, 10, 11, 24, 26, 27] [(29, [], undef), (0, [], vP t_r), (1, [], .string ⟨⟨sub s 1 (ln s)⟩⟩), (2, [], vF), (6, [], vN), (7, [], vI 0), (8, [], vF), (9, [], vI 0), (10, [], vP n1_r), (11, [], vI 1), (24, [], vT), (26, [], vF), (27, [], undef)] H45 rfl rfl rfl rfl rfl rfl fun _ H46 => ?_
  clear H45
  refine m_skipG 26 [30, 0, 1, 2, 6, 7, 8, 9, 10, 11, 24, 26, 27] [(30, [], undef), (0, [], vP t_r), (1, [], .string ⟨⟨sub s 1 (ln s)⟩⟩), (2, [], vF), (6, [], vN), (7, [], vI 0), (8, [], vF), (9, [], vI 0), (10, [], vP n1_r), (11, [], vI 1), (24, [], vT), (26, [], vF), (27, [], undef)] H46 rfl rfl rfl rfl rfl rfl fun _ H47 => ?_
  clear H46
  refine m_skipG 26 [31, 0, 1, 2, 6, 7, 8, 9, 10, 11, 24, 26] [(31, [], undef), (0, [], vP t_r), (1, [], .string ⟨⟨sub s 1 (ln s)⟩⟩), (2, [], vF), (6, [], vN), (7, [], vI 0), (8, [], vF), (9, [], vI 0), (10, [], vP n1_r), (11, [], vI 1), (24, [], vT), (26, [], vF)] H47 rfl rfl rfl rfl rfl rfl fun _ H48 => ?_
  clear H47
  refine wl_batch 14 17 [] [0, 1, 2, 6, 7, 8, 9, 10, 11, 34] [(0, [], vP t_r), (1, [], .string ⟨⟨sub s 1 (ln s)⟩⟩), (2, [], vF), (6, [], vN), (7, [], vI 0), (8, [], vF), (9, [], vI 0), (10, [], vP n1_r), (11, [], vI 1), (34, [], vT)] [] H48 (by decide) (by kernel_rfl) trivial fun _ wd49 H50 hb => ?_
  clear H48
  replace hS := hS.below hb
  clear hb
  refine wl_end rfl ?_
  refine w_if H50 rfl (fun _ => ?_) (fun hc => by cases hc)
  refine s_reg [(vI 6)] [0, 1, 2, 9, 10, 11] [(0, [], vP t_r), (1, [], .string ⟨⟨sub s 1 (ln s)⟩⟩), (2, [], vF), (9, [], vI 6), (10, [], vP n1_r), (11, [], vI 1)] [fun wz => V.at1 ⟨n1_r, 1, none⟩ (vI 6) wz] H50 (by kernel_rfl) ⟨((hS.tr 0 rfl).b1.at1 rfl), trivial⟩ fun _ wd51 H52 hb => ?_
  clear H50
  replace hS := hS.below hb
  clear hb
  refine s_reg [(vS [10])] [0, 1, 2, 6, 9, 10, 11] [(0, [], vP t_r), (1, [], .string ⟨⟨sub s 1 (ln s)⟩⟩), (2, [], vF), (6, [], vS [10]), (9, [], vI 6), (10, [], vP n1_r), (11, [], vI 1)] [fun wz => V.at1 ⟨n1_r, 0, none⟩ (vS [10]) wz] H52 (by kernel_rfl) ⟨((hS.tr 0 rfl).b1.at1 rfl), trivial⟩ fun _ wd53 H54 hb => ?_
  clear H52
  replace hS := hS.below hb
  clear hb
  refine s_reg [] [0, 1, 2, 6, 7, 9, 10, 11] [(0, [], vP t_r), (1, [], .string ⟨⟨sub s 1 (ln s)⟩⟩), (2, [], vF), (6, [], vS [10]), (7, [], vI 1), (9, [], vI 6), (10, [], vP n1_r), (11, [], vI 1)] [] H54 (by kernel_rfl) trivial fun _ wd55 H56 hb => ?_
  clear H54
  replace hS := hS.below hb
  clear hb
  refine w_reg [] [0, 1, 2, 6, 7, 8, 9, 10, 11] [(0, [], vP t_r), (1, [], .string ⟨⟨sub s 1 (ln s)⟩⟩), (2, [], vF), (6, [], vS [10]), (7, [], vI 1), (8, [], vT), (9, [], vI 6), (10, [], vP n1_r), (11, [], vI 1)] [] H56 (by kernel_rfl) trivial fun _ wd57 H58 hb => ?_
  clear H56
  replace hS := hS.below hb
  clear hb
  refine w_seq ?_
  refine s_reg [] [0, 1, 2, 6, 7, 8, 9, 10, 11, 45] [(0, [], vP t_r), (1, [], .string ⟨⟨sub s 1 (ln s)⟩⟩), (2, [], vF), (6, [], vS [10]), (7, [], vI 1), (8, [], vT), (9, [], vI 6), (10, [], vP n1_r), (11, [], vI 1), (45, [], .bool ((sub s 1 (ln s)) == []))] [] H58 (by kernel_rfl) trivial fun _ wd59 H60 hb => ?_
  clear H58
  replace hS := hS.below hb
  clear hb
  refine w_if H60 rfl (fun hc => ?c109) (fun hc => ?_)
  case c109 =>
   replace hm := bT hc hm
   refine w_exit rfl ?_
   refine w_ret ?_
   obtain rfl := someE hm
   exact retR3 H60 rfl rfl rfl rfl ⟨_, rfl, rfl, (hS.sel [] rfl)⟩
  replace hm := bF hc hm
  refine w_skip ?_
  refine s_reg [(vO)] [0, 1, 2, 6, 7, 8, 9, 10, 11, 50] [(0, [], vP t_r), (1, [], .string ⟨⟨sub s 1 (ln s)⟩⟩), (2, [], vF), (6, [], vS [10]), (7, [], vI 1), (8, [], vT), (9, [], vI 6), (10, [], vP n1_r), (11, [], vI 1), (50, [], vF)] [fun wz => V.at1 ⟨n1_r, 4, none⟩ (vO) wz] H60 (by kernel_rfl) ⟨((hS.tr 0 rfl).b1.at1 rfl), trivial⟩ fun _ wd61 H62 hb => ?_
  clear H60
  replace hS := hS.below hb
  clear hb
  refine w_if H62 rfl (fun hc => by cases hc) (fun _ => ?_)
  obtain ⟨y63, hy63, hm⟩ := bindE hm
  refine s_reg [(vS [10]), (vS [10]), (.bool y63)] [0, 1, 2, 6, 7, 8, 9, 10, 11, 88] [(0, [], vP t_r), (1, [], .string ⟨⟨sub s 1 (ln s)⟩⟩), (2, [], vF), (6, [], vS [10]), (7, [], vI 1), (8, [], vT), (9, [], vI 6), (10, [], vP n1_r), (11, [], vI 1), (88, [], .bool y63)] [fun wz => V.at1 ⟨n1_r, 2, none⟩ (vS [10]) wz, fun wz => (true = true ∧ True → V.at1 ⟨n1_r, 2, none⟩ (vS [10]) wz), fun wz => (true = true ∧ True → RetB Tryz.prog 55 ⟨[.string ⟨⟨sub s 1 (ln s)⟩⟩, vS [10]]⟩ (.bool y63) wz)] H62 (by kernel_rfl) ⟨((hS.tr 0 rfl).b1.at1 rfl), fun hg => (hS.tr 0 rfl).b1.at1 rfl, fun hg => (rp_HasPrefix_ok _ _ _ hy63).b, trivial⟩ fun _ wd64 H65 hb => ?_
  clear H62
  replace hS := hS.below hb
  clear hb
  refine w_if H65 rfl (fun hc => ?_) (fun hc => ?c108)
  case c108 =>
   replace hm := bF hc hm
   refine w_exit rfl ?_
   refine w_ret ?_
   obtain rfl := someE hm
   exact retR3 H65 rfl rfl rfl rfl ⟨_, rfl, rfl, (hS.sel [] rfl)⟩
  replace hm := bT hc hm
  refine s_reg [(vS [10])] [0, 1, 2, 6, 7, 8, 9, 10, 11] [(0, [], vP t_r), (1, [], .string ⟨⟨sub s 1 (ln s)⟩⟩), (2, [], vF), (6, [], vS [10]), (7, [], vI 1), (8, [], vT), (9, [], vI 6), (10, [], vP n1_r), (11, [], vI 2)] [fun wz => V.at1 ⟨n1_r, 2, none⟩ (vS [10]) wz] H65 (by kernel_rfl) ⟨((hS.tr 0 rfl).b1.at1 rfl), trivial⟩ fun _ wd66 H67 hb => ?_
  clear H65
  replace hS := hS.below hb
  clear hb
  obtain ⟨ho68, hm⟩ := chkE hm
  obtain ⟨x69, hx69, hm⟩ := letE hm
  refine s_reg [(vS [10])] [0, 1, 2, 6, 7, 8, 9, 10, 11] [(0, [], vP t_r), (1, [], vS x69), (2, [], vF), (6, [], vS [10]), (7, [], vI 1), (8, [], vT), (9, [], vI 6), (10, [], vP n1_r), (11, [], vI 2)] [fun wz => V.at1 ⟨n1_r, 2, none⟩ (vS [10]) wz, fun _ => 0 ≤ (1 : Int) ∧ (1 : Int) ≤ ln (sub s 1 (ln s))] H67 (by subst hx69; kernel_rfl) ⟨((hS.tr 0 rfl).b1.at1 rfl), ho68, trivial⟩ fun _ wd70 H71 hb => ?_
  clear H67
  replace hS := hS.below hb
  clear hb
  refine w_reg [(vP n2_r)] [0, 1, 2, 6, 7, 8, 9, 10, 11] [(0, [], vP t_r), (1, [], vS x69), (2, [], vF), (6, [], vS [10]), (7, [], vI 1), (8, [], vT), (9, [], vI 6), (10, [], vP n2_r), (11, [], vI 2)] [fun wz => V.at1 ⟨n1_r, 3, none⟩ (vP n2_r) wz] H71 (by kernel_rfl) ⟨((hS.tr 0 rfl).b1.at1 rfl), trivial⟩ fun _ wd72 H73 hb => ?_
  clear H71
  replace hS := hS.below hb
  clear hb
  refine lw_round ?_
  refine w_seq ?_
  refine s_reg [] [0, 1, 2, 6, 7, 8, 9, 10, 11, 17] [(0, [], vP t_r), (1, [], vS x69), (2, [], vF), (6, [], vS [10]), (7, [], vI 1), (8, [], vT), (9, [], vI 6), (10, [], vP n2_r), (11, [], vI 2), (17, [], vT)] [] H73 (by kernel_rfl) trivial fun _ wd74 H75 hb => ?_
  clear H73
  replace hS := hS.below hb
  clear hb
  refine w_if H75 rfl (fun _ => ?_) (fun hc => by cases hc)
  refine w_skip ?_
  refine w_block ?_
  refine w_seq ?_
  refine w_seq ?_
  refine wl_start ?_
  refine wl_batchM 0 9 [(vI 8)] [(0, 0), (1, 0), (2, 0), (6, 0), (7, 0), (8, 0), (9, 0), (10, 0), (11, 0), (24, 0), (26, 1)] [(0, [], vP t_r), (1, [], vS x69), (2, [], vF), (6, [], vS [10]), (7, [], vI 1), (8, [], vT), (9, [], vI 6), (10, [], vP n2_r), (11, [], vI 2), (24, [], vT), (26, [], vF)] [fun wz => V.at1 ⟨n2_r, 1, none⟩ (vI 8) wz] H75 (by decide) (by kernel_rfl) ⟨((hS.tr 0 rfl).b2.at1 rfl), trivial⟩ fun _ wd76 H77 hb => ?_
  clear H75
  replace hS := hS.below hb
  clear hb
  refine m_skipG 26 [27, 0, 1, 2, 6, 7, 8, 9, 10, 11, 24, 26] [(27, [], undef), (0, [], vP t_r), (1, [], vS x69), (2, [], vF), (6, [], vS [10]), (7, [], vI 1), (8, [], vT), (9, [], vI 6), (10, [], vP n2_r), (11, [], vI 2), (24, [], vT), (26, [], vF)] H77 rfl rfl rfl rfl rfl rfl fun _ H78 => ?_
  clear H77
  refine m_skipG 26 [28, 0, 1, 2, 6, 7, 8, 9, 10, 11, 24, 26, 27] [(28, [], undef), (0, [], vP t_r), (1, [], vS x69), (2, [], vF), (6, [], vS [10]), (7, [], vI 1), (8, [], vT), (9, [], vI 6), (10, [], vP n2_r), (11, [], vI 2), (24, [], vT), (26, [], vF), (27, [], undef)] H78 rfl rfl rfl rfl rfl rfl fun _ H79 => ?_
  clear H78
  refine m_skipG 26 [29, 0, 1, 2, 6, 7, 8, 9, 10, 11, 24, 26, 27] [(29, [], undef), (0, [], vP t_r), (1, [], vS x69), (2, [], vF), (6, [], vS [10]), (7, [], vI 1), (8, [], vT), (9, [], vI 6), (10, [], vP n2_r), (11, [], vI 2), (24, [], vT), (26, [], vF), (27, [], undef)] H79 rfl rfl rfl rfl rfl rfl fun _ H80 => ?_
  clear H79
  refine m_skipG 26 [30, 0, 1, 2, 6, 7, 8, 9, 10, 11, 24, 26, 27] [(30, [], undef), (0, [], vP t_r), (1, [], vS x69), (2, [], vF), (6, [], vS [10]), (7, [], vI 1), (8, [], vT), (9, [], vI 6), (10, [], vP n2_r), (11, [], vI 2), (24, [], vT), (26, [], vF), (27, [], undef)] H80 rfl rfl rfl rfl rfl rfl fun _ H81 => ?_
  clear H80
  refine m_skipG 26 [31, 0, 1, 2, 6, 7, 8, 9, 10, 11, 24, 26] [(31, [], undef), (0, [], vP t_r), (1, [], vS x69), (2, [], vF), (6, [], vS [10]), (7, [], vI 1), (8, [], vT), (9, [], vI 6), (10, [], vP n2_r), (11, [], vI 2), (24, [], vT), (26, [], vF)] H81 rfl rfl rfl rfl rfl rfl fun _ H82 => ?_
  clear H81
  refine wl_batch 14 17 [] [0, 1, 2, 6, 7, 8, 9, 10, 11, 34] [(0, [], vP t_r), (1, [], vS x69), (2, [], vF), (6, [], vS [10]), (7, [], vI 1), (8, [], vT), (9, [], vI 6), (10, [], vP n2_r), (11, [], vI 2), (34, [], vT)] [] H82 (by decide) (by kernel_rfl) trivial fun _ wd83 H84 hb => ?_
  clear H82
  replace hS := hS.below hb
  clear hb
  refine wl_end rfl ?_
  refine w_if H84 rfl (fun _ => ?_) (fun hc => by cases hc)
  refine s_reg [(vI 8)] [0, 1, 2, 9, 10, 11] [(0, [], vP t_r), (1, [], vS x69), (2, [], vF), (9, [], vI 8), (10, [], vP n2_r), (11, [], vI 2)] [fun wz => V.at1 ⟨n2_r, 1, none⟩ (vI 8) wz] H84 (by kernel_rfl) ⟨((hS.tr 0 rfl).b2.at1 rfl), trivial⟩ fun _ wd85 H86 hb => ?_
  clear H84
  replace hS := hS.below hb
  clear hb
  refine s_reg [(vS [10])] [0, 1, 2, 6, 9, 10, 11] [(0, [], vP t_r), (1, [], vS x69), (2, [], vF), (6, [], vS [10]), (9, [], vI 8), (10, [], vP n2_r), (11, [], vI 2)] [fun wz => V.at1 ⟨n2_r, 0, none⟩ (vS [10]) wz] H86 (by kernel_rfl) ⟨((hS.tr 0 rfl).b2.at1 rfl), trivial⟩ fun _ wd87 H88 hb => ?_
  clear H86
  replace hS := hS.below hb
  clear hb
  refine s_reg [] [0, 1, 2, 6, 7, 9, 10, 11] [(0, [], vP t_r), (1, [], vS x69), (2, [], vF), (6, [], vS [10]), (7, [], vI 2), (9, [], vI 8), (10, [], vP n2_r), (11, [], vI 2)] [] H88 (by kernel_rfl) trivial fun _ wd89 H90 hb => ?_
  clear H88
  replace hS := hS.below hb
  clear hb
  refine w_reg [] [0, 1, 2, 6, 7, 8, 9, 10, 11] [(0, [], vP t_r), (1, [], vS x69), (2, [], vF), (6, [], vS [10]), (7, [], vI 2), (8, [], vT), (9, [], vI 8), (10, [], vP n2_r), (11, [], vI 2)] [] H90 (by kernel_rfl) trivial fun _ wd91 H92 hb => ?_
  clear H90
  replace hS := hS.below hb
  clear hb
  refine w_seq ?_
  refine s_reg [] [0, 1, 2, 6, 7, 8, 9, 10, 11, 45] [(0, [], vP t_r), (1, [], vS x69), (2, [], vF), (6, [], vS [10]), (7, [], vI 2), (8, [], vT), (9, [], vI 8), (10, [], vP n2_r), (11, [], vI 2), (45, [], .bool (x69 == []))] [] H92 (by kernel_rfl) trivial fun _ wd93 H94 hb => ?_
  clear H92
  replace hS := hS.below hb
  clear hb
  refine w_if H94 rfl (fun hc => ?c107) (fun hc => ?_)
  case c107 =>
   replace hm := bT hc hm
   refine w_exit rfl ?_
   refine w_ret ?_
   obtain rfl := someE hm
   exact retR3 H94 rfl rfl rfl rfl ⟨_, rfl, rfl, (hS.sel [] rfl)⟩
  replace hm := bF hc hm
  refine w_skip ?_
  refine s_reg [(vO)] [0, 1, 2, 6, 7, 8, 9, 10, 11, 50] [(0, [], vP t_r), (1, [], vS x69), (2, [], vF), (6, [], vS [10]), (7, [], vI 2), (8, [], vT), (9, [], vI 8), (10, [], vP n2_r), (11, [], vI 2), (50, [], vF)] [fun wz => V.at1 ⟨n2_r, 4, none⟩ (vO) wz] H94 (by kernel_rfl) ⟨((hS.tr 0 rfl).b2.at1 rfl), trivial⟩ fun _ wd95 H96 hb => ?_
  clear H94
  replace hS := hS.below hb
  clear hb
  refine w_if H96 rfl (fun hc => by cases hc) (fun _ => ?_)
  refine w_seq ?_
  refine wl_start ?_
  refine wl_batch 0 6 [(vN)] [0, 1, 2, 6, 7, 8, 9, 10, 11, 81] [(0, [], vP t_r), (1, [], vS x69), (2, [], vF), (6, [], vS [10]), (7, [], vI 2), (8, [], vT), (9, [], vI 8), (10, [], vP n2_r), (11, [], vI 2), (81, [], vF)] [fun wz => V.at1 ⟨n2_r, 2, none⟩ (vN) wz] H96 (by decide) (by kernel_rfl) ⟨((hS.tr 0 rfl).b2.at1 rfl), trivial⟩ fun _ wd97 H98 hb => ?_
  clear H96
  replace hS := hS.below hb
  clear hb
  refine m_skipG 81 [82, 0, 1, 2, 6, 7, 8, 9, 10, 11, 81] [(82, [], undef), (0, [], vP t_r), (1, [], vS x69), (2, [], vF), (6, [], vS [10]), (7, [], vI 2), (8, [], vT), (9, [], vI 8), (10, [], vP n2_r), (11, [], vI 2), (81, [], vF)] H98 rfl rfl rfl rfl rfl rfl fun _ H99 => ?_
  clear H98
  refine m_skipG 81 [83, 0, 1, 2, 6, 7, 8, 9, 10, 11, 81, 82] [(83, [], undef), (0, [], vP t_r), (1, [], vS x69), (2, [], vF), (6, [], vS [10]), (7, [], vI 2), (8, [], vT), (9, [], vI 8), (10, [], vP n2_r), (11, [], vI 2), (81, [], vF), (82, [], undef)] H99 rfl rfl rfl rfl rfl rfl fun _ H100 => ?_
  clear H99
  refine m_skipG 81 [84, 0, 1, 2, 6, 7, 8, 9, 10, 11, 81, 82] [(84, [], undef), (0, [], vP t_r), (1, [], vS x69), (2, [], vF), (6, [], vS [10]), (7, [], vI 2), (8, [], vT), (9, [], vI 8), (10, [], vP n2_r), (11, [], vI 2), (81, [], vF), (82, [], undef)] H100 rfl rfl rfl rfl rfl rfl fun _ H101 => ?_
  clear H100
  refine m_skipG 81 [85, 0, 1, 2, 6, 7, 8, 9, 10, 11, 81, 82] [(85, [], undef), (0, [], vP t_r), (1, [], vS x69), (2, [], vF), (6, [], vS [10]), (7, [], vI 2), (8, [], vT), (9, [], vI 8), (10, [], vP n2_r), (11, [], vI 2), (81, [], vF), (82, [], undef)] H101 rfl rfl rfl rfl rfl rfl fun _ H102 => ?_
  clear H101
  refine m_skipG 81 [86, 0, 1, 2, 6, 7, 8, 9, 10, 11, 81, 82] [(86, [], undef), (0, [], vP t_r), (1, [], vS x69), (2, [], vF), (6, [], vS [10]), (7, [], vI 2), (8, [], vT), (9, [], vI 8), (10, [], vP n2_r), (11, [], vI 2), (81, [], vF), (82, [], undef)] H102 rfl rfl rfl rfl rfl rfl fun _ H103 => ?_
  clear H102
  refine m_skipG 81 [87, 0, 1, 2, 6, 7, 8, 9, 10, 11, 81] [(87, [], undef), (0, [], vP t_r), (1, [], vS x69), (2, [], vF), (6, [], vS [10]), (7, [], vI 2), (8, [], vT), (9, [], vI 8), (10, [], vP n2_r), (11, [], vI 2), (81, [], vF)] H103 rfl rfl rfl rfl rfl rfl fun _ H104 => ?_
  clear H103
  refine wl_batch 12 13 [] [0, 1, 2, 6, 7, 8, 9, 10, 11, 88] [(0, [], vP t_r), (1, [], vS x69), (2, [], vF), (6, [], vS [10]), (7, [], vI 2), (8, [], vT), (9, [], vI 8), (10, [], vP n2_r), (11, [], vI 2), (88, [], vF)] [] H104 (by decide) (by kernel_rfl) trivial fun _ wd105 H106 hb => ?_
  clear H104
  replace hS := hS.below hb
  clear hb
  refine wl_end rfl ?_
  refine w_if H106 rfl (fun hc => by cases hc) (fun _ => ?_)
  refine w_exit rfl ?_
  refine w_ret ?_
  obtain rfl := someE hm
  exact retR3 H106 rfl rfl rfl rfl ⟨_, rfl, rfl, (hS.sel [] rfl)⟩
 replace hm := bF (decide_eq_false hx13) hm
 by_cases hx12 : (bat s 0) = 12
 ·replace hm := bT (decide_eq_true hx12) hm
  rw [show gi gmap (bat s 0) = 2 from by rw [hx12]; exact gmap12] at H30
  replace H30 := FrG.keep (l' := [(0, [], vP t_r), (1, [], vS s), (2, [], vF), (6, [], vN), (7, [], vI 0), (8, [], vF), (9, [], vI 0), (10, [], vP t_r), (11, [], vI 0), (12, [], vU 2)]) (ks := [0, 1, 2, 6, 7, 8, 9, 10, 11, 12]) H30 (by kernel_rfl)
  refine w_seq ?_
  refine s_reg [(vI 4)] [0, 1, 2, 6, 7, 8, 9, 10, 11, 12, 64] [(0, [], vP t_r), (1, [], vS s), (2, [], vF), (6, [], vN), (7, [], vI 0), (8, [], vF), (9, [], vI 0), (10, [], vP t_r), (11, [], vI 0), (12, [], vU 2), (64, [], vF)] [fun wz => V.at1 ⟨t_r, 5, none⟩ (vI 4) wz] H30 (by kernel_rfl) ⟨((hS.tr 0 rfl).bg.at1 rfl), trivial⟩ fun _ wd110 H111 hb => ?_
  clear H30
  replace hS := hS.below hb
  clear hb
  refine w_if H111 rfl (fun hc => by cases hc) (fun _ => ?_)
  refine w_skip ?_
  refine s_reg [(.slice (some ⟨tb_r, 0, none⟩) 4 4), (vP n3_r)] [0, 1, 2, 6, 7, 8, 9, 10, 11] [(0, [], vP t_r), (1, [], vS s), (2, [], vF), (6, [], vN), (7, [], vI 0), (8, [], vF), (9, [], vI 0), (10, [], vP n3_r), (11, [], vI 0)] [fun wz => V.at1 ⟨t_r, 4, none⟩ (.slice (some ⟨tb_r, 0, none⟩) 4 4) wz, fun _ => oka (some ⟨tb_r, 0, none⟩) ∧ 0 ≤ (2 : Int) ∧ (2 : Int) < 4, fun wz => V.at1 ⟨tb_r, 2, none⟩ (vP n3_r) wz] H111 (by kernel_rfl) ⟨((hS.tr 0 rfl).bg.at1 rfl), (⟨rfl, (show 0 ≤ (2 : Int) ∧ (2 : Int) < 4 from by decide)⟩), ((hS.tr 0 rfl).bt.at1 rfl), trivial⟩ fun _ wd112 H113 hb => ?_
  clear H111
  replace hS := hS.below hb
  clear hb
  obtain ⟨ho114, hm⟩ := chkE hm
  refine s_reg [] [0, 1, 2, 6, 7, 8, 9, 10, 11] [(0, [], vP t_r), (1, [], .string ⟨⟨sub s 1 (ln s)⟩⟩), (2, [], vF), (6, [], vN), (7, [], vI 0), (8, [], vF), (9, [], vI 0), (10, [], vP n3_r), (11, [], vI 0)] [fun _ => 0 ≤ (1 : Int) ∧ (1 : Int) ≤ ln s] H113 (by kernel_rfl) ⟨ho114, trivial⟩ fun _ wd115 H116 hb => ?_
  clear H113
  replace hS := hS.below hb
  clear hb
  refine w_reg [] [0, 1, 2, 6, 7, 8, 9, 10, 11] [(0, [], vP t_r), (1, [], .string ⟨⟨sub s 1 (ln s)⟩⟩), (2, [], vF), (6, [], vN), (7, [], vI 0), (8, [], vF), (9, [], vI 0), (10, [], vP n3_r), (11, [], vI 1)] [] H116 (by kernel_rfl) trivial fun _ wd117 H118 hb => ?_
  clear H116
  replace hS := hS.below hb
  clear hb
  refine lw_round ?_
  refine w_seq ?_
  refine s_reg [] [0, 1, 2, 6, 7, 8, 9, 10, 11, 17] [(0, [], vP t_r), (1, [], .string ⟨⟨sub s 1 (ln s)⟩⟩), (2, [], vF), (6, [], vN), (7, [], vI 0), (8, [], vF), (9, [], vI 0), (10, [], vP n3_r), (11, [], vI 1), (17, [], vT)] [] H118 (by kernel_rfl) trivial fun _ wd119 H120 hb => ?_
  clear H118
  replace hS := hS.below hb
  clear hb
  refine w_if H120 rfl (fun _ => ?_) (fun hc => by cases hc)
  refine w_skip ?_
  refine w_block ?_
  refine w_seq ?_
  refine w_seq ?_
  refine wl_start ?_
  refine wl_batchM 0 9 [(vI 4)] [(0, 0), (1, 0), (2, 0), (6, 0), (7, 0), (8, 0), (9, 0), (10, 0), (11, 0), (24, 0), (26, 1)] [(0, [], vP t_r), (1, [], .string ⟨⟨sub s 1 (ln s)⟩⟩), (2, [], vF), (6, [], vN), (7, [], vI 0), (8, [], vF), (9, [], vI 0), (10, [], vP n3_r), (11, [], vI 1), (24, [], vT), (26, [], vF)] [fun wz => V.at1 ⟨n3_r, 1, none⟩ (vI 4) wz] H120 (by decide) (by kernel_rfl) ⟨((hS.tr 0 rfl).b3.at1 rfl), trivial⟩ fun _ wd121 H122 hb => ?_
  clear H120
  replace hS := hS.below hb
  clear hb
  refine m_skipG 26 [27, 0, 1, 2, 6, 7, 8, 9, 10, 11, 24, 26] [(27, [], undef), (0, [], vP t_r), (1, [], .string ⟨⟨sub s 1 (ln s)⟩⟩), (2, [], vF), (6, [], vN), (7, [], vI 0), (8, [], vF), (9, [], vI 0), (10, [], vP n3_r), (11, [], vI 1), (24, [], vT), (26, [], vF)] H122 rfl rfl rfl rfl rfl rfl fun _ H123 => ?_
  clear H122
  refine m_skipG 26 [28, 0, 1, 2, 6, 7, 8, 9, 10, 11, 24, 26, 27] [(28, [], undef), (0, [], vP t_r), (1, [], .string ⟨⟨sub s 1 (ln s)⟩⟩), (2, [], vF), (6, [], vN), (7, [], vI 0), (8, [], vF), (9, [], vI 0), (10, [], vP n3_r), (11, [], vI 1), (24, [], vT), (26, [], vF), (27, [], undef)] H123 rfl rfl rfl rfl rfl rfl fun _ H124 => ?_
  clear H123
  refine m_skipG 26 [29, 0, 1, 2, 6, 7, 8, 9, 10, 11, 24, 26, 27] [(29, [], undef), (0, [], vP t_r), (1, [], .string ⟨⟨sub s 1 (ln s)⟩⟩), (2, [], vF), (6, [], vN), (7, [], vI 0), (8, [], vF), (9, [], vI 0), (10, [], vP n3_r), (11, [], vI 1), (24, [], vT), (26, [], vF), (27, [], undef)] H124 rfl rfl rfl rfl rfl rfl fun _ H125 => ?_
  clear H124
  refine m_skipG 26 [30, 0, 1, 2, 6, 7, 8, 9, 10, 11, 24, 26, 27] [(30, [], undef), (0, [], vP t_r), (1, [], .string ⟨⟨sub s 1 (ln s)⟩⟩), (2, [], vF), (6, [], vN), (7, [], vI 0), (8, [], vF), (9, [], vI 0), (10, [], vP n3_r), (11, [], vI 1), (24, [], vT), (26, [], vF), (27, [], undef)] H125 rfl rfl rfl rfl rfl rfl fun _ H126 => ?_
  clear H125
  refine m_skipG 26 [31, 0, 1, 2, 6, 7, 8, 9, 10, 11, 24, 26] [(31, [], undef), (0, [], vP t_r), (1, [], .string ⟨⟨sub s 1 (ln s)⟩⟩), (2, [], vF), (6, [], vN), (7, [], vI 0), (8, [], vF), (9, [], vI 0), (10, [], vP n3_r), (11, [], vI 1), (24, [], vT), (26, [], vF)] H126 rfl rfl rfl rfl rfl rfl fun _ H127 => ?_
  clear H126
  refine wl_batch 14 17 [] [0, 1, 2, 6, 7, 8, 9, 10, 11, 34] [(0, [], vP t_r), (1, [], .string ⟨⟨sub s 1 (ln s)⟩⟩), (2, [], vF), (6, [], vN), (7, [], vI 0), (8, [], vF), (9, [], vI 0), (10, [], vP n3_r), (11, [], vI 1), (34, [], vT)] [] H127 (by decide) (by kernel_rfl) trivial fun _ wd128 H129 hb => ?_
  clear H127
  replace hS := hS.below hb
  clear hb
  refine wl_end rfl ?_
  refine w_if H129 rfl (fun _ => ?_) (fun hc => by cases hc)
  refine s_reg [(vI 4)] [0, 1, 2, 9, 10, 11] [(0, [], vP t_r), (1, [], .string ⟨⟨sub s 1 (ln s)⟩⟩), (2, [], vF), (9, [], vI 4), (10, [], vP n3_r), (11, [], vI 1)] [fun wz => V.at1 ⟨n3_r, 1, none⟩ (vI 4) wz] H129 (by kernel_rfl) ⟨((hS.tr 0 rfl).b3.at1 rfl), trivial⟩ fun _ wd130 H131 hb => ?_
  clear H129
  replace hS := hS.below hb
  clear hb
  refine s_reg [(vS [10])] [0, 1, 2, 6, 9, 10, 11] [(0, [], vP t_r), (1, [], .string ⟨⟨sub s 1 (ln s)⟩⟩), (2, [], vF), (6, [], vS [10]), (9, [], vI 4), (10, [], vP n3_r), (11, [], vI 1)] [fun wz => V.at1 ⟨n3_r, 0, none⟩ (vS [10]) wz] H131 (by kernel_rfl) ⟨((hS.tr 0 rfl).b3.at1 rfl), trivial⟩ fun _ wd132 H133 hb => ?_
  clear H131
  replace hS := hS.below hb
  clear hb
  refine s_reg [] [0, 1, 2, 6, 7, 9, 10, 11] [(0, [], vP t_r), (1, [], .string ⟨⟨sub s 1 (ln s)⟩⟩), (2, [], vF), (6, [], vS [10]), (7, [], vI 1), (9, [], vI 4), (10, [], vP n3_r), (11, [], vI 1)] [] H133 (by kernel_rfl) trivial fun _ wd134 H135 hb => ?_
  clear H133
  replace hS := hS.below hb
  clear hb
  refine w_reg [] [0, 1, 2, 6, 7, 8, 9, 10, 11] [(0, [], vP t_r), (1, [], .string ⟨⟨sub s 1 (ln s)⟩⟩), (2, [], vF), (6, [], vS [10]), (7, [], vI 1), (8, [], vT), (9, [], vI 4), (10, [], vP n3_r), (11, [], vI 1)] [] H135 (by kernel_rfl) trivial fun _ wd136 H137 hb => ?_
  clear H135
  replace hS := hS.below hb
  clear hb
  refine w_seq ?_
  refine s_reg [] [0, 1, 2, 6, 7, 8, 9, 10, 11, 45] [(0, [], vP t_r), (1, [], .string ⟨⟨sub s 1 (ln s)⟩⟩), (2, [], vF), (6, [], vS [10]), (7, [], vI 1), (8, [], vT), (9, [], vI 4), (10, [], vP n3_r), (11, [], vI 1), (45, [], .bool ((sub s 1 (ln s)) == []))] [] H137 (by kernel_rfl) trivial fun _ wd138 H139 hb => ?_
  clear H137
  replace hS := hS.below hb
  clear hb
  refine w_if H139 rfl (fun hc => ?c152) (fun hc => ?_)
  case c152 =>
   replace hm := bT hc hm
   refine w_exit rfl ?_
   refine w_ret ?_
   obtain rfl := someE hm
   exact retR3 H139 rfl rfl rfl rfl ⟨_, rfl, rfl, (hS.sel [] rfl)⟩
  replace hm := bF hc hm
  refine w_skip ?_
  refine s_reg [(vO)] [0, 1, 2, 6, 7, 8, 9, 10, 11, 50] [(0, [], vP t_r), (1, [], .string ⟨⟨sub s 1 (ln s)⟩⟩), (2, [], vF), (6, [], vS [10]), (7, [], vI 1), (8, [], vT), (9, [], vI 4), (10, [], vP n3_r), (11, [], vI 1), (50, [], vF)] [fun wz => V.at1 ⟨n3_r, 4, none⟩ (vO) wz] H139 (by kernel_rfl) ⟨((hS.tr 0 rfl).b3.at1 rfl), trivial⟩ fun _ wd140 H141 hb => ?_
  clear H139
  replace hS := hS.below hb
  clear hb
  refine w_if H141 rfl (fun hc => by cases hc) (fun _ => ?_)
  refine w_seq ?_
  refine wl_start ?_
  refine wl_batch 0 6 [(vN)] [0, 1, 2, 6, 7, 8, 9, 10, 11, 81] [(0, [], vP t_r), (1, [], .string ⟨⟨sub s 1 (ln s)⟩⟩), (2, [], vF), (6, [], vS [10]), (7, [], vI 1), (8, [], vT), (9, [], vI 4), (10, [], vP n3_r), (11, [], vI 1), (81, [], vF)] [fun wz => V.at1 ⟨n3_r, 2, none⟩ (vN) wz] H141 (by decide) (by kernel_rfl) ⟨((hS.tr 0 rfl).b3.at1 rfl), trivial⟩ fun _ wd142 H143 hb => ?_
  clear H141
  replace hS := hS.below hb
  clear hb
  refine m_skipG 81 [82, 0, 1, 2, 6, 7, 8, 9, 10, 11, 81] [(82, [], undef), (0, [], vP t_r), (1, [], .string ⟨⟨sub s 1 (ln s)⟩⟩), (2, [], vF), (6, [], vS [10]), (7, [], vI 1), (8, [], vT), (9, [], vI 4), (10, [], vP n3_r), (11, [], vI 1), (81, [], vF)] H143 rfl rfl rfl rfl rfl rfl fun _ H144 => ?_
  clear H143
  refine m_skipG 81 [83, 0, 1, 2, 6, 7, 8, 9, 10, 11, 81, 82] [(83, [], undef), (0, [], vP t_r), (1, [], .string ⟨⟨sub s 1 (ln s)⟩⟩), (2, [], vF), (6, [], vS [10]), (7, [], vI 1), (8, [], vT), (9, [], vI 4), (10, [], vP n3_r), (11, [], vI 1), (81, [], vF), (82, [], undef)] H144 rfl rfl rfl rfl rfl rfl fun _ H145 => ?_
  clear H144
  refine m_skipG 81 [84, 0, 1, 2, 6, 7, 8, 9, 10, 11, 81, 82] [(84, [], undef), (0, [], vP t_r), (1, [], .string ⟨⟨sub s 1 (ln s)⟩⟩), (2, [], vF), (6, [], vS [10]), (7, [], vI 1), (8, [], vT), (9, [], vI 4), (10, [], vP n3_r), (11, [], vI 1), (81, [], vF), (82, [], undef)] H145 rfl rfl rfl rfl rfl rfl fun _ H146 => ?_
  clear H145
  refine m_skipG 81 [85, 0, 1, 2, 6, 7, 8, 9, 10, 11, 81, 82] [(85, [], undef), (0, [], vP t_r), (1, [], .string ⟨⟨sub s 1 (ln s)⟩⟩), (2, [], vF), (6, [], vS [10]), (7, [], vI 1), (8, [], vT), (9, [], vI 4), (10, [], vP n3_r), (11, [], vI 1), (81, [], vF), (82, [], undef)] H146 rfl rfl rfl rfl rfl rfl fun _ H147 => ?_
  clear H146
  refine m_skipG 81 [86, 0, 1, 2, 6, 7, 8, 9, 10, 11, 81, 82] [(86, [], undef), (0, [], vP t_r), (1, [], .string ⟨⟨sub s 1 (ln s)⟩⟩), (2, [], vF), (6, [], vS [10]), (7, [], vI 1), (8, [], vT), (9, [], vI 4), (10, [], vP n3_r), (11, [], vI 1), (81, [], vF), (82, [], undef)] H147 rfl rfl rfl rfl rfl rfl fun _ H148 => ?_
  clear H147
  refine m_skipG 81 [87, 0, 1, 2, 6, 7, 8, 9, 10, 11, 81] [(87, [], undef), (0, [], vP t_r), (1, [], .string ⟨⟨sub s 1 (ln s)⟩⟩), (2, [], vF), (6, [], vS [10]), (7, [], vI 1), (8, [], vT), (9, [], vI 4), (10, [], vP n3_r), (11, [], vI 1), (81, [], vF)] H148 rfl rfl rfl rfl rfl rfl fun _ H149 => ?_
  clear H148
  refine wl_batch 12 13 [] [0, 1, 2, 6, 7, 8, 9, 10, 11, 88] [(0, [], vP t_r), (1, [], .string ⟨⟨sub s 1 (ln s)⟩⟩), (2, [], vF), (6, [], vS [10]), (7, [], vI 1), (8, [], vT), (9, [], vI 4), (10, [], vP n3_r), (11, [], vI 1), (88, [], vF)] [] H149 (by decide) (by kernel_rfl) trivial fun _ wd150 H151 hb => ?_
  clear H149
  replace hS := hS.below hb
  clear hb
  refine wl_end rfl ?_
  refine w_if H151 rfl (fun hc => by cases hc) (fun _ => ?_)
  refine w_exit rfl ?_
  refine w_ret ?_
  obtain rfl := someE hm
  exact retR3 H151 rfl rfl rfl rfl ⟨_, rfl, rfl, (hS.sel [] rfl)⟩
 replace hm := bF (decide_eq_false hx12) hm
 by_cases hx10 : (bat s 0) = 10
 ·replace hm := bT (decide_eq_true hx10) hm
  rw [show gi gmap (bat s 0) = 1 from by rw [hx10]; exact gmap10] at H30
  replace H30 := FrG.keep (l' := [(0, [], vP t_r), (1, [], vS s), (2, [], vF), (6, [], vN), (7, [], vI 0), (8, [], vF), (9, [], vI 0), (10, [], vP t_r), (11, [], vI 0), (12, [], vU 1)]) (ks := [0, 1, 2, 6, 7, 8, 9, 10, 11, 12]) H30 (by kernel_rfl)
  refine w_seq ?_
  refine s_reg [(vI 4)] [0, 1, 2, 6, 7, 8, 9, 10, 11, 12, 64] [(0, [], vP t_r), (1, [], vS s), (2, [], vF), (6, [], vN), (7, [], vI 0), (8, [], vF), (9, [], vI 0), (10, [], vP t_r), (11, [], vI 0), (12, [], vU 1), (64, [], vF)] [fun wz => V.at1 ⟨t_r, 5, none⟩ (vI 4) wz] H30 (by kernel_rfl) ⟨((hS.tr 0 rfl).bg.at1 rfl), trivial⟩ fun _ wd153 H154 hb => ?_
  clear H30
  replace hS := hS.below hb
  clear hb
  refine w_if H154 rfl (fun hc => by cases hc) (fun _ => ?_)
  refine w_skip ?_
  refine s_reg [(.slice (some ⟨tb_r, 0, none⟩) 4 4), (vQ)] [0, 1, 2, 6, 7, 8, 9, 10, 11] [(0, [], vP t_r), (1, [], vS s), (2, [], vF), (6, [], vN), (7, [], vI 0), (8, [], vF), (9, [], vI 0), (10, [], vQ), (11, [], vI 0)] [fun wz => V.at1 ⟨t_r, 4, none⟩ (.slice (some ⟨tb_r, 0, none⟩) 4 4) wz, fun _ => oka (some ⟨tb_r, 0, none⟩) ∧ 0 ≤ (1 : Int) ∧ (1 : Int) < 4, fun wz => V.at1 ⟨tb_r, 1, none⟩ (vQ) wz] H154 (by kernel_rfl) ⟨((hS.tr 0 rfl).bg.at1 rfl), (⟨rfl, (show 0 ≤ (1 : Int) ∧ (1 : Int) < 4 from by decide)⟩), ((hS.tr 0 rfl).bt.at1 rfl), trivial⟩ fun _ wd155 H156 hb => ?_
  clear H154
  replace hS := hS.below hb
  clear hb
  obtain ⟨ho157, hm⟩ := chkE hm
  refine s_reg [] [0, 1, 2, 6, 7, 8, 9, 10, 11] [(0, [], vP t_r), (1, [], .string ⟨⟨sub s 1 (ln s)⟩⟩), (2, [], vF), (6, [], vN), (7, [], vI 0), (8, [], vF), (9, [], vI 0), (10, [], vQ), (11, [], vI 0)] [fun _ => 0 ≤ (1 : Int) ∧ (1 : Int) ≤ ln s] H156 (by kernel_rfl) ⟨ho157, trivial⟩ fun _ wd158 H159 hb => ?_
  clear H156
  replace hS := hS.below hb
  clear hb
  refine w_reg [] [0, 1, 2, 6, 7, 8, 9, 10, 11] [(0, [], vP t_r), (1, [], .string ⟨⟨sub s 1 (ln s)⟩⟩), (2, [], vF), (6, [], vN), (7, [], vI 0), (8, [], vF), (9, [], vI 0), (10, [], vQ), (11, [], vI 1)] [] H159 (by kernel_rfl) trivial fun _ wd160 H161 hb => ?_
  clear H159
  replace hS := hS.below hb
  clear hb
  refine lw_round ?_
  refine w_seq ?_
  refine s_reg [] [0, 1, 2, 6, 7, 8, 9, 10, 11, 17] [(0, [], vP t_r), (1, [], .string ⟨⟨sub s 1 (ln s)⟩⟩), (2, [], vF), (6, [], vN), (7, [], vI 0), (8, [], vF), (9, [], vI 0), (10, [], vQ), (11, [], vI 1), (17, [], vF)] [] H161 (by kernel_rfl) trivial fun _ wd162 H163 hb => ?_
  clear H161
  replace hS := hS.below hb
  clear hb
  refine w_if H163 rfl (fun hc => by cases hc) (fun _ => ?_)
  refine w_exit rfl ?_
  refine w_ret ?_
  obtain rfl := someE hm
  exact retR3 H163 rfl rfl rfl rfl ⟨_, rfl, rfl, (hS.sel [] rfl)⟩
 replace hm := bF (decide_eq_false hx10) hm
 by_cases hx0 : (bat s 0) = 0
 ·replace hm := bT (decide_eq_true hx0) hm
  rw [show gi gmap (bat s 0) = 0 from by rw [hx0]; exact gmap0] at H30
  replace H30 := FrG.keep (l' := [(0, [], vP t_r), (1, [], vS s), (2, [], vF), (6, [], vN), (7, [], vI 0), (8, [], vF), (9, [], vI 0), (10, [], vP t_r), (11, [], vI 0), (12, [], vU 0)]) (ks := [0, 1, 2, 6, 7, 8, 9, 10, 11, 12]) H30 (by kernel_rfl)
  refine w_seq ?_
  refine s_reg [(vI 4)] [0, 1, 2, 6, 7, 8, 9, 10, 11, 12, 64] [(0, [], vP t_r), (1, [], vS s), (2, [], vF), (6, [], vN), (7, [], vI 0), (8, [], vF), (9, [], vI 0), (10, [], vP t_r), (11, [], vI 0), (12, [], vU 0), (64, [], vF)] [fun wz => V.at1 ⟨t_r, 5, none⟩ (vI 4) wz] H30 (by kernel_rfl) ⟨((hS.tr 0 rfl).bg.at1 rfl), trivial⟩ fun _ wd164 H165 hb => ?_
  clear H30
  replace hS := hS.below hb
  clear hb
  refine w_if H165 rfl (fun hc => by cases hc) (fun _ => ?_)
  refine w_skip ?_
  refine s_reg [(.slice (some ⟨tb_r, 0, none⟩) 4 4), (vP n4_r)] [0, 1, 2, 6, 7, 8, 9, 10, 11] [(0, [], vP t_r), (1, [], vS s), (2, [], vF), (6, [], vN), (7, [], vI 0), (8, [], vF), (9, [], vI 0), (10, [], vP n4_r), (11, [], vI 0)] [fun wz => V.at1 ⟨t_r, 4, none⟩ (.slice (some ⟨tb_r, 0, none⟩) 4 4) wz, fun _ => oka (some ⟨tb_r, 0, none⟩) ∧ 0 ≤ (0 : Int) ∧ (0 : Int) < 4, fun wz => V.at1 ⟨tb_r, 0, none⟩ (vP n4_r) wz] H165 (by kernel_rfl) ⟨((hS.tr 0 rfl).bg.at1 rfl), (⟨rfl, (show 0 ≤ (0 : Int) ∧ (0 : Int) < 4 from by decide)⟩), ((hS.tr 0 rfl).bt.at1 rfl), trivial⟩ fun _ wd166 H167 hb => ?_
  clear H165
  replace hS := hS.below hb
  clear hb
  obtain ⟨ho168, hm⟩ := chkE hm
  refine s_reg [] [0, 1, 2, 6, 7, 8, 9, 10, 11] [(0, [], vP t_r), (1, [], .string ⟨⟨sub s 1 (ln s)⟩⟩), (2, [], vF), (6, [], vN), (7, [], vI 0), (8, [], vF), (9, [], vI 0), (10, [], vP n4_r), (11, [], vI 0)] [fun _ => 0 ≤ (1 : Int) ∧ (1 : Int) ≤ ln s] H167 (by kernel_rfl) ⟨ho168, trivial⟩ fun _ wd169 H170 hb => ?_
  clear H167
  replace hS := hS.below hb
  clear hb
  refine w_reg [] [0, 1, 2, 6, 7, 8, 9, 10, 11] [(0, [], vP t_r), (1, [], .string ⟨⟨sub s 1 (ln s)⟩⟩), (2, [], vF), (6, [], vN), (7, [], vI 0), (8, [], vF), (9, [], vI 0), (10, [], vP n4_r), (11, [], vI 1)] [] H170 (by kernel_rfl) trivial fun _ wd171 H172 hb => ?_
  clear H170
  replace hS := hS.below hb
  clear hb
  refine lw_round ?_
  refine w_seq ?_
  refine s_reg [] [0, 1, 2, 6, 7, 8, 9, 10, 11, 17] [(0, [], vP t_r), (1, [], .string ⟨⟨sub s 1 (ln s)⟩⟩), (2, [], vF), (6, [], vN), (7, [], vI 0), (8, [], vF), (9, [], vI 0), (10, [], vP n4_r), (11, [], vI 1), (17, [], vT)] [] H172 (by kernel_rfl) trivial fun _ wd173 H174 hb => ?_
  clear H172
  replace hS := hS.below hb
  clear hb
  refine w_if H174 rfl (fun _ => ?_) (fun hc => by cases hc)
  refine w_skip ?_
  refine w_block ?_
  refine w_seq ?_
  refine w_seq ?_
  refine wl_start ?_
  refine wl_batchM 0 9 [(vI 2)] [(0, 0), (1, 0), (2, 0), (6, 0), (7, 0), (8, 0), (9, 0), (10, 0), (11, 0), (24, 0), (26, 1)] [(0, [], vP t_r), (1, [], .string ⟨⟨sub s 1 (ln s)⟩⟩), (2, [], vF), (6, [], vN), (7, [], vI 0), (8, [], vF), (9, [], vI 0), (10, [], vP n4_r), (11, [], vI 1), (24, [], vT), (26, [], vF)] [fun wz => V.at1 ⟨n4_r, 1, none⟩ (vI 2) wz] H174 (by decide) (by kernel_rfl) ⟨((hS.tr 0 rfl).b4.at1 rfl), trivial⟩ fun _ wd175 H176 hb => ?_
  clear H174
  replace hS := hS.below hb
  clear hb
  refine m_skipG 26 [27, 0, 1, 2, 6, 7, 8, 9, 10, 11, 24, 26] [(27, [], undef), (0, [], vP t_r), (1, [], .string ⟨⟨sub s 1 (ln s)⟩⟩), (2, [], vF), (6, [], vN), (7, [], vI 0), (8, [], vF), (9, [], vI 0), (10, [], vP n4_r), (11, [], vI 1), (24, [], vT), (26, [], vF)] H176 rfl rfl rfl rfl rfl rfl fun _ H177 => ?_
  clear H176
  refine m_skipG 26 [28, 0, 1, 2, 6, 7, 8, 9, 10, 11, 24, 26, 27] [(28, [], undef), (0, [], vP t_r), (1, [], .string ⟨⟨sub s 1 (ln s)⟩⟩), (2, [], vF), (6, [], vN), (7, [], vI 0), (8, [], vF), (9, [], vI 0), (10, [], vP n4_r), (11, [], vI 1), (24, [], vT), (26, [], vF), (27, [], undef)] H177 rfl rfl rfl rfl rfl rfl fun _ H178 => ?_
  clear H177
  refine m_skipG 26 [29, 0, 1, 2, 6, 7, 8, 9, 10, 11, 24, 26, 27] [(29, [], undef), (0, [], vP t_r), (1, [], .string ⟨⟨sub s 1 (ln s)⟩⟩), (2, [], vF), (6, [], vN), (7, [], vI 0), (8, [], vF), (9, [], vI 0), (10, [], vP n4_r), (11, [], vI 1), (24, [], vT), (26, [], vF), (27, [], undef)] H178 rfl rfl rfl rfl rfl rfl fun _ H179 => ?_
  clear H178
  refine m_skipG 26 [30, 0, 1, 2, 6, 7, 8, 9, 10, 11, 24, 26, 27] [(30, [], undef), (0, [], vP t_r), (1, [], .string ⟨⟨sub s 1 (ln s)⟩⟩), (2, [], vF), (6, [], vN), (7, [], vI 0), (8, [], vF), (9, [], vI 0), (10, [], vP n4_r), (11, [], vI 1), (24, [], vT), (26, [], vF), (27, [], undef)] H179 rfl rfl rfl rfl rfl rfl fun _ H180 => ?_
  clear H179
  refine m_skipG 26 [31, 0, 1, 2, 6, 7, 8, 9, 10, 11, 24, 26] [(31, [], undef), (0, [], vP t_r), (1, [], .string ⟨⟨sub s 1 (ln s)⟩⟩), (2, [], vF), (6, [], vN), (7, [], vI 0), (8, [], vF), (9, [], vI 0), (10, [], vP n4_r), (11, [], vI 1), (24, [], vT), (26, [], vF)] H180 rfl rfl rfl rfl rfl rfl fun _ H181 => ?_
  clear H180
  refine wl_batch 14 17 [] [0, 1, 2, 6, 7, 8, 9, 10, 11, 34] [(0, [], vP t_r), (1, [], .string ⟨⟨sub s 1 (ln s)⟩⟩), (2, [], vF), (6, [], vN), (7, [], vI 0), (8, [], vF), (9, [], vI 0), (10, [], vP n4_r), (11, [], vI 1), (34, [], vT)] [] H181 (by decide) (by kernel_rfl) trivial fun _ wd182 H183 hb => ?_
  clear H181
  replace hS := hS.below hb
  clear hb
  refine wl_end rfl ?_
  refine w_if H183 rfl (fun _ => ?_) (fun hc => by cases hc)
  refine s_reg [(vI 2)] [0, 1, 2, 9, 10, 11] [(0, [], vP t_r), (1, [], .string ⟨⟨sub s 1 (ln s)⟩⟩), (2, [], vF), (9, [], vI 2), (10, [], vP n4_r), (11, [], vI 1)] [fun wz => V.at1 ⟨n4_r, 1, none⟩ (vI 2) wz] H183 (by kernel_rfl) ⟨((hS.tr 0 rfl).b4.at1 rfl), trivial⟩ fun _ wd184 H185 hb => ?_
  clear H183
  replace hS := hS.below hb
  clear hb
  refine s_reg [(vS [239, 191, 189])] [0, 1, 2, 6, 9, 10, 11] [(0, [], vP t_r), (1, [], .string ⟨⟨sub s 1 (ln s)⟩⟩), (2, [], vF), (6, [], vS [239, 191, 189]), (9, [], vI 2), (10, [], vP n4_r), (11, [], vI 1)] [fun wz => V.at1 ⟨n4_r, 0, none⟩ (vS [239, 191, 189]) wz] H185 (by kernel_rfl) ⟨((hS.tr 0 rfl).b4.at1 rfl), trivial⟩ fun _ wd186 H187 hb => ?_
  clear H185
  replace hS := hS.below hb
  clear hb
  refine s_reg [] [0, 1, 2, 6, 7, 9, 10, 11] [(0, [], vP t_r), (1, [], .string ⟨⟨sub s 1 (ln s)⟩⟩), (2, [], vF), (6, [], vS [239, 191, 189]), (7, [], vI 1), (9, [], vI 2), (10, [], vP n4_r), (11, [], vI 1)] [] H187 (by kernel_rfl) trivial fun _ wd188 H189 hb => ?_
  clear H187
  replace hS := hS.below hb
  clear hb
  refine w_reg [] [0, 1, 2, 6, 7, 8, 9, 10, 11] [(0, [], vP t_r), (1, [], .string ⟨⟨sub s 1 (ln s)⟩⟩), (2, [], vF), (6, [], vS [239, 191, 189]), (7, [], vI 1), (8, [], vT), (9, [], vI 2), (10, [], vP n4_r), (11, [], vI 1)] [] H189 (by kernel_rfl) trivial fun _ wd190 H191 hb => ?_
  clear H189
  replace hS := hS.below hb
  clear hb
  refine w_seq ?_
  refine s_reg [] [0, 1, 2, 6, 7, 8, 9, 10, 11, 45] [(0, [], vP t_r), (1, [], .string ⟨⟨sub s 1 (ln s)⟩⟩), (2, [], vF), (6, [], vS [239, 191, 189]), (7, [], vI 1), (8, [], vT), (9, [], vI 2), (10, [], vP n4_r), (11, [], vI 1), (45, [], .bool ((sub s 1 (ln s)) == []))] [] H191 (by kernel_rfl) trivial fun _ wd192 H193 hb => ?_
  clear H191
  replace hS := hS.below hb
  clear hb
  refine w_if H193 rfl (fun hc => ?c206) (fun hc => ?_)
  case c206 =>
   replace hm := bT hc hm
   refine w_exit rfl ?_
   refine w_ret ?_
   obtain rfl := someE hm
   exact retR3 H193 rfl rfl rfl rfl ⟨_, rfl, rfl, (hS.sel [] rfl)⟩
  replace hm := bF hc hm
  refine w_skip ?_
  refine s_reg [(vO)] [0, 1, 2, 6, 7, 8, 9, 10, 11, 50] [(0, [], vP t_r), (1, [], .string ⟨⟨sub s 1 (ln s)⟩⟩), (2, [], vF), (6, [], vS [239, 191, 189]), (7, [], vI 1), (8, [], vT), (9, [], vI 2), (10, [], vP n4_r), (11, [], vI 1), (50, [], vF)] [fun wz => V.at1 ⟨n4_r, 4, none⟩ (vO) wz] H193 (by kernel_rfl) ⟨((hS.tr 0 rfl).b4.at1 rfl), trivial⟩ fun _ wd194 H195 hb => ?_
  clear H193
  replace hS := hS.below hb
  clear hb
  refine w_if H195 rfl (fun hc => by cases hc) (fun _ => ?_)
  refine w_seq ?_
  refine wl_start ?_
  refine wl_batch 0 6 [(vN)] [0, 1, 2, 6, 7, 8, 9, 10, 11, 81] [(0, [], vP t_r), (1, [], .string ⟨⟨sub s 1 (ln s)⟩⟩), (2, [], vF), (6, [], vS [239, 191, 189]), (7, [], vI 1), (8, [], vT), (9, [], vI 2), (10, [], vP n4_r), (11, [], vI 1), (81, [], vF)] [fun wz => V.at1 ⟨n4_r, 2, none⟩ (vN) wz] H195 (by decide) (by kernel_rfl) ⟨((hS.tr 0 rfl).b4.at1 rfl), trivial⟩ fun _ wd196 H197 hb => ?_
  clear H195
  replace hS := hS.below hb
  clear hb
  refine m_skipG 81 [82, 0, 1, 2, 6, 7, 8, 9, 10, 11, 81] [(82, [], undef), (0, [], vP t_r), (1, [], .string ⟨⟨sub s 1 (ln s)⟩⟩), (2, [], vF), (6, [], vS [239, 191, 189]), (7, [], vI 1), (8, [], vT), (9, [], vI 2), (10, [], vP n4_r), (11, [], vI 1), (81, [], vF)] H197 rfl rfl rfl rfl rfl rfl fun _ H198 => ?_
  clear H197
  refine m_skipG 81 [83, 0, 1, 2, 6, 7, 8, 9, 10, 11, 81, 82] [(83, [], undef), (0, [], vP t_r), (1, [], .string ⟨⟨sub s 1 (ln s)⟩⟩), (2, [], vF), (6, [], vS [239, 191, 189]), (7, [], vI 1), (8, [], vT), (9, [], vI 2), (10, [], vP n4_r), (11, [], vI 1), (81, [], vF), (82, [], undef)] H198 rfl rfl rfl rfl rfl rfl fun _ H199 => ?_
  clear H198
  refine m_skipG 81 [84, 0, 1, 2, 6, 7, 8, 9, 10, 11, 81, 82] [(84, [], undef), (0, [], vP t_r), (1, [], .string ⟨⟨sub s 1 (ln s)⟩⟩), (2, [], vF), (6, [], vS [239, 191, 189]), (7, [], vI 1), (8, [], vT), (9, [], vI 2), (10, [], vP n4_r), (11, [], vI 1), (81, [], vF), (82, [], undef)] H199 rfl rfl rfl rfl rfl rfl fun _ H200 => ?_
  clear H199
  refine m_skipG 81 [85, 0, 1, 2, 6, 7, 8, 9, 10, 11, 81, 82] [(85, [], undef), (0, [], vP t_r), (1, [], .string ⟨⟨sub s 1 (ln s)⟩⟩), (2, [], vF), (6, [], vS [239, 191, 189]), (7, [], vI 1), (8, [], vT), (9, [], vI 2), (10, [], vP n4_r), (11, [], vI 1), (81, [], vF), (82, [], undef)] H200 rfl rfl rfl rfl rfl rfl fun _ H201 => ?_
  clear H200
  refine m_skipG 81 [86, 0, 1, 2, 6, 7, 8, 9, 10, 11, 81, 82] [(86, [], undef), (0, [], vP t_r), (1, [], .string ⟨⟨sub s 1 (ln s)⟩⟩), (2, [], vF), (6, [], vS [239, 191, 189]), (7, [], vI 1), (8, [], vT), (9, [], vI 2), (10, [], vP n4_r), (11, [], vI 1), (81, [], vF), (82, [], undef)] H201 rfl rfl rfl rfl rfl rfl fun _ H202 => ?_
  clear H201
  refine m_skipG 81 [87, 0, 1, 2, 6, 7, 8, 9, 10, 11, 81] [(87, [], undef), (0, [], vP t_r), (1, [], .string ⟨⟨sub s 1 (ln s)⟩⟩), (2, [], vF), (6, [], vS [239, 191, 189]), (7, [], vI 1), (8, [], vT), (9, [], vI 2), (10, [], vP n4_r), (11, [], vI 1), (81, [], vF)] H202 rfl rfl rfl rfl rfl rfl fun _ H203 => ?_
  clear H202
  refine wl_batch 12 13 [] [0, 1, 2, 6, 7, 8, 9, 10, 11, 88] [(0, [], vP t_r), (1, [], .string ⟨⟨sub s 1 (ln s)⟩⟩), (2, [], vF), (6, [], vS [239, 191, 189]), (7, [], vI 1), (8, [], vT), (9, [], vI 2), (10, [], vP n4_r), (11, [], vI 1), (88, [], vF)] [] H203 (by decide) (by kernel_rfl) trivial fun _ wd204 H205 hb => ?_
  clear H203
  replace hS := hS.below hb
  clear hb
  refine wl_end rfl ?_
  refine w_if H205 rfl (fun hc => by cases hc) (fun _ => ?_)
  refine w_exit rfl ?_
  refine w_ret ?_
  obtain rfl := someE hm
  exact retR3 H205 rfl rfl rfl rfl ⟨_, rfl, rfl, (hS.sel [] rfl)⟩
 replace hm := bF (decide_eq_false hx0) hm
 rw [show gi gmap (bat s 0) = 4 from gmap_el (bat_byte _ _).1 (bat_byte _ _).2 hx13 hx12 hx10 hx0] at H30
 replace H30 := FrG.keep (l' := [(0, [], vP t_r), (1, [], vS s), (2, [], vF), (6, [], vN), (7, [], vI 0), (8, [], vF), (9, [], vI 0), (10, [], vP t_r), (11, [], vI 0), (12, [], vU 4)]) (ks := [0, 1, 2, 6, 7, 8, 9, 10, 11, 12]) H30 (by kernel_rfl)
 refine w_seq ?_
 refine s_reg [(vI 4)] [0, 1, 2, 6, 7, 8, 9, 10, 11, 12, 64] [(0, [], vP t_r), (1, [], vS s), (2, [], vF), (6, [], vN), (7, [], vI 0), (8, [], vF), (9, [], vI 0), (10, [], vP t_r), (11, [], vI 0), (12, [], vU 4), (64, [], vT)] [fun wz => V.at1 ⟨t_r, 5, none⟩ (vI 4) wz] H30 (by kernel_rfl) ⟨((hS.tr 0 rfl).bg.at1 rfl), trivial⟩ fun _ wd207 H208 hb => ?_
 clear H30
 replace hS := hS.below hb
 clear hb
 refine w_if H208 rfl (fun _ => ?_) (fun hc => by cases hc)
 refine w_exit rfl ?_
 refine w_ret ?_
 obtain rfl := someE hm
 exact retR3 H208 rfl rfl rfl rfl ⟨_, rfl, rfl, (hS.sel [] rfl)⟩
theorem strings_genericReplacer_lookup_ok {t_r : Nat} {tb_r : Nat} {n1_r : Nat} {n2_r : Nat} {n3_r : Nat} {n4_r : Nat} (s : Str) (r : Str × Int × Bool) (hm : strings_genericReplacer_lookup s = some r) (w : World) (hL : S0 F0 [Ent.trie t_r tb_r n1_r n2_r n3_r n4_r] w ∧ fpl [Ent.trie t_r tb_r n1_r n2_r n3_r n4_r] = []) : RetB Tryz.prog 178 ⟨[vP t_r, vS s, vF]⟩ (.tuple ⟨[.string ⟨⟨r.1⟩⟩, vI r.2.1, .bool r.2.2]⟩) w := retB_of hL (Tryz.call178 _) (fun w' h => strings_genericReplacer_lookup_w F0   s r hm w' h)

def strings_appendSliceWriter_WriteString (w_ : List Int) (s : Str) : Option (Int × (List Int)) :=
  chk (ln w_ + ln s ≤ 1099511627776) <|
  lt (w_ ++ ofB s) fun q6 =>
  some (ln s, q6)
theorem strings_appendSliceWriter_WriteString_w {b_w : Nat} {g_w_ : Gh} (M : Av) (w_ : List Int) (s : Str) (r : Int × (List Int)) (hm : strings_appendSliceWriter_WriteString w_ s = some r) (w : World) (hS : S0 M [eB b_w [vL g_w_ w_], eO 5 (tI .u8) w_ g_w_] w) : Calls Tryz.prog 190 ⟨[vP b_w, vS s]⟩ w (fun e w' => ∃ v, e = .returned v ∧ ∃ (g901 : Gh), v = .tuple ⟨[vI r.1, .nilIface]⟩ ∧ SH M (fpl [eB b_w [vL g_w_ w_], eO 5 (tI .u8) w_ g_w_]) w [eB b_w [.slice g901.a r.2.length g901.c], eO 5 (tI .u8) r.2 g901] w') := by
 rw [strings_appendSliceWriter_WriteString] at hm
 have hS0 : SH M (fpl [eB b_w [vL g_w_ w_], eO 5 (tI .u8) w_ g_w_]) w [eB b_w [vL g_w_ w_], eO 5 (tI .u8) w_ g_w_] w := hS
 generalize hX : fpl [eB b_w [vL g_w_ w_], eO 5 (tI .u8) w_ g_w_] = X at hS0 ⊢
 clear hS hX
 have hS := hS0
 clear hS0
 refine calls_entryP Tryz.func190 rfl Tryz.ntmps190 rfl fun _ H => ?_
 refine s_reg [] [0, 1] [(0, [], vP b_w), (1, [], vS s)] [] H (by kernel_rfl) trivial fun _ wd1 H2 hb => ?_
 clear H
 replace hS := hS.below hb
 clear hb
 refine w_seq ?_
 refine wl_start ?_
 refine wl_batch 0 5 [(vL g_w_ w_)] [1, 6, 9, 10] [(1, [], vS s), (6, [], vP b_w), (9, [], vL g_w_ w_), (10, [], vS s)] [fun wz => V.at1 ⟨b_w, 0, none⟩ (vL g_w_ w_) wz] H2 (by decide) (by kernel_rfl) ⟨((hS.bk 0 rfl).at1 rfl), trivial⟩ fun _ wd3 H4 hb => ?_
 clear H2
 replace hS := hS.below hb
 clear hb
 obtain ⟨ho5, hm⟩ := chkE hm
 obtain ⟨q6, hq6, hm⟩ := letE hm
 have hd := hS.hand [1] [0] rfl rfl
 refine m_stp [11, 1, 6] [(1, [], vS s), (6, [], vP b_w)] H4 rfl rfl rfl rfl (o_appS (g1 := g_w_) (l1 := w_) q6 hq6.symm H4 hd rfl rfl rfl rfl rfl (by kernel_rfl) (by kernel_rfl) (by kernel_rfl) ho5) (fun _ => rfl) fun _ wd7 v H8 hq => ?_
 clear H4 hd
 obtain ⟨g9, rfl, hq⟩ := hq
 replace hS : SH M X w [eO 5 (tI .u8) q6 g9, eB b_w [vL g_w_ w_]] _ := hS.join [1] [0] rfl rfl hq
 clear hq
 refine wl_batch 6 7 [] [1, 11, 12] [(1, [], vS s), (11, [], vL g9 q6), (12, [], vP b_w)] [] H8 (by decide) (by kernel_rfl) trivial fun _ wd10 H11 hb => ?_
 clear H8
 replace hS := hS.below hb
 clear hb
 have hd := hS.hand [1] [0] rfl rfl
 refine m_stp0 [1] [(1, [], vS s)] H11 rfl rfl rfl (o_store [vL g9 q6] H11 hd rfl rfl (by kernel_rfl) rfl rfl rfl) rfl fun _ wd12 H13 hq => ?_
 clear H11 hd
 obtain ⟨_, hq⟩ := hq
 replace hS : SH M X w [eB b_w [vL g9 q6], eO 5 (tI .u8) q6 g9] _ := hS.join [1] [0] rfl rfl hq
 clear hq
 refine wl_end rfl ?_
 refine s_reg [] [4, 5] [(4, [], vI (ln s)), (5, [], .nilIface)] [] H13 (by kernel_rfl) trivial fun _ wd14 H15 hb => ?_
 clear H13
 replace hS := hS.below hb
 clear hb
 refine w_ret ?_
 obtain rfl := someE hm
 exact retR2 H15 rfl rfl rfl ⟨_, rfl, g9, rfl, (hS.sel [0, 1] rfl)⟩
theorem strings_appendSliceWriter_WriteString_ok {b_w : Nat} {g_w_ : Gh} (w_ : List Int) (s : Str) (r : Int × (List Int)) (hm : strings_appendSliceWriter_WriteString w_ s = some r) (M : Av) (w : World) (hS : S0 M [eB b_w [vL g_w_ w_], eO 5 (tI .u8) w_ g_w_] w) : DoesX Tryz.prog 190 ⟨[vP b_w, vS s]⟩ w (fun v w' => ∃ (g901 : Gh), v = .tuple ⟨[vI r.1, .nilIface]⟩ ∧ SH M (fpl [eB b_w [vL g_w_ w_], eO 5 (tI .u8) w_ g_w_]) w [eB b_w [.slice g901.a r.2.length g901.c], eO 5 (tI .u8) r.2 g901] w') := ⟨Tryz.call190 _, strings_appendSliceWriter_WriteString_w M   w_ s r hm w hS⟩

def strings_genericReplacer_WriteString_L1 (m : Nat) (s : Str) : Nat → Int → Int → Bool → Int → (List Int) → Option (Sum (Int × (List Int)) (Int × Int × (List Int)))
  | 0, _, _, _, _, _ => none
  | kk + 1, v12, v13, v14, v15, v16 =>
    chk (v14 = false) <|
    cond (decide (v15 ≤ (ln s))) (
    Option.bind (
    cond (cond (v15 != (ln s)) true false) (
    chk (0 ≤ v15 ∧ v15 < ln s) <|
    cond (decide ((bat s v15) = 13)) (
    some (.inr v15)) (
    cond (decide ((bat s v15) = 12)) (
    some (.inr v15)) (
    cond (decide ((bat s v15) = 10)) (
    Option.bind (
    strings_genericReplacer_WriteString_L1 m s kk v12 v13 false (w64 (v15 + 1)) v16) fun r35 => some (.inl r35)) (
    cond (decide ((bat s v15) = 0)) (
    some (.inr v15)) (
    Option.bind (
    strings_genericReplacer_WriteString_L1 m s kk v12 v13 false (w64 (v15 + 1)) v16) fun r53 => some (.inl r53)))))) (
    some (.inr v15))) fun (z21 : Sum (Sum (Int × (List Int)) (Int × Int × (List Int))) (Int)) => sumK z21 fun s_z21 =>
    chk (0 ≤ s_z21 ∧ s_z21 ≤ ln s) <|
    Option.bind (strings_genericReplacer_lookup (sub s s_z21 (ln s))) fun y56 =>
    chk ((cond y56.2.2 (y56.2.1 == 0) false) = false) <|
    cond y56.2.2 (
    chk (0 ≤ v13 ∧ v13 ≤ s_z21 ∧ s_z21 ≤ ln s) <|
    Option.bind (strings_appendSliceWriter_WriteString v16 (sub s v13 s_z21)) fun y66 =>
    Option.bind (strings_appendSliceWriter_WriteString y66.2 y56.1) fun y79 =>
    strings_genericReplacer_WriteString_L1 m s kk (w64 ((w64 (v12 + y66.1)) + y79.1)) (w64 (s_z21 + y56.2.1)) false (w64 (s_z21 + y56.2.1)) y79.2) (
    strings_genericReplacer_WriteString_L1 m s kk v12 v13 false (w64 (s_z21 + 1)) v16)) (
    some (.inr (v12, v13, v16)))
def strings_genericReplacer_WriteString (m : Nat) (w_ : List Int) (s : Str) : Option (Int × (List Int)) :=
  Option.bind (
  strings_genericReplacer_WriteString_L1 m s m 0 0 false 0 w_) fun (z9 : Sum (Int × (List Int)) (Int × Int × (List Int))) => sumK z9 fun s_z9 =>
  Option.bind (
  cond (s_z9.2.1 != (ln s)) (
  chk (0 ≤ s_z9.2.1 ∧ s_z9.2.1 ≤ ln s) <|
  Option.bind (strings_appendSliceWriter_WriteString s_z9.2.2 (sub s s_z9.2.1 (ln s))) fun y106 =>
  some (w64 (s_z9.1 + y106.1), y106.2)) (
  some (s_z9.1, s_z9.2.2))) fun (z101 : Int × (List Int)) =>
  some (z101.1, z101.2)
end Go.Proofs.YtfancfogkhclfaaGreatDoor
