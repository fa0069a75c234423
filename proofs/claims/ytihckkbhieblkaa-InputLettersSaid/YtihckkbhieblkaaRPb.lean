/-
  The walks of a strings.Replacer that cleans texts: what it builds, what it finds, what it writes. Printed by a program.
-/
import Derived.Test.YtihckkbhieblkaaRows
import Derived.Test.YtihckkbhieblkaaK
import Derived.Test.YtihckkbhieblkaaRPa
set_option linter.unusedVariables false
set_option maxRecDepth 20000
set_option maxHeartbeats 4000000
namespace Go.Proofs.Ytihckkbhieblkaa
open Go.V Go.RowKit

theorem strings_makeGenericReplacer_cs {gl : Gh} (M : Av) (w : World) (hS : S0 M [Ent.own 9 tS lit8 gl] w) : DoesX Try.prog 55 ⟨[.slice gl.a 8 gl.c]⟩ w (fun v w' => ∃ (b3m : Nat) (b146m : Nat) (b163m : Nat) (b164m : Nat) (b182m : Nat) (b192m : Nat), v = .pointer (some ⟨b3m, 0, none⟩) ∧ SH M (fpl [Ent.own 9 tS lit8 gl]) w [Ent.blk b192m [.string ⟨⟨[239, 191, 189]⟩⟩, .int .i64 2, .string ⟨⟨[]⟩⟩, .pointer none, .slice none 0 0], Ent.blk b146m [.pointer (some ⟨b192m, 0, none⟩), .pointer none, .pointer (some ⟨b182m, 0, none⟩), .pointer (some ⟨b164m, 0, none⟩)], Ent.blk b182m [.string ⟨⟨[10]⟩⟩, .int .i64 4, .string ⟨⟨[]⟩⟩, .pointer none, .slice none 0 0], Ent.blk b164m [.string ⟨⟨[10]⟩⟩, .int .i64 6, .string ⟨⟨[10]⟩⟩, .pointer (some ⟨b163m, 0, none⟩), .slice none 0 0], Ent.blk b163m [.string ⟨⟨[10]⟩⟩, .int .i64 8, .string ⟨⟨[]⟩⟩, .pointer none, .slice none 0 0], Ent.mix .u8 b3m [.string ⟨⟨[]⟩⟩, .int .i64 0, .string ⟨⟨[]⟩⟩, .pointer none, .slice (some ⟨b146m, 0, none⟩) 4 4, .int .i64 4] gmap (256 : Int), Ent.own 9 tS lit8 gl] w') := by
 refine ⟨Try.call55 _, ?_⟩
 have hS0 : SH M (fpl [Ent.own 9 tS lit8 gl]) w [Ent.own 9 tS lit8 gl] w := hS
 generalize hX : fpl [Ent.own 9 tS lit8 gl] = X at hS0 ⊢
 clear hS hX
 have hS := hS0
 clear hS0
 refine calls_entryP Try.func55 rfl Try.ntmps55 rfl fun _ H => ?_
 refine s_reg [] [0] [(0, [], .slice gl.a 8 gl.c)] [] H (by kernel_rfl) trivial fun _ wd1m H2m hb => ?_
 clear H
 replace hS := hS.below hb
 clear hb
 refine w_seq ?_
 refine wl_start ?_
 have hd := hS.hand [] [0] rfl rfl
 refine m_stp [13, 0] [(0, [], .slice gl.a 8 gl.c)] H2m rfl rfl rfl rfl (o_allocM (z := .agg ⟨[.string ⟨⟨[]⟩⟩, .int .i64 0, .string ⟨⟨[]⟩⟩, .pointer none, .slice none 0 0, .int .i64 0] ++ (List.replicate 256 (0 : Int)).map (Value.int .u8)⟩) .u8 [.string ⟨⟨[]⟩⟩, .int .i64 0, .string ⟨⟨[]⟩⟩, .pointer none, .slice none 0 0, .int .i64 0] (List.replicate 256 (0 : Int)) (256 : Int) hd (by kernel_rfl) rfl (by kernel_rfl)) (fun _ => rfl) fun _ wd4m v H5m hq => ?_
 clear H2m hd
 obtain ⟨b3m, rfl, hq⟩ := hq
 replace hS : SH M X w [Ent.mix .u8 b3m [.string ⟨⟨[]⟩⟩, .int .i64 0, .string ⟨⟨[]⟩⟩, .pointer none, .slice none 0 0, .int .i64 0] (List.replicate 256 (0 : Int)) (256 : Int), Ent.own 9 tS lit8 gl] _ := hS.join [] [0] rfl rfl hq
 clear hq
 refine wl_batch 1 2 [] [0, 3] [(0, [], .slice gl.a 8 gl.c), (3, [], .pointer (some ⟨b3m, 0, none⟩))] [] H5m (by decide) (by kernel_rfl) trivial fun _ wd6m H7m hb => ?_
 clear H5m
 replace hS := hS.below hb
 clear hb
 refine wl_end rfl ?_
 refine w_seq ?_
 refine s_reg [] [0, 3, 4] [(0, [], .slice gl.a 8 gl.c), (3, [], .pointer (some ⟨b3m, 0, none⟩)), (4, [], .int .i64 0)] [] H7m (by kernel_rfl) trivial fun _ wd8m H9m hb => ?_
 clear H7m
 replace hS := hS.below hb
 clear hb
 refine w_block ?_
 refine w_loopU ?_
 refine lw_round ?_
 refine w_seq ?_
 refine s_reg [] [0, 3, 4, 17] [(0, [], .slice gl.a 8 gl.c), (3, [], .pointer (some ⟨b3m, 0, none⟩)), (4, [], .int .i64 0), (17, [], .bool true)] [] H9m (by kernel_rfl) trivial fun _ wd10m H11m hb => ?_
 clear H9m
 replace hS := hS.below hb
 clear hb
 refine w_if H11m rfl (fun _ => ?_) (fun hc => by cases hc)
 refine w_skip ?_
 refine w_seq ?_
 refine w_block ?_
 refine s_reg [(.string ⟨⟨[13, 10]⟩⟩)] [0, 3, 4, 5] [(0, [], .slice gl.a 8 gl.c), (3, [], .pointer (some ⟨b3m, 0, none⟩)), (4, [], .int .i64 0), (5, [], .string ⟨⟨[13, 10]⟩⟩)] [fun _ => oka gl.a ∧ 0 ≤ (0 : Int) ∧ (0 : Int) < ln lit8, fun wz => V.at1 ⟨ab gl.a, ao gl.a + ((0 : Int)).toNat * 1, none⟩ (.string ⟨⟨[13, 10]⟩⟩) wz] H11m (by kernel_rfl) ⟨((hS.osl 1 rfl).oki (show 0 ≤ (0 : Int) ∧ (0 : Int) < ln lit8 from by decide)), ((hS.osl 1 rfl).at1 (show 0 ≤ (0 : Int) ∧ (0 : Int) < ln lit8 from by decide) 0 rfl), trivial⟩ fun _ wd12m H13m hb => ?_
 clear H11m
 replace hS := hS.below hb
 clear hb
 refine s_reg [] [0, 3, 4, 5, 6] [(0, [], .slice gl.a 8 gl.c), (3, [], .pointer (some ⟨b3m, 0, none⟩)), (4, [], .int .i64 0), (5, [], .string ⟨⟨[13, 10]⟩⟩), (6, [], .int .i64 0)] [] H13m (by kernel_rfl) trivial fun _ wd14m H15m hb => ?_
 clear H13m
 replace hS := hS.below hb
 clear hb
 refine w_block ?_
 refine w_loopU ?_
 refine lw_round ?_
 refine w_seq ?_
 refine s_reg [] [0, 3, 4, 5, 6, 27] [(0, [], .slice gl.a 8 gl.c), (3, [], .pointer (some ⟨b3m, 0, none⟩)), (4, [], .int .i64 0), (5, [], .string ⟨⟨[13, 10]⟩⟩), (6, [], .int .i64 0), (27, [], .bool true)] [] H15m (by kernel_rfl) trivial fun _ wd16m H17m hb => ?_
 clear H15m
 replace hS := hS.below hb
 clear hb
 refine w_if H17m rfl (fun _ => ?_) (fun hc => by cases hc)
 refine w_skip ?_
 refine w_seq ?_
 refine w_block ?_
 refine w_drawS (base := [(0, [], .slice gl.a 8 gl.c), (3, [], .pointer (some ⟨b3m, 0, none⟩)), (4, [], .int .i64 0), (5, [], .string ⟨⟨[13, 10]⟩⟩), (6, [], .int .i64 0)]) (L := [Ent.mix .u8 b3m [.string ⟨⟨[]⟩⟩, .int .i64 0, .string ⟨⟨[]⟩⟩, .pointer none, .slice none 0 0, .int .i64 0] (List.replicate 256 (0 : Int)) (256 : Int), Ent.own 9 tS lit8 gl]) 8 2 (fun yg18m => [.pointer (some ⟨b3m, 0, none⟩), .string ⟨⟨[13, 10]⟩⟩, .int .i64 0, .int .u8 13, .pointer (some ⟨b3m, 0, none⟩), .pointer (some ⟨b3m, 6, none⟩), .pointer (some ⟨b3m, 6 + ((13 : Int)).toNat * 1, none⟩), undef]) (fun yg18m => [[], [], [], [], [], [], [], [Ent.mix .u8 b3m [.string ⟨⟨[]⟩⟩, .int .i64 0, .string ⟨⟨[]⟩⟩, .pointer none, .slice none 0 0, .int .i64 0] (seti (List.replicate 256 (0 : Int)) (13 : Int) 1) (256 : Int)]]) [[8], [], [], [], [8], [8], [8], [8]] [[], [], [], [], [], [], [], [8]] [[0], [1], [2], [1, 2, 3], [0, 4], [0, 4, 5], [0, 1, 2, 3, 4, 5, 6], [0, 1, 2, 3, 4, 5, 6, 7]] [] (FrG.keep (ks := [0, 3, 4, 5, 6]) H17m (by kernel_rfl)) (fun _ _ h => by cases h) (by kernel_rfl) hS (by kernel_rfl) rfl rfl (by kernel_rfl) (by kernel_rfl) (by kernel_rfl) (gd_none (by kernel_rfl) _ _) ?hloc_yg18m ?hstep_yg18m fun _ wd19m yg18m H20m hv hS => ?hK_yg18m
 case hloc_yg18m => exact ⟨(fun _ _ _ _ => ⟨rfl, rfl⟩), (fun _ _ _ _ => ⟨rfl, rfl⟩), (fun _ _ _ _ => ⟨rfl, rfl⟩), (fun _ _ _ _ => ⟨rfl, rfl⟩), (fun _ _ _ _ => ⟨rfl, rfl⟩), (fun _ _ _ _ => ⟨rfl, rfl⟩), (fun _ _ _ _ => ⟨rfl, rfl⟩), (fun _ _ _ _ => ⟨rfl, rfl⟩), trivial⟩
 case hstep_yg18m =>
  refine ⟨?_, ?_, ?_, ?_, ?_, ?_, ?_, ?_, trivial⟩
  ·intro o ho a w yg18m M Hb hv hO hS0
   obtain rfl := Option.some.inj ho
   have H : Fr 117 ([] ++ [(0, [], .slice gl.a 8 gl.c), (3, [], .pointer (some ⟨b3m, 0, none⟩)), (4, [], .int .i64 0), (5, [], .string ⟨⟨[13, 10]⟩⟩), (6, [], .int .i64 0)]) _ := Hb
   obtain ⟨X, hX⟩ : ∃ X, X = fpl [Ent.mix .u8 b3m [.string ⟨⟨[]⟩⟩, .int .i64 0, .string ⟨⟨[]⟩⟩, .pointer none, .slice none 0 0, .int .i64 0] (List.replicate 256 (0 : Int)) (256 : Int)] := ⟨_, rfl⟩
   have hS : SH M X w [Ent.mix .u8 b3m [.string ⟨⟨[]⟩⟩, .int .i64 0, .string ⟨⟨[]⟩⟩, .pointer none, .slice none 0 0, .int .i64 0] (List.replicate 256 (0 : Int)) (256 : Int)] w := by rw [hX]; exact hS0
   refine Stp.mono (o_evs [] (.pointer (some ⟨b3m, 0, none⟩)) none [] H rfl (by kernel_rfl) (fun q e => by cases e)) ?_
   rintro v w2 ⟨rfl, hq⟩
   replace hS : SH M X w [Ent.mix .u8 b3m [.string ⟨⟨[]⟩⟩, .int .i64 0, .string ⟨⟨[]⟩⟩, .pointer none, .slice none 0 0, .int .i64 0] (List.replicate 256 (0 : Int)) (256 : Int)] _ := hS.below hq.below
   rw [hX] at hS
   exact ⟨gL [], fun _ _ => rfl, hS.sel [0] rfl⟩
  ·intro o ho a w yg18m M Hb hv hO hS0
   obtain rfl := Option.some.inj ho
   have H : Fr 117 ([] ++ [(0, [], .slice gl.a 8 gl.c), (3, [], .pointer (some ⟨b3m, 0, none⟩)), (4, [], .int .i64 0), (5, [], .string ⟨⟨[13, 10]⟩⟩), (6, [], .int .i64 0)]) _ := Hb
   obtain ⟨X, hX⟩ : ∃ X, X = fpl [] := ⟨_, rfl⟩
   have hS : SH M X w [] w := by rw [hX]; exact hS0
   refine Stp.mono (o_evs [] (.string ⟨⟨[13, 10]⟩⟩) none [] H rfl (by kernel_rfl) (fun q e => by cases e)) ?_
   rintro v w2 ⟨rfl, hq⟩
   replace hS : SH M X w [] _ := hS.below hq.below
   rw [hX] at hS
   exact ⟨gL [], fun _ _ => rfl, hS.sel [] rfl⟩
  ·intro o ho a w yg18m M Hb hv hO hS0
   obtain rfl := Option.some.inj ho
   have H : Fr 117 ([] ++ [(0, [], .slice gl.a 8 gl.c), (3, [], .pointer (some ⟨b3m, 0, none⟩)), (4, [], .int .i64 0), (5, [], .string ⟨⟨[13, 10]⟩⟩), (6, [], .int .i64 0)]) _ := Hb
   obtain ⟨X, hX⟩ : ∃ X, X = fpl [] := ⟨_, rfl⟩
   have hS : SH M X w [] w := by rw [hX]; exact hS0
   refine Stp.mono (o_evs [] (.int .i64 0) none [] H rfl (by kernel_rfl) (fun q e => by cases e)) ?_
   rintro v w2 ⟨rfl, hq⟩
   replace hS : SH M X w [] _ := hS.below hq.below
   rw [hX] at hS
   exact ⟨gL [], fun _ _ => rfl, hS.sel [] rfl⟩
  ·intro o ho a w yg18m M Hb hv hO hS0
   obtain rfl := Option.some.inj ho
   have H : Fr 117 ([(32, [], .int .i64 0), (31, [], .string ⟨⟨[13, 10]⟩⟩)] ++ [(0, [], .slice gl.a 8 gl.c), (3, [], .pointer (some ⟨b3m, 0, none⟩)), (4, [], .int .i64 0), (5, [], .string ⟨⟨[13, 10]⟩⟩), (6, [], .int .i64 0)]) _ := ((Hb).add (hv 1 (by decide) (by decide) 31 rfl)).add (hv 2 (by decide) (by decide) 32 rfl)
   obtain ⟨X, hX⟩ : ∃ X, X = fpl [] := ⟨_, rfl⟩
   have hS : SH M X w [] w := by rw [hX]; exact hS0
   refine Stp.mono (o_evs [] (.int .u8 13) (some (fun _ => 0 ≤ (0 : Int) ∧ (0 : Int) < ln ([13, 10] : Str))) [] H rfl (by kernel_rfl) (fun q e => by cases e; exact (show 0 ≤ (0 : Int) ∧ (0 : Int) < ln ([13, 10] : Str) from by decide))) ?_
   rintro v w2 ⟨rfl, hq⟩
   replace hS : SH M X w [] _ := hS.below hq.below
   rw [hX] at hS
   exact ⟨gL [], fun _ _ => rfl, hS.sel [] rfl⟩
  ·intro o ho a w yg18m M Hb hv hO hS0
   obtain rfl := Option.some.inj ho
   have H : Fr 117 ([(30, [], .pointer (some ⟨b3m, 0, none⟩))] ++ [(0, [], .slice gl.a 8 gl.c), (3, [], .pointer (some ⟨b3m, 0, none⟩)), (4, [], .int .i64 0), (5, [], .string ⟨⟨[13, 10]⟩⟩), (6, [], .int .i64 0)]) _ := (Hb).add (hv 0 (by decide) (by decide) 30 rfl)
   obtain ⟨X, hX⟩ : ∃ X, X = fpl [Ent.mix .u8 b3m [.string ⟨⟨[]⟩⟩, .int .i64 0, .string ⟨⟨[]⟩⟩, .pointer none, .slice none 0 0, .int .i64 0] (List.replicate 256 (0 : Int)) (256 : Int)] := ⟨_, rfl⟩
   have hS : SH M X w [Ent.mix .u8 b3m [.string ⟨⟨[]⟩⟩, .int .i64 0, .string ⟨⟨[]⟩⟩, .pointer none, .slice none 0 0, .int .i64 0] (List.replicate 256 (0 : Int)) (256 : Int)] w := by rw [hX]; exact hS0
   refine Stp.mono (o_evs [] (.pointer (some ⟨b3m, 0, none⟩)) none [] H rfl (by kernel_rfl) (fun q e => by cases e)) ?_
   rintro v w2 ⟨rfl, hq⟩
   replace hS : SH M X w [Ent.mix .u8 b3m [.string ⟨⟨[]⟩⟩, .int .i64 0, .string ⟨⟨[]⟩⟩, .pointer none, .slice none 0 0, .int .i64 0] (List.replicate 256 (0 : Int)) (256 : Int)] _ := hS.below hq.below
   rw [hX] at hS
   exact ⟨gL [], fun _ _ => rfl, hS.sel [0] rfl⟩
  ·intro o ho a w yg18m M Hb hv hO hS0
   obtain rfl := Option.some.inj ho
   have H : Fr 117 ([(34, [], .pointer (some ⟨b3m, 0, none⟩))] ++ [(0, [], .slice gl.a 8 gl.c), (3, [], .pointer (some ⟨b3m, 0, none⟩)), (4, [], .int .i64 0), (5, [], .string ⟨⟨[13, 10]⟩⟩), (6, [], .int .i64 0)]) _ := (Hb).add (hv 4 (by decide) (by decide) 34 rfl)
   obtain ⟨X, hX⟩ : ∃ X, X = fpl [Ent.mix .u8 b3m [.string ⟨⟨[]⟩⟩, .int .i64 0, .string ⟨⟨[]⟩⟩, .pointer none, .slice none 0 0, .int .i64 0] (List.replicate 256 (0 : Int)) (256 : Int)] := ⟨_, rfl⟩
   have hS : SH M X w [Ent.mix .u8 b3m [.string ⟨⟨[]⟩⟩, .int .i64 0, .string ⟨⟨[]⟩⟩, .pointer none, .slice none 0 0, .int .i64 0] (List.replicate 256 (0 : Int)) (256 : Int)] w := by rw [hX]; exact hS0
   refine Stp.mono (o_evs [] (.pointer (some ⟨b3m, 6, none⟩)) none [] H rfl (by kernel_rfl) (fun q e => by cases e)) ?_
   rintro v w2 ⟨rfl, hq⟩
   replace hS : SH M X w [Ent.mix .u8 b3m [.string ⟨⟨[]⟩⟩, .int .i64 0, .string ⟨⟨[]⟩⟩, .pointer none, .slice none 0 0, .int .i64 0] (List.replicate 256 (0 : Int)) (256 : Int)] _ := hS.below hq.below
   rw [hX] at hS
   exact ⟨gL [], fun _ _ => rfl, hS.sel [0] rfl⟩
  ·intro o ho a w yg18m M Hb hv hO hS0
   obtain rfl := Option.some.inj ho
   have H : Fr 117 ([(35, [], .pointer (some ⟨b3m, 6, none⟩)), (33, [], .int .u8 13)] ++ [(0, [], .slice gl.a 8 gl.c), (3, [], .pointer (some ⟨b3m, 0, none⟩)), (4, [], .int .i64 0), (5, [], .string ⟨⟨[13, 10]⟩⟩), (6, [], .int .i64 0)]) _ := ((Hb).add (hv 3 (by decide) (by decide) 33 rfl)).add (hv 5 (by decide) (by decide) 35 rfl)
   obtain ⟨X, hX⟩ : ∃ X, X = fpl [Ent.mix .u8 b3m [.string ⟨⟨[]⟩⟩, .int .i64 0, .string ⟨⟨[]⟩⟩, .pointer none, .slice none 0 0, .int .i64 0] (List.replicate 256 (0 : Int)) (256 : Int)] := ⟨_, rfl⟩
   have hS : SH M X w [Ent.mix .u8 b3m [.string ⟨⟨[]⟩⟩, .int .i64 0, .string ⟨⟨[]⟩⟩, .pointer none, .slice none 0 0, .int .i64 0] (List.replicate 256 (0 : Int)) (256 : Int)] w := by rw [hX]; exact hS0
   refine Stp.mono (o_evs [] (.pointer (some ⟨b3m, 6 + ((13 : Int)).toNat * 1, none⟩)) (some (fun _ => 0 ≤ (13 : Int) ∧ (13 : Int) < (256 : Int))) [] H rfl (by kernel_rfl) (fun q e => by cases e; exact (show 0 ≤ (13 : Int) ∧ (13 : Int) < (256 : Int) from by decide))) ?_
   rintro v w2 ⟨rfl, hq⟩
   replace hS : SH M X w [Ent.mix .u8 b3m [.string ⟨⟨[]⟩⟩, .int .i64 0, .string ⟨⟨[]⟩⟩, .pointer none, .slice none 0 0, .int .i64 0] (List.replicate 256 (0 : Int)) (256 : Int)] _ := hS.below hq.below
   rw [hX] at hS
   exact ⟨gL [], fun _ _ => rfl, hS.sel [0] rfl⟩
  ·intro o ho a w yg18m M Hb hv hO hS0
   obtain rfl := Option.some.inj ho
   have H : Fr 117 ([(36, [], .pointer (some ⟨b3m, 6 + ((13 : Int)).toNat * 1, none⟩))] ++ [(0, [], .slice gl.a 8 gl.c), (3, [], .pointer (some ⟨b3m, 0, none⟩)), (4, [], .int .i64 0), (5, [], .string ⟨⟨[13, 10]⟩⟩), (6, [], .int .i64 0)]) _ := (Hb).add (hv 6 (by decide) (by decide) 36 rfl)
   obtain ⟨X, hX⟩ : ∃ X, X = fpl [Ent.mix .u8 b3m [.string ⟨⟨[]⟩⟩, .int .i64 0, .string ⟨⟨[]⟩⟩, .pointer none, .slice none 0 0, .int .i64 0] (List.replicate 256 (0 : Int)) (256 : Int)] := ⟨_, rfl⟩
   have hS : SH M X w [Ent.mix .u8 b3m [.string ⟨⟨[]⟩⟩, .int .i64 0, .string ⟨⟨[]⟩⟩, .pointer none, .slice none 0 0, .int .i64 0] (List.replicate 256 (0 : Int)) (256 : Int)] w := by rw [hX]; exact hS0
   have hd := hS.hand [0] [] rfl rfl
   refine Stp.mono (o_mrstore H hd rfl rfl (by kernel_rfl) rfl (show 0 ≤ (13 : Int) ∧ (13 : Int) < (256 : Int) from by decide)) ?_
   rintro v w2 hq
   replace hS : SH M X w [Ent.mix .u8 b3m [.string ⟨⟨[]⟩⟩, .int .i64 0, .string ⟨⟨[]⟩⟩, .pointer none, .slice none 0 0, .int .i64 0] (seti (List.replicate 256 (0 : Int)) (13 : Int) 1) (256 : Int)] _ := hS.join [0] [] rfl rfl hq
   clear hq
   rw [hX] at hS
   exact ⟨gL [], (fun _ h => by cases h), hS.sel [0] rfl⟩
 have H21m : Fr 117 [(0, [], .slice gl.a 8 gl.c), (3, [], .pointer (some ⟨b3m, 0, none⟩)), (4, [], .int .i64 0), (5, [], .string ⟨⟨[13, 10]⟩⟩), (6, [], .int .i64 0)] _ := (FrG.keep (ks := [0, 3, 4, 5, 6]) H20m (by kernel_rfl))
 replace hS : SH M X w [Ent.mix .u8 b3m [.string ⟨⟨[]⟩⟩, .int .i64 0, .string ⟨⟨[]⟩⟩, .pointer none, .slice none 0 0, .int .i64 0] (seti (List.replicate 256 (0 : Int)) (13 : Int) 1) (256 : Int), Ent.own 9 tS lit8 gl] _ := hS
 clear hv H20m
 refine w_reg [] [0, 3, 4, 5, 6] [(0, [], .slice gl.a 8 gl.c), (3, [], .pointer (some ⟨b3m, 0, none⟩)), (4, [], .int .i64 0), (5, [], .string ⟨⟨[13, 10]⟩⟩), (6, [], .int .i64 1)] [] H21m (by kernel_rfl) trivial fun _ wd22m H23m hb => ?_
 clear H21m
 replace hS := hS.below hb
 clear hb
 refine lw_round ?_
 refine w_seq ?_
 refine s_reg [] [0, 3, 4, 5, 6, 27] [(0, [], .slice gl.a 8 gl.c), (3, [], .pointer (some ⟨b3m, 0, none⟩)), (4, [], .int .i64 0), (5, [], .string ⟨⟨[13, 10]⟩⟩), (6, [], .int .i64 1), (27, [], .bool true)] [] H23m (by kernel_rfl) trivial fun _ wd24m H25m hb => ?_
 clear H23m
 replace hS := hS.below hb
 clear hb
 refine w_if H25m rfl (fun _ => ?_) (fun hc => by cases hc)
 refine w_skip ?_
 refine w_seq ?_
 refine w_block ?_
 refine w_drawS (base := [(0, [], .slice gl.a 8 gl.c), (3, [], .pointer (some ⟨b3m, 0, none⟩)), (4, [], .int .i64 0), (5, [], .string ⟨⟨[13, 10]⟩⟩), (6, [], .int .i64 1)]) (L := [Ent.mix .u8 b3m [.string ⟨⟨[]⟩⟩, .int .i64 0, .string ⟨⟨[]⟩⟩, .pointer none, .slice none 0 0, .int .i64 0] (seti (List.replicate 256 (0 : Int)) (13 : Int) 1) (256 : Int), Ent.own 9 tS lit8 gl]) 8 2 (fun yg26m => [.pointer (some ⟨b3m, 0, none⟩), .string ⟨⟨[13, 10]⟩⟩, .int .i64 1, .int .u8 10, .pointer (some ⟨b3m, 0, none⟩), .pointer (some ⟨b3m, 6, none⟩), .pointer (some ⟨b3m, 6 + ((10 : Int)).toNat * 1, none⟩), undef]) (fun yg26m => [[], [], [], [], [], [], [], [Ent.mix .u8 b3m [.string ⟨⟨[]⟩⟩, .int .i64 0, .string ⟨⟨[]⟩⟩, .pointer none, .slice none 0 0, .int .i64 0] (seti (seti (List.replicate 256 (0 : Int)) (13 : Int) 1) (10 : Int) 1) (256 : Int)]]) [[8], [], [], [], [8], [8], [8], [8]] [[], [], [], [], [], [], [], [8]] [[0], [1], [2], [1, 2, 3], [0, 4], [0, 4, 5], [0, 1, 2, 3, 4, 5, 6], [0, 1, 2, 3, 4, 5, 6, 7]] [] (FrG.keep (ks := [0, 3, 4, 5, 6]) H25m (by kernel_rfl)) (fun _ _ h => by cases h) (by kernel_rfl) hS (by kernel_rfl) rfl rfl (by kernel_rfl) (by kernel_rfl) (by kernel_rfl) (gd_none (by kernel_rfl) _ _) ?hloc_yg26m ?hstep_yg26m fun _ wd27m yg26m H28m hv hS => ?hK_yg26m
 case hloc_yg26m => exact ⟨(fun _ _ _ _ => ⟨rfl, rfl⟩), (fun _ _ _ _ => ⟨rfl, rfl⟩), (fun _ _ _ _ => ⟨rfl, rfl⟩), (fun _ _ _ _ => ⟨rfl, rfl⟩), (fun _ _ _ _ => ⟨rfl, rfl⟩), (fun _ _ _ _ => ⟨rfl, rfl⟩), (fun _ _ _ _ => ⟨rfl, rfl⟩), (fun _ _ _ _ => ⟨rfl, rfl⟩), trivial⟩
 case hstep_yg26m =>
  refine ⟨?_, ?_, ?_, ?_, ?_, ?_, ?_, ?_, trivial⟩
  ·intro o ho a w yg26m M Hb hv hO hS0
   obtain rfl := Option.some.inj ho
   have H : Fr 117 ([] ++ [(0, [], .slice gl.a 8 gl.c), (3, [], .pointer (some ⟨b3m, 0, none⟩)), (4, [], .int .i64 0), (5, [], .string ⟨⟨[13, 10]⟩⟩), (6, [], .int .i64 1)]) _ := Hb
   obtain ⟨X, hX⟩ : ∃ X, X = fpl [Ent.mix .u8 b3m [.string ⟨⟨[]⟩⟩, .int .i64 0, .string ⟨⟨[]⟩⟩, .pointer none, .slice none 0 0, .int .i64 0] (seti (List.replicate 256 (0 : Int)) (13 : Int) 1) (256 : Int)] := ⟨_, rfl⟩
   have hS : SH M X w [Ent.mix .u8 b3m [.string ⟨⟨[]⟩⟩, .int .i64 0, .string ⟨⟨[]⟩⟩, .pointer none, .slice none 0 0, .int .i64 0] (seti (List.replicate 256 (0 : Int)) (13 : Int) 1) (256 : Int)] w := by rw [hX]; exact hS0
   refine Stp.mono (o_evs [] (.pointer (some ⟨b3m, 0, none⟩)) none [] H rfl (by kernel_rfl) (fun q e => by cases e)) ?_
   rintro v w2 ⟨rfl, hq⟩
   replace hS : SH M X w [Ent.mix .u8 b3m [.string ⟨⟨[]⟩⟩, .int .i64 0, .string ⟨⟨[]⟩⟩, .pointer none, .slice none 0 0, .int .i64 0] (seti (List.replicate 256 (0 : Int)) (13 : Int) 1) (256 : Int)] _ := hS.below hq.below
   rw [hX] at hS
   exact ⟨gL [], fun _ _ => rfl, hS.sel [0] rfl⟩
  ·intro o ho a w yg26m M Hb hv hO hS0
   obtain rfl := Option.some.inj ho
   have H : Fr 117 ([] ++ [(0, [], .slice gl.a 8 gl.c), (3, [], .pointer (some ⟨b3m, 0, none⟩)), (4, [], .int .i64 0), (5, [], .string ⟨⟨[13, 10]⟩⟩), (6, [], .int .i64 1)]) _ := Hb
   obtain ⟨X, hX⟩ : ∃ X, X = fpl [] := ⟨_, rfl⟩
   have hS : SH M X w [] w := by rw [hX]; exact hS0
   refine Stp.mono (o_evs [] (.string ⟨⟨[13, 10]⟩⟩) none [] H rfl (by kernel_rfl) (fun q e => by cases e)) ?_
   rintro v w2 ⟨rfl, hq⟩
   replace hS : SH M X w [] _ := hS.below hq.below
   rw [hX] at hS
   exact ⟨gL [], fun _ _ => rfl, hS.sel [] rfl⟩
  ·intro o ho a w yg26m M Hb hv hO hS0
   obtain rfl := Option.some.inj ho
   have H : Fr 117 ([] ++ [(0, [], .slice gl.a 8 gl.c), (3, [], .pointer (some ⟨b3m, 0, none⟩)), (4, [], .int .i64 0), (5, [], .string ⟨⟨[13, 10]⟩⟩), (6, [], .int .i64 1)]) _ := Hb
   obtain ⟨X, hX⟩ : ∃ X, X = fpl [] := ⟨_, rfl⟩
   have hS : SH M X w [] w := by rw [hX]; exact hS0
   refine Stp.mono (o_evs [] (.int .i64 1) none [] H rfl (by kernel_rfl) (fun q e => by cases e)) ?_
   rintro v w2 ⟨rfl, hq⟩
   replace hS : SH M X w [] _ := hS.below hq.below
   rw [hX] at hS
   exact ⟨gL [], fun _ _ => rfl, hS.sel [] rfl⟩
  ·intro o ho a w yg26m M Hb hv hO hS0
   obtain rfl := Option.some.inj ho
   have H : Fr 117 ([(32, [], .int .i64 1), (31, [], .string ⟨⟨[13, 10]⟩⟩)] ++ [(0, [], .slice gl.a 8 gl.c), (3, [], .pointer (some ⟨b3m, 0, none⟩)), (4, [], .int .i64 0), (5, [], .string ⟨⟨[13, 10]⟩⟩), (6, [], .int .i64 1)]) _ := ((Hb).add (hv 1 (by decide) (by decide) 31 rfl)).add (hv 2 (by decide) (by decide) 32 rfl)
   obtain ⟨X, hX⟩ : ∃ X, X = fpl [] := ⟨_, rfl⟩
   have hS : SH M X w [] w := by rw [hX]; exact hS0
   refine Stp.mono (o_evs [] (.int .u8 10) (some (fun _ => 0 ≤ (1 : Int) ∧ (1 : Int) < ln ([13, 10] : Str))) [] H rfl (by kernel_rfl) (fun q e => by cases e; exact (show 0 ≤ (1 : Int) ∧ (1 : Int) < ln ([13, 10] : Str) from by decide))) ?_
   rintro v w2 ⟨rfl, hq⟩
   replace hS : SH M X w [] _ := hS.below hq.below
   rw [hX] at hS
   exact ⟨gL [], fun _ _ => rfl, hS.sel [] rfl⟩
  ·intro o ho a w yg26m M Hb hv hO hS0
   obtain rfl := Option.some.inj ho
   have H : Fr 117 ([(30, [], .pointer (some ⟨b3m, 0, none⟩))] ++ [(0, [], .slice gl.a 8 gl.c), (3, [], .pointer (some ⟨b3m, 0, none⟩)), (4, [], .int .i64 0), (5, [], .string ⟨⟨[13, 10]⟩⟩), (6, [], .int .i64 1)]) _ := (Hb).add (hv 0 (by decide) (by decide) 30 rfl)
   obtain ⟨X, hX⟩ : ∃ X, X = fpl [Ent.mix .u8 b3m [.string ⟨⟨[]⟩⟩, .int .i64 0, .string ⟨⟨[]⟩⟩, .pointer none, .slice none 0 0, .int .i64 0] (seti (List.replicate 256 (0 : Int)) (13 : Int) 1) (256 : Int)] := ⟨_, rfl⟩
   have hS : SH M X w [Ent.mix .u8 b3m [.string ⟨⟨[]⟩⟩, .int .i64 0, .string ⟨⟨[]⟩⟩, .pointer none, .slice none 0 0, .int .i64 0] (seti (List.replicate 256 (0 : Int)) (13 : Int) 1) (256 : Int)] w := by rw [hX]; exact hS0
   refine Stp.mono (o_evs [] (.pointer (some ⟨b3m, 0, none⟩)) none [] H rfl (by kernel_rfl) (fun q e => by cases e)) ?_
   rintro v w2 ⟨rfl, hq⟩
   replace hS : SH M X w [Ent.mix .u8 b3m [.string ⟨⟨[]⟩⟩, .int .i64 0, .string ⟨⟨[]⟩⟩, .pointer none, .slice none 0 0, .int .i64 0] (seti (List.replicate 256 (0 : Int)) (13 : Int) 1) (256 : Int)] _ := hS.below hq.below
   rw [hX] at hS
   exact ⟨gL [], fun _ _ => rfl, hS.sel [0] rfl⟩
  ·intro o ho a w yg26m M Hb hv hO hS0
   obtain rfl := Option.some.inj ho
   have H : Fr 117 ([(34, [], .pointer (some ⟨b3m, 0, none⟩))] ++ [(0, [], .slice gl.a 8 gl.c), (3, [], .pointer (some ⟨b3m, 0, none⟩)), (4, [], .int .i64 0), (5, [], .string ⟨⟨[13, 10]⟩⟩), (6, [], .int .i64 1)]) _ := (Hb).add (hv 4 (by decide) (by decide) 34 rfl)
   obtain ⟨X, hX⟩ : ∃ X, X = fpl [Ent.mix .u8 b3m [.string ⟨⟨[]⟩⟩, .int .i64 0, .string ⟨⟨[]⟩⟩, .pointer none, .slice none 0 0, .int .i64 0] (seti (List.replicate 256 (0 : Int)) (13 : Int) 1) (256 : Int)] := ⟨_, rfl⟩
   have hS : SH M X w [Ent.mix .u8 b3m [.string ⟨⟨[]⟩⟩, .int .i64 0, .string ⟨⟨[]⟩⟩, .pointer none, .slice none 0 0, .int .i64 0] (seti (List.replicate 256 (0 : Int)) (13 : Int) 1) (256 : Int)] w := by rw [hX]; exact hS0
   refine Stp.mono (o_evs [] (.pointer (some ⟨b3m, 6, none⟩)) none [] H rfl (by kernel_rfl) (fun q e => by cases e)) ?_
   rintro v w2 ⟨rfl, hq⟩
   replace hS : SH M X w [Ent.mix .u8 b3m [.string ⟨⟨[]⟩⟩, .int .i64 0, .string ⟨⟨[]⟩⟩, .pointer none, .slice none 0 0, .int .i64 0] (seti (List.replicate 256 (0 : Int)) (13 : Int) 1) (256 : Int)] _ := hS.below hq.below
   rw [hX] at hS
   exact ⟨gL [], fun _ _ => rfl, hS.sel [0] rfl⟩
  ·intro o ho a w yg26m M Hb hv hO hS0
   obtain rfl := Option.some.inj ho
   have H : Fr 117 ([(35, [], .pointer (some ⟨b3m, 6, none⟩)), (33, [], .int .u8 10)] ++ [(0, [], .slice gl.a 8 gl.c), (3, [], .pointer (some ⟨b3m, 0, none⟩)), (4, [], .int .i64 0), (5, [], .string ⟨⟨[13, 10]⟩⟩), (6, [], .int .i64 1)]) _ := ((Hb).add (hv 3 (by decide) (by decide) 33 rfl)).add (hv 5 (by decide) (by decide) 35 rfl)
   obtain ⟨X, hX⟩ : ∃ X, X = fpl [Ent.mix .u8 b3m [.string ⟨⟨[]⟩⟩, .int .i64 0, .string ⟨⟨[]⟩⟩, .pointer none, .slice none 0 0, .int .i64 0] (seti (List.replicate 256 (0 : Int)) (13 : Int) 1) (256 : Int)] := ⟨_, rfl⟩
   have hS : SH M X w [Ent.mix .u8 b3m [.string ⟨⟨[]⟩⟩, .int .i64 0, .string ⟨⟨[]⟩⟩, .pointer none, .slice none 0 0, .int .i64 0] (seti (List.replicate 256 (0 : Int)) (13 : Int) 1) (256 : Int)] w := by rw [hX]; exact hS0
   refine Stp.mono (o_evs [] (.pointer (some ⟨b3m, 6 + ((10 : Int)).toNat * 1, none⟩)) (some (fun _ => 0 ≤ (10 : Int) ∧ (10 : Int) < (256 : Int))) [] H rfl (by kernel_rfl) (fun q e => by cases e; exact (show 0 ≤ (10 : Int) ∧ (10 : Int) < (256 : Int) from by decide))) ?_
   rintro v w2 ⟨rfl, hq⟩
   replace hS : SH M X w [Ent.mix .u8 b3m [.string ⟨⟨[]⟩⟩, .int .i64 0, .string ⟨⟨[]⟩⟩, .pointer none, .slice none 0 0, .int .i64 0] (seti (List.replicate 256 (0 : Int)) (13 : Int) 1) (256 : Int)] _ := hS.below hq.below
   rw [hX] at hS
   exact ⟨gL [], fun _ _ => rfl, hS.sel [0] rfl⟩
  ·intro o ho a w yg26m M Hb hv hO hS0
   obtain rfl := Option.some.inj ho
   have H : Fr 117 ([(36, [], .pointer (some ⟨b3m, 6 + ((10 : Int)).toNat * 1, none⟩))] ++ [(0, [], .slice gl.a 8 gl.c), (3, [], .pointer (some ⟨b3m, 0, none⟩)), (4, [], .int .i64 0), (5, [], .string ⟨⟨[13, 10]⟩⟩), (6, [], .int .i64 1)]) _ := (Hb).add (hv 6 (by decide) (by decide) 36 rfl)
   obtain ⟨X, hX⟩ : ∃ X, X = fpl [Ent.mix .u8 b3m [.string ⟨⟨[]⟩⟩, .int .i64 0, .string ⟨⟨[]⟩⟩, .pointer none, .slice none 0 0, .int .i64 0] (seti (List.replicate 256 (0 : Int)) (13 : Int) 1) (256 : Int)] := ⟨_, rfl⟩
   have hS : SH M X w [Ent.mix .u8 b3m [.string ⟨⟨[]⟩⟩, .int .i64 0, .string ⟨⟨[]⟩⟩, .pointer none, .slice none 0 0, .int .i64 0] (seti (List.replicate 256 (0 : Int)) (13 : Int) 1) (256 : Int)] w := by rw [hX]; exact hS0
   have hd := hS.hand [0] [] rfl rfl
   refine Stp.mono (o_mrstore H hd rfl rfl (by kernel_rfl) rfl (show 0 ≤ (10 : Int) ∧ (10 : Int) < (256 : Int) from by decide)) ?_
   rintro v w2 hq
   replace hS : SH M X w [Ent.mix .u8 b3m [.string ⟨⟨[]⟩⟩, .int .i64 0, .string ⟨⟨[]⟩⟩, .pointer none, .slice none 0 0, .int .i64 0] (seti (seti (List.replicate 256 (0 : Int)) (13 : Int) 1) (10 : Int) 1) (256 : Int)] _ := hS.join [0] [] rfl rfl hq
   clear hq
   rw [hX] at hS
   exact ⟨gL [], (fun _ h => by cases h), hS.sel [0] rfl⟩
 have H29m : Fr 117 [(0, [], .slice gl.a 8 gl.c), (3, [], .pointer (some ⟨b3m, 0, none⟩)), (4, [], .int .i64 0), (5, [], .string ⟨⟨[13, 10]⟩⟩), (6, [], .int .i64 1)] _ := (FrG.keep (ks := [0, 3, 4, 5, 6]) H28m (by kernel_rfl))
 replace hS : SH M X w [Ent.mix .u8 b3m [.string ⟨⟨[]⟩⟩, .int .i64 0, .string ⟨⟨[]⟩⟩, .pointer none, .slice none 0 0, .int .i64 0] (seti (seti (List.replicate 256 (0 : Int)) (13 : Int) 1) (10 : Int) 1) (256 : Int), Ent.own 9 tS lit8 gl] _ := hS
 clear hv H28m
 refine w_reg [] [0, 3, 4, 5, 6] [(0, [], .slice gl.a 8 gl.c), (3, [], .pointer (some ⟨b3m, 0, none⟩)), (4, [], .int .i64 0), (5, [], .string ⟨⟨[13, 10]⟩⟩), (6, [], .int .i64 2)] [] H29m (by kernel_rfl) trivial fun _ wd30m H31m hb => ?_
 clear H29m
 replace hS := hS.below hb
 clear hb
 refine lw_round ?_
 refine w_seq ?_
 refine s_reg [] [0, 3, 4, 5, 6, 27] [(0, [], .slice gl.a 8 gl.c), (3, [], .pointer (some ⟨b3m, 0, none⟩)), (4, [], .int .i64 0), (5, [], .string ⟨⟨[13, 10]⟩⟩), (6, [], .int .i64 2), (27, [], .bool false)] [] H31m (by kernel_rfl) trivial fun _ wd32m H33m hb => ?_
 clear H31m
 replace hS := hS.below hb
 clear hb
 refine w_if H33m rfl (fun hc => by cases hc) (fun _ => ?_)
 refine w_exit rfl ?_
 refine w_reg [] [0, 3, 4] [(0, [], .slice gl.a 8 gl.c), (3, [], .pointer (some ⟨b3m, 0, none⟩)), (4, [], .int .i64 2)] [] H33m (by kernel_rfl) trivial fun _ wd34m H35m hb => ?_
 clear H33m
 replace hS := hS.below hb
 clear hb
 refine lw_round ?_
 refine w_seq ?_
 refine s_reg [] [0, 3, 4, 17] [(0, [], .slice gl.a 8 gl.c), (3, [], .pointer (some ⟨b3m, 0, none⟩)), (4, [], .int .i64 2), (17, [], .bool true)] [] H35m (by kernel_rfl) trivial fun _ wd36m H37m hb => ?_
 clear H35m
 replace hS := hS.below hb
 clear hb
 refine w_if H37m rfl (fun _ => ?_) (fun hc => by cases hc)
 refine w_skip ?_
 refine w_seq ?_
 refine w_block ?_
 refine s_reg [(.string ⟨⟨[13]⟩⟩)] [0, 3, 4, 5] [(0, [], .slice gl.a 8 gl.c), (3, [], .pointer (some ⟨b3m, 0, none⟩)), (4, [], .int .i64 2), (5, [], .string ⟨⟨[13]⟩⟩)] [fun _ => oka gl.a ∧ 0 ≤ (2 : Int) ∧ (2 : Int) < ln lit8, fun wz => V.at1 ⟨ab gl.a, ao gl.a + ((2 : Int)).toNat * 1, none⟩ (.string ⟨⟨[13]⟩⟩) wz] H37m (by kernel_rfl) ⟨((hS.osl 1 rfl).oki (show 0 ≤ (2 : Int) ∧ (2 : Int) < ln lit8 from by decide)), ((hS.osl 1 rfl).at1 (show 0 ≤ (2 : Int) ∧ (2 : Int) < ln lit8 from by decide) 0 rfl), trivial⟩ fun _ wd38m H39m hb => ?_
 clear H37m
 replace hS := hS.below hb
 clear hb
 refine s_reg [] [0, 3, 4, 5, 6] [(0, [], .slice gl.a 8 gl.c), (3, [], .pointer (some ⟨b3m, 0, none⟩)), (4, [], .int .i64 2), (5, [], .string ⟨⟨[13]⟩⟩), (6, [], .int .i64 0)] [] H39m (by kernel_rfl) trivial fun _ wd40m H41m hb => ?_
 clear H39m
 replace hS := hS.below hb
 clear hb
 refine w_block ?_
 refine w_loopU ?_
 refine lw_round ?_
 refine w_seq ?_
 refine s_reg [] [0, 3, 4, 5, 6, 27] [(0, [], .slice gl.a 8 gl.c), (3, [], .pointer (some ⟨b3m, 0, none⟩)), (4, [], .int .i64 2), (5, [], .string ⟨⟨[13]⟩⟩), (6, [], .int .i64 0), (27, [], .bool true)] [] H41m (by kernel_rfl) trivial fun _ wd42m H43m hb => ?_
 clear H41m
 replace hS := hS.below hb
 clear hb
 refine w_if H43m rfl (fun _ => ?_) (fun hc => by cases hc)
 refine w_skip ?_
 refine w_seq ?_
 refine w_block ?_
 refine w_drawS (base := [(0, [], .slice gl.a 8 gl.c), (3, [], .pointer (some ⟨b3m, 0, none⟩)), (4, [], .int .i64 2), (5, [], .string ⟨⟨[13]⟩⟩), (6, [], .int .i64 0)]) (L := [Ent.mix .u8 b3m [.string ⟨⟨[]⟩⟩, .int .i64 0, .string ⟨⟨[]⟩⟩, .pointer none, .slice none 0 0, .int .i64 0] (seti (seti (List.replicate 256 (0 : Int)) (13 : Int) 1) (10 : Int) 1) (256 : Int), Ent.own 9 tS lit8 gl]) 8 2 (fun yg44m => [.pointer (some ⟨b3m, 0, none⟩), .string ⟨⟨[13]⟩⟩, .int .i64 0, .int .u8 13, .pointer (some ⟨b3m, 0, none⟩), .pointer (some ⟨b3m, 6, none⟩), .pointer (some ⟨b3m, 6 + ((13 : Int)).toNat * 1, none⟩), undef]) (fun yg44m => [[], [], [], [], [], [], [], [Ent.mix .u8 b3m [.string ⟨⟨[]⟩⟩, .int .i64 0, .string ⟨⟨[]⟩⟩, .pointer none, .slice none 0 0, .int .i64 0] (seti (seti (seti (List.replicate 256 (0 : Int)) (13 : Int) 1) (10 : Int) 1) (13 : Int) 1) (256 : Int)]]) [[8], [], [], [], [8], [8], [8], [8]] [[], [], [], [], [], [], [], [8]] [[0], [1], [2], [1, 2, 3], [0, 4], [0, 4, 5], [0, 1, 2, 3, 4, 5, 6], [0, 1, 2, 3, 4, 5, 6, 7]] [] (FrG.keep (ks := [0, 3, 4, 5, 6]) H43m (by kernel_rfl)) (fun _ _ h => by cases h) (by kernel_rfl) hS (by kernel_rfl) rfl rfl (by kernel_rfl) (by kernel_rfl) (by kernel_rfl) (gd_none (by kernel_rfl) _ _) ?hloc_yg44m ?hstep_yg44m fun _ wd45m yg44m H46m hv hS => ?hK_yg44m
 case hloc_yg44m => exact ⟨(fun _ _ _ _ => ⟨rfl, rfl⟩), (fun _ _ _ _ => ⟨rfl, rfl⟩), (fun _ _ _ _ => ⟨rfl, rfl⟩), (fun _ _ _ _ => ⟨rfl, rfl⟩), (fun _ _ _ _ => ⟨rfl, rfl⟩), (fun _ _ _ _ => ⟨rfl, rfl⟩), (fun _ _ _ _ => ⟨rfl, rfl⟩), (fun _ _ _ _ => ⟨rfl, rfl⟩), trivial⟩
 case hstep_yg44m =>
  refine ⟨?_, ?_, ?_, ?_, ?_, ?_, ?_, ?_, trivial⟩
  ·intro o ho a w yg44m M Hb hv hO hS0
   obtain rfl := Option.some.inj ho
   have H : Fr 117 ([] ++ [(0, [], .slice gl.a 8 gl.c), (3, [], .pointer (some ⟨b3m, 0, none⟩)), (4, [], .int .i64 2), (5, [], .string ⟨⟨[13]⟩⟩), (6, [], .int .i64 0)]) _ := Hb
   obtain ⟨X, hX⟩ : ∃ X, X = fpl [Ent.mix .u8 b3m [.string ⟨⟨[]⟩⟩, .int .i64 0, .string ⟨⟨[]⟩⟩, .pointer none, .slice none 0 0, .int .i64 0] (seti (seti (List.replicate 256 (0 : Int)) (13 : Int) 1) (10 : Int) 1) (256 : Int)] := ⟨_, rfl⟩
   have hS : SH M X w [Ent.mix .u8 b3m [.string ⟨⟨[]⟩⟩, .int .i64 0, .string ⟨⟨[]⟩⟩, .pointer none, .slice none 0 0, .int .i64 0] (seti (seti (List.replicate 256 (0 : Int)) (13 : Int) 1) (10 : Int) 1) (256 : Int)] w := by rw [hX]; exact hS0
   refine Stp.mono (o_evs [] (.pointer (some ⟨b3m, 0, none⟩)) none [] H rfl (by kernel_rfl) (fun q e => by cases e)) ?_
   rintro v w2 ⟨rfl, hq⟩
   replace hS : SH M X w [Ent.mix .u8 b3m [.string ⟨⟨[]⟩⟩, .int .i64 0, .string ⟨⟨[]⟩⟩, .pointer none, .slice none 0 0, .int .i64 0] (seti (seti (List.replicate 256 (0 : Int)) (13 : Int) 1) (10 : Int) 1) (256 : Int)] _ := hS.below hq.below
   rw [hX] at hS
   exact ⟨gL [], fun _ _ => rfl, hS.sel [0] rfl⟩
  ·intro o ho a w yg44m M Hb hv hO hS0
   obtain rfl := Option.some.inj ho
   have H : Fr 117 ([] ++ [(0, [], .slice gl.a 8 gl.c), (3, [], .pointer (some ⟨b3m, 0, none⟩)), (4, [], .int .i64 2), (5, [], .string ⟨⟨[13]⟩⟩), (6, [], .int .i64 0)]) _ := Hb
   obtain ⟨X, hX⟩ : ∃ X, X = fpl [] := ⟨_, rfl⟩
   have hS : SH M X w [] w := by rw [hX]; exact hS0
   refine Stp.mono (o_evs [] (.string ⟨⟨[13]⟩⟩) none [] H rfl (by kernel_rfl) (fun q e => by cases e)) ?_
   rintro v w2 ⟨rfl, hq⟩
   replace hS : SH M X w [] _ := hS.below hq.below
   rw [hX] at hS
   exact ⟨gL [], fun _ _ => rfl, hS.sel [] rfl⟩
  ·intro o ho a w yg44m M Hb hv hO hS0
   obtain rfl := Option.some.inj ho
   have H : Fr 117 ([] ++ [(0, [], .slice gl.a 8 gl.c), (3, [], .pointer (some ⟨b3m, 0, none⟩)), (4, [], .int .i64 2), (5, [], .string ⟨⟨[13]⟩⟩), (6, [], .int .i64 0)]) _ := Hb
   obtain ⟨X, hX⟩ : ∃ X, X = fpl [] := ⟨_, rfl⟩
   have hS : SH M X w [] w := by rw [hX]; exact hS0
   refine Stp.mono (o_evs [] (.int .i64 0) none [] H rfl (by kernel_rfl) (fun q e => by cases e)) ?_
   rintro v w2 ⟨rfl, hq⟩
   replace hS : SH M X w [] _ := hS.below hq.below
   rw [hX] at hS
   exact ⟨gL [], fun _ _ => rfl, hS.sel [] rfl⟩
  ·intro o ho a w yg44m M Hb hv hO hS0
   obtain rfl := Option.some.inj ho
   have H : Fr 117 ([(32, [], .int .i64 0), (31, [], .string ⟨⟨[13]⟩⟩)] ++ [(0, [], .slice gl.a 8 gl.c), (3, [], .pointer (some ⟨b3m, 0, none⟩)), (4, [], .int .i64 2), (5, [], .string ⟨⟨[13]⟩⟩), (6, [], .int .i64 0)]) _ := ((Hb).add (hv 1 (by decide) (by decide) 31 rfl)).add (hv 2 (by decide) (by decide) 32 rfl)
   obtain ⟨X, hX⟩ : ∃ X, X = fpl [] := ⟨_, rfl⟩
   have hS : SH M X w [] w := by rw [hX]; exact hS0
   refine Stp.mono (o_evs [] (.int .u8 13) (some (fun _ => 0 ≤ (0 : Int) ∧ (0 : Int) < ln ([13] : Str))) [] H rfl (by kernel_rfl) (fun q e => by cases e; exact (show 0 ≤ (0 : Int) ∧ (0 : Int) < ln ([13] : Str) from by decide))) ?_
   rintro v w2 ⟨rfl, hq⟩
   replace hS : SH M X w [] _ := hS.below hq.below
   rw [hX] at hS
   exact ⟨gL [], fun _ _ => rfl, hS.sel [] rfl⟩
  ·intro o ho a w yg44m M Hb hv hO hS0
   obtain rfl := Option.some.inj ho
   have H : Fr 117 ([(30, [], .pointer (some ⟨b3m, 0, none⟩))] ++ [(0, [], .slice gl.a 8 gl.c), (3, [], .pointer (some ⟨b3m, 0, none⟩)), (4, [], .int .i64 2), (5, [], .string ⟨⟨[13]⟩⟩), (6, [], .int .i64 0)]) _ := (Hb).add (hv 0 (by decide) (by decide) 30 rfl)
   obtain ⟨X, hX⟩ : ∃ X, X = fpl [Ent.mix .u8 b3m [.string ⟨⟨[]⟩⟩, .int .i64 0, .string ⟨⟨[]⟩⟩, .pointer none, .slice none 0 0, .int .i64 0] (seti (seti (List.replicate 256 (0 : Int)) (13 : Int) 1) (10 : Int) 1) (256 : Int)] := ⟨_, rfl⟩
   have hS : SH M X w [Ent.mix .u8 b3m [.string ⟨⟨[]⟩⟩, .int .i64 0, .string ⟨⟨[]⟩⟩, .pointer none, .slice none 0 0, .int .i64 0] (seti (seti (List.replicate 256 (0 : Int)) (13 : Int) 1) (10 : Int) 1) (256 : Int)] w := by rw [hX]; exact hS0
   refine Stp.mono (o_evs [] (.pointer (some ⟨b3m, 0, none⟩)) none [] H rfl (by kernel_rfl) (fun q e => by cases e)) ?_
   rintro v w2 ⟨rfl, hq⟩
   replace hS : SH M X w [Ent.mix .u8 b3m [.string ⟨⟨[]⟩⟩, .int .i64 0, .string ⟨⟨[]⟩⟩, .pointer none, .slice none 0 0, .int .i64 0] (seti (seti (List.replicate 256 (0 : Int)) (13 : Int) 1) (10 : Int) 1) (256 : Int)] _ := hS.below hq.below
   rw [hX] at hS
   exact ⟨gL [], fun _ _ => rfl, hS.sel [0] rfl⟩
  ·intro o ho a w yg44m M Hb hv hO hS0
   obtain rfl := Option.some.inj ho
   have H : Fr 117 ([(34, [], .pointer (some ⟨b3m, 0, none⟩))] ++ [(0, [], .slice gl.a 8 gl.c), (3, [], .pointer (some ⟨b3m, 0, none⟩)), (4, [], .int .i64 2), (5, [], .string ⟨⟨[13]⟩⟩), (6, [], .int .i64 0)]) _ := (Hb).add (hv 4 (by decide) (by decide) 34 rfl)
   obtain ⟨X, hX⟩ : ∃ X, X = fpl [Ent.mix .u8 b3m [.string ⟨⟨[]⟩⟩, .int .i64 0, .string ⟨⟨[]⟩⟩, .pointer none, .slice none 0 0, .int .i64 0] (seti (seti (List.replicate 256 (0 : Int)) (13 : Int) 1) (10 : Int) 1) (256 : Int)] := ⟨_, rfl⟩
   have hS : SH M X w [Ent.mix .u8 b3m [.string ⟨⟨[]⟩⟩, .int .i64 0, .string ⟨⟨[]⟩⟩, .pointer none, .slice none 0 0, .int .i64 0] (seti (seti (List.replicate 256 (0 : Int)) (13 : Int) 1) (10 : Int) 1) (256 : Int)] w := by rw [hX]; exact hS0
   refine Stp.mono (o_evs [] (.pointer (some ⟨b3m, 6, none⟩)) none [] H rfl (by kernel_rfl) (fun q e => by cases e)) ?_
   rintro v w2 ⟨rfl, hq⟩
   replace hS : SH M X w [Ent.mix .u8 b3m [.string ⟨⟨[]⟩⟩, .int .i64 0, .string ⟨⟨[]⟩⟩, .pointer none, .slice none 0 0, .int .i64 0] (seti (seti (List.replicate 256 (0 : Int)) (13 : Int) 1) (10 : Int) 1) (256 : Int)] _ := hS.below hq.below
   rw [hX] at hS
   exact ⟨gL [], fun _ _ => rfl, hS.sel [0] rfl⟩
  ·intro o ho a w yg44m M Hb hv hO hS0
   obtain rfl := Option.some.inj ho
   have H : Fr 117 ([(35, [], .pointer (some ⟨b3m, 6, none⟩)), (33, [], .int .u8 13)] ++ [(0, [], .slice gl.a 8 gl.c), (3, [], .pointer (some ⟨b3m, 0, none⟩)), (4, [], .int .i64 2), (5, [], .string ⟨⟨[13]⟩⟩), (6, [], .int .i64 0)]) _ := ((Hb).add (hv 3 (by decide) (by decide) 33 rfl)).add (hv 5 (by decide) (by decide) 35 rfl)
   obtain ⟨X, hX⟩ : ∃ X, X = fpl [Ent.mix .u8 b3m [.string ⟨⟨[]⟩⟩, .int .i64 0, .string ⟨⟨[]⟩⟩, .pointer none, .slice none 0 0, .int .i64 0] (seti (seti (List.replicate 256 (0 : Int)) (13 : Int) 1) (10 : Int) 1) (256 : Int)] := ⟨_, rfl⟩
   have hS : SH M X w [Ent.mix .u8 b3m [.string ⟨⟨[]⟩⟩, .int .i64 0, .string ⟨⟨[]⟩⟩, .pointer none, .slice none 0 0, .int .i64 0] (seti (seti (List.replicate 256 (0 : Int)) (13 : Int) 1) (10 : Int) 1) (256 : Int)] w := by rw [hX]; exact hS0
   refine Stp.mono (o_evs [] (.pointer (some ⟨b3m, 6 + ((13 : Int)).toNat * 1, none⟩)) (some (fun _ => 0 ≤ (13 : Int) ∧ (13 : Int) < (256 : Int))) [] H rfl (by kernel_rfl) (fun q e => by cases e; exact (show 0 ≤ (13 : Int) ∧ (13 : Int) < (256 : Int) from by decide))) ?_
   rintro v w2 ⟨rfl, hq⟩
   replace hS : SH M X w [Ent.mix .u8 b3m [.string ⟨⟨[]⟩⟩, .int .i64 0, .string ⟨⟨[]⟩⟩, .pointer none, .slice none 0 0, .int .i64 0] (seti (seti (List.replicate 256 (0 : Int)) (13 : Int) 1) (10 : Int) 1) (256 : Int)] _ := hS.below hq.below
   rw [hX] at hS
   exact ⟨gL [], fun _ _ => rfl, hS.sel [0] rfl⟩
  ·intro o ho a w yg44m M Hb hv hO hS0
   obtain rfl := Option.some.inj ho
   have H : Fr 117 ([(36, [], .pointer (some ⟨b3m, 6 + ((13 : Int)).toNat * 1, none⟩))] ++ [(0, [], .slice gl.a 8 gl.c), (3, [], .pointer (some ⟨b3m, 0, none⟩)), (4, [], .int .i64 2), (5, [], .string ⟨⟨[13]⟩⟩), (6, [], .int .i64 0)]) _ := (Hb).add (hv 6 (by decide) (by decide) 36 rfl)
   obtain ⟨X, hX⟩ : ∃ X, X = fpl [Ent.mix .u8 b3m [.string ⟨⟨[]⟩⟩, .int .i64 0, .string ⟨⟨[]⟩⟩, .pointer none, .slice none 0 0, .int .i64 0] (seti (seti (List.replicate 256 (0 : Int)) (13 : Int) 1) (10 : Int) 1) (256 : Int)] := ⟨_, rfl⟩
   have hS : SH M X w [Ent.mix .u8 b3m [.string ⟨⟨[]⟩⟩, .int .i64 0, .string ⟨⟨[]⟩⟩, .pointer none, .slice none 0 0, .int .i64 0] (seti (seti (List.replicate 256 (0 : Int)) (13 : Int) 1) (10 : Int) 1) (256 : Int)] w := by rw [hX]; exact hS0
   have hd := hS.hand [0] [] rfl rfl
   refine Stp.mono (o_mrstore H hd rfl rfl (by kernel_rfl) rfl (show 0 ≤ (13 : Int) ∧ (13 : Int) < (256 : Int) from by decide)) ?_
   rintro v w2 hq
   replace hS : SH M X w [Ent.mix .u8 b3m [.string ⟨⟨[]⟩⟩, .int .i64 0, .string ⟨⟨[]⟩⟩, .pointer none, .slice none 0 0, .int .i64 0] (seti (seti (seti (List.replicate 256 (0 : Int)) (13 : Int) 1) (10 : Int) 1) (13 : Int) 1) (256 : Int)] _ := hS.join [0] [] rfl rfl hq
   clear hq
   rw [hX] at hS
   exact ⟨gL [], (fun _ h => by cases h), hS.sel [0] rfl⟩
 have H47m : Fr 117 [(0, [], .slice gl.a 8 gl.c), (3, [], .pointer (some ⟨b3m, 0, none⟩)), (4, [], .int .i64 2), (5, [], .string ⟨⟨[13]⟩⟩), (6, [], .int .i64 0)] _ := (FrG.keep (ks := [0, 3, 4, 5, 6]) H46m (by kernel_rfl))
 replace hS : SH M X w [Ent.mix .u8 b3m [.string ⟨⟨[]⟩⟩, .int .i64 0, .string ⟨⟨[]⟩⟩, .pointer none, .slice none 0 0, .int .i64 0] (seti (seti (seti (List.replicate 256 (0 : Int)) (13 : Int) 1) (10 : Int) 1) (13 : Int) 1) (256 : Int), Ent.own 9 tS lit8 gl] _ := hS
 clear hv H46m
 refine w_reg [] [0, 3, 4, 5, 6] [(0, [], .slice gl.a 8 gl.c), (3, [], .pointer (some ⟨b3m, 0, none⟩)), (4, [], .int .i64 2), (5, [], .string ⟨⟨[13]⟩⟩), (6, [], .int .i64 1)] [] H47m (by kernel_rfl) trivial fun _ wd48m H49m hb => ?_
 clear H47m
 replace hS := hS.below hb
 clear hb
 refine lw_round ?_
 refine w_seq ?_
 refine s_reg [] [0, 3, 4, 5, 6, 27] [(0, [], .slice gl.a 8 gl.c), (3, [], .pointer (some ⟨b3m, 0, none⟩)), (4, [], .int .i64 2), (5, [], .string ⟨⟨[13]⟩⟩), (6, [], .int .i64 1), (27, [], .bool false)] [] H49m (by kernel_rfl) trivial fun _ wd50m H51m hb => ?_
 clear H49m
 replace hS := hS.below hb
 clear hb
 refine w_if H51m rfl (fun hc => by cases hc) (fun _ => ?_)
 refine w_exit rfl ?_
 refine w_reg [] [0, 3, 4] [(0, [], .slice gl.a 8 gl.c), (3, [], .pointer (some ⟨b3m, 0, none⟩)), (4, [], .int .i64 4)] [] H51m (by kernel_rfl) trivial fun _ wd52m H53m hb => ?_
 clear H51m
 replace hS := hS.below hb
 clear hb
 refine lw_round ?_
 refine w_seq ?_
 refine s_reg [] [0, 3, 4, 17] [(0, [], .slice gl.a 8 gl.c), (3, [], .pointer (some ⟨b3m, 0, none⟩)), (4, [], .int .i64 4), (17, [], .bool true)] [] H53m (by kernel_rfl) trivial fun _ wd54m H55m hb => ?_
 clear H53m
 replace hS := hS.below hb
 clear hb
 refine w_if H55m rfl (fun _ => ?_) (fun hc => by cases hc)
 refine w_skip ?_
 refine w_seq ?_
 refine w_block ?_
 refine s_reg [(.string ⟨⟨[12]⟩⟩)] [0, 3, 4, 5] [(0, [], .slice gl.a 8 gl.c), (3, [], .pointer (some ⟨b3m, 0, none⟩)), (4, [], .int .i64 4), (5, [], .string ⟨⟨[12]⟩⟩)] [fun _ => oka gl.a ∧ 0 ≤ (4 : Int) ∧ (4 : Int) < ln lit8, fun wz => V.at1 ⟨ab gl.a, ao gl.a + ((4 : Int)).toNat * 1, none⟩ (.string ⟨⟨[12]⟩⟩) wz] H55m (by kernel_rfl) ⟨((hS.osl 1 rfl).oki (show 0 ≤ (4 : Int) ∧ (4 : Int) < ln lit8 from by decide)), ((hS.osl 1 rfl).at1 (show 0 ≤ (4 : Int) ∧ (4 : Int) < ln lit8 from by decide) 0 rfl), trivial⟩ fun _ wd56m H57m hb => ?_
 clear H55m
 replace hS := hS.below hb
 clear hb
 refine s_reg [] [0, 3, 4, 5, 6] [(0, [], .slice gl.a 8 gl.c), (3, [], .pointer (some ⟨b3m, 0, none⟩)), (4, [], .int .i64 4), (5, [], .string ⟨⟨[12]⟩⟩), (6, [], .int .i64 0)] [] H57m (by kernel_rfl) trivial fun _ wd58m H59m hb => ?_
 clear H57m
 replace hS := hS.below hb
 clear hb
 refine w_block ?_
 refine w_loopU ?_
 refine lw_round ?_
 refine w_seq ?_
 refine s_reg [] [0, 3, 4, 5, 6, 27] [(0, [], .slice gl.a 8 gl.c), (3, [], .pointer (some ⟨b3m, 0, none⟩)), (4, [], .int .i64 4), (5, [], .string ⟨⟨[12]⟩⟩), (6, [], .int .i64 0), (27, [], .bool true)] [] H59m (by kernel_rfl) trivial fun _ wd60m H61m hb => ?_
 clear H59m
 replace hS := hS.below hb
 clear hb
 refine w_if H61m rfl (fun _ => ?_) (fun hc => by cases hc)
 refine w_skip ?_
 refine w_seq ?_
 refine w_block ?_
 refine w_drawS (base := [(0, [], .slice gl.a 8 gl.c), (3, [], .pointer (some ⟨b3m, 0, none⟩)), (4, [], .int .i64 4), (5, [], .string ⟨⟨[12]⟩⟩), (6, [], .int .i64 0)]) (L := [Ent.mix .u8 b3m [.string ⟨⟨[]⟩⟩, .int .i64 0, .string ⟨⟨[]⟩⟩, .pointer none, .slice none 0 0, .int .i64 0] (seti (seti (seti (List.replicate 256 (0 : Int)) (13 : Int) 1) (10 : Int) 1) (13 : Int) 1) (256 : Int), Ent.own 9 tS lit8 gl]) 8 2 (fun yg62m => [.pointer (some ⟨b3m, 0, none⟩), .string ⟨⟨[12]⟩⟩, .int .i64 0, .int .u8 12, .pointer (some ⟨b3m, 0, none⟩), .pointer (some ⟨b3m, 6, none⟩), .pointer (some ⟨b3m, 6 + ((12 : Int)).toNat * 1, none⟩), undef]) (fun yg62m => [[], [], [], [], [], [], [], [Ent.mix .u8 b3m [.string ⟨⟨[]⟩⟩, .int .i64 0, .string ⟨⟨[]⟩⟩, .pointer none, .slice none 0 0, .int .i64 0] (seti (seti (seti (seti (List.replicate 256 (0 : Int)) (13 : Int) 1) (10 : Int) 1) (13 : Int) 1) (12 : Int) 1) (256 : Int)]]) [[8], [], [], [], [8], [8], [8], [8]] [[], [], [], [], [], [], [], [8]] [[0], [1], [2], [1, 2, 3], [0, 4], [0, 4, 5], [0, 1, 2, 3, 4, 5, 6], [0, 1, 2, 3, 4, 5, 6, 7]] [] (FrG.keep (ks := [0, 3, 4, 5, 6]) H61m (by kernel_rfl)) (fun _ _ h => by cases h) (by kernel_rfl) hS (by kernel_rfl) rfl rfl (by kernel_rfl) (by kernel_rfl) (by kernel_rfl) (gd_none (by kernel_rfl) _ _) ?hloc_yg62m ?hstep_yg62m fun _ wd63m yg62m H64m hv hS => ?hK_yg62m
 case hloc_yg62m => exact ⟨(fun _ _ _ _ => ⟨rfl, rfl⟩), (fun _ _ _ _ => ⟨rfl, rfl⟩), (fun _ _ _ _ => ⟨rfl, rfl⟩), (fun _ _ _ _ => ⟨rfl, rfl⟩), (fun _ _ _ _ => ⟨rfl, rfl⟩), (fun _ _ _ _ => ⟨rfl, rfl⟩), (fun _ _ _ _ => ⟨rfl, rfl⟩), (fun _ _ _ _ => ⟨rfl, rfl⟩), trivial⟩
 case hstep_yg62m =>
  refine ⟨?_, ?_, ?_, ?_, ?_, ?_, ?_, ?_, trivial⟩
  ·intro o ho a w yg62m M Hb hv hO hS0
   obtain rfl := Option.some.inj ho
   have H : Fr 117 ([] ++ [(0, [], .slice gl.a 8 gl.c), (3, [], .pointer (some ⟨b3m, 0, none⟩)), (4, [], .int .i64 4), (5, [], .string ⟨⟨[12]⟩⟩), (6, [], .int .i64 0)]) _ := Hb
   obtain ⟨X, hX⟩ : ∃ X, X = fpl [Ent.mix .u8 b3m [.string ⟨⟨[]⟩⟩, .int .i64 0, .string ⟨⟨[]⟩⟩, .pointer none, .slice none 0 0, .int .i64 0] (seti (seti (seti (List.replicate 256 (0 : Int)) (13 : Int) 1) (10 : Int) 1) (13 : Int) 1) (256 : Int)] := ⟨_, rfl⟩
   have hS : SH M X w [Ent.mix .u8 b3m [.string ⟨⟨[]⟩⟩, .int .i64 0, .string ⟨⟨[]⟩⟩, .pointer none, .slice none 0 0, .int .i64 0] (seti (seti (seti (List.replicate 256 (0 : Int)) (13 : Int) 1) (10 : Int) 1) (13 : Int) 1) (256 : Int)] w := by rw [hX]; exact hS0
   refine Stp.mono (o_evs [] (.pointer (some ⟨b3m, 0, none⟩)) none [] H rfl (by kernel_rfl) (fun q e => by cases e)) ?_
   rintro v w2 ⟨rfl, hq⟩
   replace hS : SH M X w [Ent.mix .u8 b3m [.string ⟨⟨[]⟩⟩, .int .i64 0, .string ⟨⟨[]⟩⟩, .pointer none, .slice none 0 0, .int .i64 0] (seti (seti (seti (List.replicate 256 (0 : Int)) (13 : Int) 1) (10 : Int) 1) (13 : Int) 1) (256 : Int)] _ := hS.below hq.below
   rw [hX] at hS
   exact ⟨gL [], fun _ _ => rfl, hS.sel [0] rfl⟩
  ·intro o ho a w yg62m M Hb hv hO hS0
   obtain rfl := Option.some.inj ho
   have H : Fr 117 ([] ++ [(0, [], .slice gl.a 8 gl.c), (3, [], .pointer (some ⟨b3m, 0, none⟩)), (4, [], .int .i64 4), (5, [], .string ⟨⟨[12]⟩⟩), (6, [], .int .i64 0)]) _ := Hb
   obtain ⟨X, hX⟩ : ∃ X, X = fpl [] := ⟨_, rfl⟩
   have hS : SH M X w [] w := by rw [hX]; exact hS0
   refine Stp.mono (o_evs [] (.string ⟨⟨[12]⟩⟩) none [] H rfl (by kernel_rfl) (fun q e => by cases e)) ?_
   rintro v w2 ⟨rfl, hq⟩
   replace hS : SH M X w [] _ := hS.below hq.below
   rw [hX] at hS
   exact ⟨gL [], fun _ _ => rfl, hS.sel [] rfl⟩
  ·intro o ho a w yg62m M Hb hv hO hS0
   obtain rfl := Option.some.inj ho
   have H : Fr 117 ([] ++ [(0, [], .slice gl.a 8 gl.c), (3, [], .pointer (some ⟨b3m, 0, none⟩)), (4, [], .int .i64 4), (5, [], .string ⟨⟨[12]⟩⟩), (6, [], .int .i64 0)]) _ := Hb
   obtain ⟨X, hX⟩ : ∃ X, X = fpl [] := ⟨_, rfl⟩
   have hS : SH M X w [] w := by rw [hX]; exact hS0
   refine Stp.mono (o_evs [] (.int .i64 0) none [] H rfl (by kernel_rfl) (fun q e => by cases e)) ?_
   rintro v w2 ⟨rfl, hq⟩
   replace hS : SH M X w [] _ := hS.below hq.below
   rw [hX] at hS
   exact ⟨gL [], fun _ _ => rfl, hS.sel [] rfl⟩
  ·intro o ho a w yg62m M Hb hv hO hS0
   obtain rfl := Option.some.inj ho
   have H : Fr 117 ([(32, [], .int .i64 0), (31, [], .string ⟨⟨[12]⟩⟩)] ++ [(0, [], .slice gl.a 8 gl.c), (3, [], .pointer (some ⟨b3m, 0, none⟩)), (4, [], .int .i64 4), (5, [], .string ⟨⟨[12]⟩⟩), (6, [], .int .i64 0)]) _ := ((Hb).add (hv 1 (by decide) (by decide) 31 rfl)).add (hv 2 (by decide) (by decide) 32 rfl)
   obtain ⟨X, hX⟩ : ∃ X, X = fpl [] := ⟨_, rfl⟩
   have hS : SH M X w [] w := by rw [hX]; exact hS0
   refine Stp.mono (o_evs [] (.int .u8 12) (some (fun _ => 0 ≤ (0 : Int) ∧ (0 : Int) < ln ([12] : Str))) [] H rfl (by kernel_rfl) (fun q e => by cases e; exact (show 0 ≤ (0 : Int) ∧ (0 : Int) < ln ([12] : Str) from by decide))) ?_
   rintro v w2 ⟨rfl, hq⟩
   replace hS : SH M X w [] _ := hS.below hq.below
   rw [hX] at hS
   exact ⟨gL [], fun _ _ => rfl, hS.sel [] rfl⟩
  ·intro o ho a w yg62m M Hb hv hO hS0
   obtain rfl := Option.some.inj ho
   have H : Fr 117 ([(30, [], .pointer (some ⟨b3m, 0, none⟩))] ++ [(0, [], .slice gl.a 8 gl.c), (3, [], .pointer (some ⟨b3m, 0, none⟩)), (4, [], .int .i64 4), (5, [], .string ⟨⟨[12]⟩⟩), (6, [], .int .i64 0)]) _ := (Hb).add (hv 0 (by decide) (by decide) 30 rfl)
   obtain ⟨X, hX⟩ : ∃ X, X = fpl [Ent.mix .u8 b3m [.string ⟨⟨[]⟩⟩, .int .i64 0, .string ⟨⟨[]⟩⟩, .pointer none, .slice none 0 0, .int .i64 0] (seti (seti (seti (List.replicate 256 (0 : Int)) (13 : Int) 1) (10 : Int) 1) (13 : Int) 1) (256 : Int)] := ⟨_, rfl⟩
   have hS : SH M X w [Ent.mix .u8 b3m [.string ⟨⟨[]⟩⟩, .int .i64 0, .string ⟨⟨[]⟩⟩, .pointer none, .slice none 0 0, .int .i64 0] (seti (seti (seti (List.replicate 256 (0 : Int)) (13 : Int) 1) (10 : Int) 1) (13 : Int) 1) (256 : Int)] w := by rw [hX]; exact hS0
   refine Stp.mono (o_evs [] (.pointer (some ⟨b3m, 0, none⟩)) none [] H rfl (by kernel_rfl) (fun q e => by cases e)) ?_
   rintro v w2 ⟨rfl, hq⟩
   replace hS : SH M X w [Ent.mix .u8 b3m [.string ⟨⟨[]⟩⟩, .int .i64 0, .string ⟨⟨[]⟩⟩, .pointer none, .slice none 0 0, .int .i64 0] (seti (seti (seti (List.replicate 256 (0 : Int)) (13 : Int) 1) (10 : Int) 1) (13 : Int) 1) (256 : Int)] _ := hS.below hq.below
   rw [hX] at hS
   exact ⟨gL [], fun _ _ => rfl, hS.sel [0] rfl⟩
  ·intro o ho a w yg62m M Hb hv hO hS0
   obtain rfl := Option.some.inj ho
   have H : Fr 117 ([(34, [], .pointer (some ⟨b3m, 0, none⟩))] ++ [(0, [], .slice gl.a 8 gl.c), (3, [], .pointer (some ⟨b3m, 0, none⟩)), (4, [], .int .i64 4), (5, [], .string ⟨⟨[12]⟩⟩), (6, [], .int .i64 0)]) _ := (Hb).add (hv 4 (by decide) (by decide) 34 rfl)
   obtain ⟨X, hX⟩ : ∃ X, X = fpl [Ent.mix .u8 b3m [.string ⟨⟨[]⟩⟩, .int .i64 0, .string ⟨⟨[]⟩⟩, .pointer none, .slice none 0 0, .int .i64 0] (seti (seti (seti (List.replicate 256 (0 : Int)) (13 : Int) 1) (10 : Int) 1) (13 : Int) 1) (256 : Int)] := ⟨_, rfl⟩
   have hS : SH M X w [Ent.mix .u8 b3m [.string ⟨⟨[]⟩⟩, .int .i64 0, .string ⟨⟨[]⟩⟩, .pointer none, .slice none 0 0, .int .i64 0] (seti (seti (seti (List.replicate 256 (0 : Int)) (13 : Int) 1) (10 : Int) 1) (13 : Int) 1) (256 : Int)] w := by rw [hX]; exact hS0
   refine Stp.mono (o_evs [] (.pointer (some ⟨b3m, 6, none⟩)) none [] H rfl (by kernel_rfl) (fun q e => by cases e)) ?_
   rintro v w2 ⟨rfl, hq⟩
   replace hS : SH M X w [Ent.mix .u8 b3m [.string ⟨⟨[]⟩⟩, .int .i64 0, .string ⟨⟨[]⟩⟩, .pointer none, .slice none 0 0, .int .i64 0] (seti (seti (seti (List.replicate 256 (0 : Int)) (13 : Int) 1) (10 : Int) 1) (13 : Int) 1) (256 : Int)] _ := hS.below hq.below
   rw [hX] at hS
   exact ⟨gL [], fun _ _ => rfl, hS.sel [0] rfl⟩
  ·intro o ho a w yg62m M Hb hv hO hS0
   obtain rfl := Option.some.inj ho
   have H : Fr 117 ([(35, [], .pointer (some ⟨b3m, 6, none⟩)), (33, [], .int .u8 12)] ++ [(0, [], .slice gl.a 8 gl.c), (3, [], .pointer (some ⟨b3m, 0, none⟩)), (4, [], .int .i64 4), (5, [], .string ⟨⟨[12]⟩⟩), (6, [], .int .i64 0)]) _ := ((Hb).add (hv 3 (by decide) (by decide) 33 rfl)).add (hv 5 (by decide) (by decide) 35 rfl)
   obtain ⟨X, hX⟩ : ∃ X, X = fpl [Ent.mix .u8 b3m [.string ⟨⟨[]⟩⟩, .int .i64 0, .string ⟨⟨[]⟩⟩, .pointer none, .slice none 0 0, .int .i64 0] (seti (seti (seti (List.replicate 256 (0 : Int)) (13 : Int) 1) (10 : Int) 1) (13 : Int) 1) (256 : Int)] := ⟨_, rfl⟩
   have hS : SH M X w [Ent.mix .u8 b3m [.string ⟨⟨[]⟩⟩, .int .i64 0, .string ⟨⟨[]⟩⟩, .pointer none, .slice none 0 0, .int .i64 0] (seti (seti (seti (List.replicate 256 (0 : Int)) (13 : Int) 1) (10 : Int) 1) (13 : Int) 1) (256 : Int)] w := by rw [hX]; exact hS0
   refine Stp.mono (o_evs [] (.pointer (some ⟨b3m, 6 + ((12 : Int)).toNat * 1, none⟩)) (some (fun _ => 0 ≤ (12 : Int) ∧ (12 : Int) < (256 : Int))) [] H rfl (by kernel_rfl) (fun q e => by cases e; exact (show 0 ≤ (12 : Int) ∧ (12 : Int) < (256 : Int) from by decide))) ?_
   rintro v w2 ⟨rfl, hq⟩
   replace hS : SH M X w [Ent.mix .u8 b3m [.string ⟨⟨[]⟩⟩, .int .i64 0, .string ⟨⟨[]⟩⟩, .pointer none, .slice none 0 0, .int .i64 0] (seti (seti (seti (List.replicate 256 (0 : Int)) (13 : Int) 1) (10 : Int) 1) (13 : Int) 1) (256 : Int)] _ := hS.below hq.below
   rw [hX] at hS
   exact ⟨gL [], fun _ _ => rfl, hS.sel [0] rfl⟩
  ·intro o ho a w yg62m M Hb hv hO hS0
   obtain rfl := Option.some.inj ho
   have H : Fr 117 ([(36, [], .pointer (some ⟨b3m, 6 + ((12 : Int)).toNat * 1, none⟩))] ++ [(0, [], .slice gl.a 8 gl.c), (3, [], .pointer (some ⟨b3m, 0, none⟩)), (4, [], .int .i64 4), (5, [], .string ⟨⟨[12]⟩⟩), (6, [], .int .i64 0)]) _ := (Hb).add (hv 6 (by decide) (by decide) 36 rfl)
   obtain ⟨X, hX⟩ : ∃ X, X = fpl [Ent.mix .u8 b3m [.string ⟨⟨[]⟩⟩, .int .i64 0, .string ⟨⟨[]⟩⟩, .pointer none, .slice none 0 0, .int .i64 0] (seti (seti (seti (List.replicate 256 (0 : Int)) (13 : Int) 1) (10 : Int) 1) (13 : Int) 1) (256 : Int)] := ⟨_, rfl⟩
   have hS : SH M X w [Ent.mix .u8 b3m [.string ⟨⟨[]⟩⟩, .int .i64 0, .string ⟨⟨[]⟩⟩, .pointer none, .slice none 0 0, .int .i64 0] (seti (seti (seti (List.replicate 256 (0 : Int)) (13 : Int) 1) (10 : Int) 1) (13 : Int) 1) (256 : Int)] w := by rw [hX]; exact hS0
   have hd := hS.hand [0] [] rfl rfl
   refine Stp.mono (o_mrstore H hd rfl rfl (by kernel_rfl) rfl (show 0 ≤ (12 : Int) ∧ (12 : Int) < (256 : Int) from by decide)) ?_
   rintro v w2 hq
   replace hS : SH M X w [Ent.mix .u8 b3m [.string ⟨⟨[]⟩⟩, .int .i64 0, .string ⟨⟨[]⟩⟩, .pointer none, .slice none 0 0, .int .i64 0] (seti (seti (seti (seti (List.replicate 256 (0 : Int)) (13 : Int) 1) (10 : Int) 1) (13 : Int) 1) (12 : Int) 1) (256 : Int)] _ := hS.join [0] [] rfl rfl hq
   clear hq
   rw [hX] at hS
   exact ⟨gL [], (fun _ h => by cases h), hS.sel [0] rfl⟩
 have H65m : Fr 117 [(0, [], .slice gl.a 8 gl.c), (3, [], .pointer (some ⟨b3m, 0, none⟩)), (4, [], .int .i64 4), (5, [], .string ⟨⟨[12]⟩⟩), (6, [], .int .i64 0)] _ := (FrG.keep (ks := [0, 3, 4, 5, 6]) H64m (by kernel_rfl))
 replace hS : SH M X w [Ent.mix .u8 b3m [.string ⟨⟨[]⟩⟩, .int .i64 0, .string ⟨⟨[]⟩⟩, .pointer none, .slice none 0 0, .int .i64 0] (seti (seti (seti (seti (List.replicate 256 (0 : Int)) (13 : Int) 1) (10 : Int) 1) (13 : Int) 1) (12 : Int) 1) (256 : Int), Ent.own 9 tS lit8 gl] _ := hS
 clear hv H64m
 refine w_reg [] [0, 3, 4, 5, 6] [(0, [], .slice gl.a 8 gl.c), (3, [], .pointer (some ⟨b3m, 0, none⟩)), (4, [], .int .i64 4), (5, [], .string ⟨⟨[12]⟩⟩), (6, [], .int .i64 1)] [] H65m (by kernel_rfl) trivial fun _ wd66m H67m hb => ?_
 clear H65m
 replace hS := hS.below hb
 clear hb
 refine lw_round ?_
 refine w_seq ?_
 refine s_reg [] [0, 3, 4, 5, 6, 27] [(0, [], .slice gl.a 8 gl.c), (3, [], .pointer (some ⟨b3m, 0, none⟩)), (4, [], .int .i64 4), (5, [], .string ⟨⟨[12]⟩⟩), (6, [], .int .i64 1), (27, [], .bool false)] [] H67m (by kernel_rfl) trivial fun _ wd68m H69m hb => ?_
 clear H67m
 replace hS := hS.below hb
 clear hb
 refine w_if H69m rfl (fun hc => by cases hc) (fun _ => ?_)
 refine w_exit rfl ?_
 refine w_reg [] [0, 3, 4] [(0, [], .slice gl.a 8 gl.c), (3, [], .pointer (some ⟨b3m, 0, none⟩)), (4, [], .int .i64 6)] [] H69m (by kernel_rfl) trivial fun _ wd70m H71m hb => ?_
 clear H69m
 replace hS := hS.below hb
 clear hb
 refine lw_round ?_
 refine w_seq ?_
 refine s_reg [] [0, 3, 4, 17] [(0, [], .slice gl.a 8 gl.c), (3, [], .pointer (some ⟨b3m, 0, none⟩)), (4, [], .int .i64 6), (17, [], .bool true)] [] H71m (by kernel_rfl) trivial fun _ wd72m H73m hb => ?_
 clear H71m
 replace hS := hS.below hb
 clear hb
 refine w_if H73m rfl (fun _ => ?_) (fun hc => by cases hc)
 refine w_skip ?_
 refine w_seq ?_
 refine w_block ?_
 refine s_reg [(.string ⟨⟨[0]⟩⟩)] [0, 3, 4, 5] [(0, [], .slice gl.a 8 gl.c), (3, [], .pointer (some ⟨b3m, 0, none⟩)), (4, [], .int .i64 6), (5, [], .string ⟨⟨[0]⟩⟩)] [fun _ => oka gl.a ∧ 0 ≤ (6 : Int) ∧ (6 : Int) < ln lit8, fun wz => V.at1 ⟨ab gl.a, ao gl.a + ((6 : Int)).toNat * 1, none⟩ (.string ⟨⟨[0]⟩⟩) wz] H73m (by kernel_rfl) ⟨((hS.osl 1 rfl).oki (show 0 ≤ (6 : Int) ∧ (6 : Int) < ln lit8 from by decide)), ((hS.osl 1 rfl).at1 (show 0 ≤ (6 : Int) ∧ (6 : Int) < ln lit8 from by decide) 0 rfl), trivial⟩ fun _ wd74m H75m hb => ?_
 clear H73m
 replace hS := hS.below hb
 clear hb
 refine s_reg [] [0, 3, 4, 5, 6] [(0, [], .slice gl.a 8 gl.c), (3, [], .pointer (some ⟨b3m, 0, none⟩)), (4, [], .int .i64 6), (5, [], .string ⟨⟨[0]⟩⟩), (6, [], .int .i64 0)] [] H75m (by kernel_rfl) trivial fun _ wd76m H77m hb => ?_
 clear H75m
 replace hS := hS.below hb
 clear hb
 refine w_block ?_
 refine w_loopU ?_
 refine lw_round ?_
 refine w_seq ?_
 refine s_reg [] [0, 3, 4, 5, 6, 27] [(0, [], .slice gl.a 8 gl.c), (3, [], .pointer (some ⟨b3m, 0, none⟩)), (4, [], .int .i64 6), (5, [], .string ⟨⟨[0]⟩⟩), (6, [], .int .i64 0), (27, [], .bool true)] [] H77m (by kernel_rfl) trivial fun _ wd78m H79m hb => ?_
 clear H77m
 replace hS := hS.below hb
 clear hb
 refine w_if H79m rfl (fun _ => ?_) (fun hc => by cases hc)
 refine w_skip ?_
 refine w_seq ?_
 refine w_block ?_
 refine w_drawS (base := [(0, [], .slice gl.a 8 gl.c), (3, [], .pointer (some ⟨b3m, 0, none⟩)), (4, [], .int .i64 6), (5, [], .string ⟨⟨[0]⟩⟩), (6, [], .int .i64 0)]) (L := [Ent.mix .u8 b3m [.string ⟨⟨[]⟩⟩, .int .i64 0, .string ⟨⟨[]⟩⟩, .pointer none, .slice none 0 0, .int .i64 0] (seti (seti (seti (seti (List.replicate 256 (0 : Int)) (13 : Int) 1) (10 : Int) 1) (13 : Int) 1) (12 : Int) 1) (256 : Int), Ent.own 9 tS lit8 gl]) 8 2 (fun yg80m => [.pointer (some ⟨b3m, 0, none⟩), .string ⟨⟨[0]⟩⟩, .int .i64 0, .int .u8 0, .pointer (some ⟨b3m, 0, none⟩), .pointer (some ⟨b3m, 6, none⟩), .pointer (some ⟨b3m, 6 + ((0 : Int)).toNat * 1, none⟩), undef]) (fun yg80m => [[], [], [], [], [], [], [], [Ent.mix .u8 b3m [.string ⟨⟨[]⟩⟩, .int .i64 0, .string ⟨⟨[]⟩⟩, .pointer none, .slice none 0 0, .int .i64 0] (seti (seti (seti (seti (seti (List.replicate 256 (0 : Int)) (13 : Int) 1) (10 : Int) 1) (13 : Int) 1) (12 : Int) 1) (0 : Int) 1) (256 : Int)]]) [[8], [], [], [], [8], [8], [8], [8]] [[], [], [], [], [], [], [], [8]] [[0], [1], [2], [1, 2, 3], [0, 4], [0, 4, 5], [0, 1, 2, 3, 4, 5, 6], [0, 1, 2, 3, 4, 5, 6, 7]] [] (FrG.keep (ks := [0, 3, 4, 5, 6]) H79m (by kernel_rfl)) (fun _ _ h => by cases h) (by kernel_rfl) hS (by kernel_rfl) rfl rfl (by kernel_rfl) (by kernel_rfl) (by kernel_rfl) (gd_none (by kernel_rfl) _ _) ?hloc_yg80m ?hstep_yg80m fun _ wd81m yg80m H82m hv hS => ?hK_yg80m
 case hloc_yg80m => exact ⟨(fun _ _ _ _ => ⟨rfl, rfl⟩), (fun _ _ _ _ => ⟨rfl, rfl⟩), (fun _ _ _ _ => ⟨rfl, rfl⟩), (fun _ _ _ _ => ⟨rfl, rfl⟩), (fun _ _ _ _ => ⟨rfl, rfl⟩), (fun _ _ _ _ => ⟨rfl, rfl⟩), (fun _ _ _ _ => ⟨rfl, rfl⟩), (fun _ _ _ _ => ⟨rfl, rfl⟩), trivial⟩
 case hstep_yg80m =>
  refine ⟨?_, ?_, ?_, ?_, ?_, ?_, ?_, ?_, trivial⟩
  ·intro o ho a w yg80m M Hb hv hO hS0
   obtain rfl := Option.some.inj ho
   have H : Fr 117 ([] ++ [(0, [], .slice gl.a 8 gl.c), (3, [], .pointer (some ⟨b3m, 0, none⟩)), (4, [], .int .i64 6), (5, [], .string ⟨⟨[0]⟩⟩), (6, [], .int .i64 0)]) _ := Hb
   obtain ⟨X, hX⟩ : ∃ X, X = fpl [Ent.mix .u8 b3m [.string ⟨⟨[]⟩⟩, .int .i64 0, .string ⟨⟨[]⟩⟩, .pointer none, .slice none 0 0, .int .i64 0] (seti (seti (seti (seti (List.replicate 256 (0 : Int)) (13 : Int) 1) (10 : Int) 1) (13 : Int) 1) (12 : Int) 1) (256 : Int)] := ⟨_, rfl⟩
   have hS : SH M X w [Ent.mix .u8 b3m [.string ⟨⟨[]⟩⟩, .int .i64 0, .string ⟨⟨[]⟩⟩, .pointer none, .slice none 0 0, .int .i64 0] (seti (seti (seti (seti (List.replicate 256 (0 : Int)) (13 : Int) 1) (10 : Int) 1) (13 : Int) 1) (12 : Int) 1) (256 : Int)] w := by rw [hX]; exact hS0
   refine Stp.mono (o_evs [] (.pointer (some ⟨b3m, 0, none⟩)) none [] H rfl (by kernel_rfl) (fun q e => by cases e)) ?_
   rintro v w2 ⟨rfl, hq⟩
   replace hS : SH M X w [Ent.mix .u8 b3m [.string ⟨⟨[]⟩⟩, .int .i64 0, .string ⟨⟨[]⟩⟩, .pointer none, .slice none 0 0, .int .i64 0] (seti (seti (seti (seti (List.replicate 256 (0 : Int)) (13 : Int) 1) (10 : Int) 1) (13 : Int) 1) (12 : Int) 1) (256 : Int)] _ := hS.below hq.below
   rw [hX] at hS
   exact ⟨gL [], fun _ _ => rfl, hS.sel [0] rfl⟩
  ·intro o ho a w yg80m M Hb hv hO hS0
   obtain rfl := Option.some.inj ho
   have H : Fr 117 ([] ++ [(0, [], .slice gl.a 8 gl.c), (3, [], .pointer (some ⟨b3m, 0, none⟩)), (4, [], .int .i64 6), (5, [], .string ⟨⟨[0]⟩⟩), (6, [], .int .i64 0)]) _ := Hb
   obtain ⟨X, hX⟩ : ∃ X, X = fpl [] := ⟨_, rfl⟩
   have hS : SH M X w [] w := by rw [hX]; exact hS0
   refine Stp.mono (o_evs [] (.string ⟨⟨[0]⟩⟩) none [] H rfl (by kernel_rfl) (fun q e => by cases e)) ?_
   rintro v w2 ⟨rfl, hq⟩
   replace hS : SH M X w [] _ := hS.below hq.below
   rw [hX] at hS
   exact ⟨gL [], fun _ _ => rfl, hS.sel [] rfl⟩
  ·intro o ho a w yg80m M Hb hv hO hS0
   obtain rfl := Option.some.inj ho
   have H : Fr 117 ([] ++ [(0, [], .slice gl.a 8 gl.c), (3, [], .pointer (some ⟨b3m, 0, none⟩)), (4, [], .int .i64 6), (5, [], .string ⟨⟨[0]⟩⟩), (6, [], .int .i64 0)]) _ := Hb
   obtain ⟨X, hX⟩ : ∃ X, X = fpl [] := ⟨_, rfl⟩
   have hS : SH M X w [] w := by rw [hX]; exact hS0
   refine Stp.mono (o_evs [] (.int .i64 0) none [] H rfl (by kernel_rfl) (fun q e => by cases e)) ?_
   rintro v w2 ⟨rfl, hq⟩
   replace hS : SH M X w [] _ := hS.below hq.below
   rw [hX] at hS
   exact ⟨gL [], fun _ _ => rfl, hS.sel [] rfl⟩
  ·intro o ho a w yg80m M Hb hv hO hS0
   obtain rfl := Option.some.inj ho
   have H : Fr 117 ([(32, [], .int .i64 0), (31, [], .string ⟨⟨[0]⟩⟩)] ++ [(0, [], .slice gl.a 8 gl.c), (3, [], .pointer (some ⟨b3m, 0, none⟩)), (4, [], .int .i64 6), (5, [], .string ⟨⟨[0]⟩⟩), (6, [], .int .i64 0)]) _ := ((Hb).add (hv 1 (by decide) (by decide) 31 rfl)).add (hv 2 (by decide) (by decide) 32 rfl)
   obtain ⟨X, hX⟩ : ∃ X, X = fpl [] := ⟨_, rfl⟩
   have hS : SH M X w [] w := by rw [hX]; exact hS0
   refine Stp.mono (o_evs [] (.int .u8 0) (some (fun _ => 0 ≤ (0 : Int) ∧ (0 : Int) < ln ([0] : Str))) [] H rfl (by kernel_rfl) (fun q e => by cases e; exact (show 0 ≤ (0 : Int) ∧ (0 : Int) < ln ([0] : Str) from by decide))) ?_
   rintro v w2 ⟨rfl, hq⟩
   replace hS : SH M X w [] _ := hS.below hq.below
   rw [hX] at hS
   exact ⟨gL [], fun _ _ => rfl, hS.sel [] rfl⟩
  ·intro o ho a w yg80m M Hb hv hO hS0
   obtain rfl := Option.some.inj ho
   have H : Fr 117 ([(30, [], .pointer (some ⟨b3m, 0, none⟩))] ++ [(0, [], .slice gl.a 8 gl.c), (3, [], .pointer (some ⟨b3m, 0, none⟩)), (4, [], .int .i64 6), (5, [], .string ⟨⟨[0]⟩⟩), (6, [], .int .i64 0)]) _ := (Hb).add (hv 0 (by decide) (by decide) 30 rfl)
   obtain ⟨X, hX⟩ : ∃ X, X = fpl [Ent.mix .u8 b3m [.string ⟨⟨[]⟩⟩, .int .i64 0, .string ⟨⟨[]⟩⟩, .pointer none, .slice none 0 0, .int .i64 0] (seti (seti (seti (seti (List.replicate 256 (0 : Int)) (13 : Int) 1) (10 : Int) 1) (13 : Int) 1) (12 : Int) 1) (256 : Int)] := ⟨_, rfl⟩
   have hS : SH M X w [Ent.mix .u8 b3m [.string ⟨⟨[]⟩⟩, .int .i64 0, .string ⟨⟨[]⟩⟩, .pointer none, .slice none 0 0, .int .i64 0] (seti (seti (seti (seti (List.replicate 256 (0 : Int)) (13 : Int) 1) (10 : Int) 1) (13 : Int) 1) (12 : Int) 1) (256 : Int)] w := by rw [hX]; exact hS0
   refine Stp.mono (o_evs [] (.pointer (some ⟨b3m, 0, none⟩)) none [] H rfl (by kernel_rfl) (fun q e => by cases e)) ?_
   rintro v w2 ⟨rfl, hq⟩
   replace hS : SH M X w [Ent.mix .u8 b3m [.string ⟨⟨[]⟩⟩, .int .i64 0, .string ⟨⟨[]⟩⟩, .pointer none, .slice none 0 0, .int .i64 0] (seti (seti (seti (seti (List.replicate 256 (0 : Int)) (13 : Int) 1) (10 : Int) 1) (13 : Int) 1) (12 : Int) 1) (256 : Int)] _ := hS.below hq.below
   rw [hX] at hS
   exact ⟨gL [], fun _ _ => rfl, hS.sel [0] rfl⟩
  ·intro o ho a w yg80m M Hb hv hO hS0
   obtain rfl := Option.some.inj ho
   have H : Fr 117 ([(34, [], .pointer (some ⟨b3m, 0, none⟩))] ++ [(0, [], .slice gl.a 8 gl.c), (3, [], .pointer (some ⟨b3m, 0, none⟩)), (4, [], .int .i64 6), (5, [], .string ⟨⟨[0]⟩⟩), (6, [], .int .i64 0)]) _ := (Hb).add (hv 4 (by decide) (by decide) 34 rfl)
   obtain ⟨X, hX⟩ : ∃ X, X = fpl [Ent.mix .u8 b3m [.string ⟨⟨[]⟩⟩, .int .i64 0, .string ⟨⟨[]⟩⟩, .pointer none, .slice none 0 0, .int .i64 0] (seti (seti (seti (seti (List.replicate 256 (0 : Int)) (13 : Int) 1) (10 : Int) 1) (13 : Int) 1) (12 : Int) 1) (256 : Int)] := ⟨_, rfl⟩
   have hS : SH M X w [Ent.mix .u8 b3m [.string ⟨⟨[]⟩⟩, .int .i64 0, .string ⟨⟨[]⟩⟩, .pointer none, .slice none 0 0, .int .i64 0] (seti (seti (seti (seti (List.replicate 256 (0 : Int)) (13 : Int) 1) (10 : Int) 1) (13 : Int) 1) (12 : Int) 1) (256 : Int)] w := by rw [hX]; exact hS0
   refine Stp.mono (o_evs [] (.pointer (some ⟨b3m, 6, none⟩)) none [] H rfl (by kernel_rfl) (fun q e => by cases e)) ?_
   rintro v w2 ⟨rfl, hq⟩
   replace hS : SH M X w [Ent.mix .u8 b3m [.string ⟨⟨[]⟩⟩, .int .i64 0, .string ⟨⟨[]⟩⟩, .pointer none, .slice none 0 0, .int .i64 0] (seti (seti (seti (seti (List.replicate 256 (0 : Int)) (13 : Int) 1) (10 : Int) 1) (13 : Int) 1) (12 : Int) 1) (256 : Int)] _ := hS.below hq.below
   rw [hX] at hS
   exact ⟨gL [], fun _ _ => rfl, hS.sel [0] rfl⟩
  ·intro o ho a w yg80m M Hb hv hO hS0
   obtain rfl := Option.some.inj ho
   have H : Fr 117 ([(35, [], .pointer (some ⟨b3m, 6, none⟩)), (33, [], .int .u8 0)] ++ [(0, [], .slice gl.a 8 gl.c), (3, [], .pointer (some ⟨b3m, 0, none⟩)), (4, [], .int .i64 6), (5, [], .string ⟨⟨[0]⟩⟩), (6, [], .int .i64 0)]) _ := ((Hb).add (hv 3 (by decide) (by decide) 33 rfl)).add (hv 5 (by decide) (by decide) 35 rfl)
   obtain ⟨X, hX⟩ : ∃ X, X = fpl [Ent.mix .u8 b3m [.string ⟨⟨[]⟩⟩, .int .i64 0, .string ⟨⟨[]⟩⟩, .pointer none, .slice none 0 0, .int .i64 0] (seti (seti (seti (seti (List.replicate 256 (0 : Int)) (13 : Int) 1) (10 : Int) 1) (13 : Int) 1) (12 : Int) 1) (256 : Int)] := ⟨_, rfl⟩
   have hS : SH M X w [Ent.mix .u8 b3m [.string ⟨⟨[]⟩⟩, .int .i64 0, .string ⟨⟨[]⟩⟩, .pointer none, .slice none 0 0, .int .i64 0] (seti (seti (seti (seti (List.replicate 256 (0 : Int)) (13 : Int) 1) (10 : Int) 1) (13 : Int) 1) (12 : Int) 1) (256 : Int)] w := by rw [hX]; exact hS0
   refine Stp.mono (o_evs [] (.pointer (some ⟨b3m, 6 + ((0 : Int)).toNat * 1, none⟩)) (some (fun _ => 0 ≤ (0 : Int) ∧ (0 : Int) < (256 : Int))) [] H rfl (by kernel_rfl) (fun q e => by cases e; exact (show 0 ≤ (0 : Int) ∧ (0 : Int) < (256 : Int) from by decide))) ?_
   rintro v w2 ⟨rfl, hq⟩
   replace hS : SH M X w [Ent.mix .u8 b3m [.string ⟨⟨[]⟩⟩, .int .i64 0, .string ⟨⟨[]⟩⟩, .pointer none, .slice none 0 0, .int .i64 0] (seti (seti (seti (seti (List.replicate 256 (0 : Int)) (13 : Int) 1) (10 : Int) 1) (13 : Int) 1) (12 : Int) 1) (256 : Int)] _ := hS.below hq.below
   rw [hX] at hS
   exact ⟨gL [], fun _ _ => rfl, hS.sel [0] rfl⟩
  ·intro o ho a w yg80m M Hb hv hO hS0
   obtain rfl := Option.some.inj ho
   have H : Fr 117 ([(36, [], .pointer (some ⟨b3m, 6 + ((0 : Int)).toNat * 1, none⟩))] ++ [(0, [], .slice gl.a 8 gl.c), (3, [], .pointer (some ⟨b3m, 0, none⟩)), (4, [], .int .i64 6), (5, [], .string ⟨⟨[0]⟩⟩), (6, [], .int .i64 0)]) _ := (Hb).add (hv 6 (by decide) (by decide) 36 rfl)
   obtain ⟨X, hX⟩ : ∃ X, X = fpl [Ent.mix .u8 b3m [.string ⟨⟨[]⟩⟩, .int .i64 0, .string ⟨⟨[]⟩⟩, .pointer none, .slice none 0 0, .int .i64 0] (seti (seti (seti (seti (List.replicate 256 (0 : Int)) (13 : Int) 1) (10 : Int) 1) (13 : Int) 1) (12 : Int) 1) (256 : Int)] := ⟨_, rfl⟩
   have hS : SH M X w [Ent.mix .u8 b3m [.string ⟨⟨[]⟩⟩, .int .i64 0, .string ⟨⟨[]⟩⟩, .pointer none, .slice none 0 0, .int .i64 0] (seti (seti (seti (seti (List.replicate 256 (0 : Int)) (13 : Int) 1) (10 : Int) 1) (13 : Int) 1) (12 : Int) 1) (256 : Int)] w := by rw [hX]; exact hS0
   have hd := hS.hand [0] [] rfl rfl
   refine Stp.mono (o_mrstore H hd rfl rfl (by kernel_rfl) rfl (show 0 ≤ (0 : Int) ∧ (0 : Int) < (256 : Int) from by decide)) ?_
   rintro v w2 hq
   replace hS : SH M X w [Ent.mix .u8 b3m [.string ⟨⟨[]⟩⟩, .int .i64 0, .string ⟨⟨[]⟩⟩, .pointer none, .slice none 0 0, .int .i64 0] (seti (seti (seti (seti (seti (List.replicate 256 (0 : Int)) (13 : Int) 1) (10 : Int) 1) (13 : Int) 1) (12 : Int) 1) (0 : Int) 1) (256 : Int)] _ := hS.join [0] [] rfl rfl hq
   clear hq
   rw [hX] at hS
   exact ⟨gL [], (fun _ h => by cases h), hS.sel [0] rfl⟩
 have H83m : Fr 117 [(0, [], .slice gl.a 8 gl.c), (3, [], .pointer (some ⟨b3m, 0, none⟩)), (4, [], .int .i64 6), (5, [], .string ⟨⟨[0]⟩⟩), (6, [], .int .i64 0)] _ := (FrG.keep (ks := [0, 3, 4, 5, 6]) H82m (by kernel_rfl))
 replace hS : SH M X w [Ent.mix .u8 b3m [.string ⟨⟨[]⟩⟩, .int .i64 0, .string ⟨⟨[]⟩⟩, .pointer none, .slice none 0 0, .int .i64 0] (seti (seti (seti (seti (seti (List.replicate 256 (0 : Int)) (13 : Int) 1) (10 : Int) 1) (13 : Int) 1) (12 : Int) 1) (0 : Int) 1) (256 : Int), Ent.own 9 tS lit8 gl] _ := hS
 clear hv H82m
 refine w_reg [] [0, 3, 4, 5, 6] [(0, [], .slice gl.a 8 gl.c), (3, [], .pointer (some ⟨b3m, 0, none⟩)), (4, [], .int .i64 6), (5, [], .string ⟨⟨[0]⟩⟩), (6, [], .int .i64 1)] [] H83m (by kernel_rfl) trivial fun _ wd84m H85m hb => ?_
 clear H83m
 replace hS := hS.below hb
 clear hb
 refine lw_round ?_
 refine w_seq ?_
 refine s_reg [] [0, 3, 4, 5, 6, 27] [(0, [], .slice gl.a 8 gl.c), (3, [], .pointer (some ⟨b3m, 0, none⟩)), (4, [], .int .i64 6), (5, [], .string ⟨⟨[0]⟩⟩), (6, [], .int .i64 1), (27, [], .bool false)] [] H85m (by kernel_rfl) trivial fun _ wd86m H87m hb => ?_
 clear H85m
 replace hS := hS.below hb
 clear hb
 refine w_if H87m rfl (fun hc => by cases hc) (fun _ => ?_)
 refine w_exit rfl ?_
 refine w_reg [] [0, 3, 4] [(0, [], .slice gl.a 8 gl.c), (3, [], .pointer (some ⟨b3m, 0, none⟩)), (4, [], .int .i64 8)] [] H87m (by kernel_rfl) trivial fun _ wd88m H89m hb => ?_
 clear H87m
 replace hS := hS.below hb
 clear hb
 refine lw_round ?_
 refine w_seq ?_
 refine s_reg [] [0, 3, 4, 17] [(0, [], .slice gl.a 8 gl.c), (3, [], .pointer (some ⟨b3m, 0, none⟩)), (4, [], .int .i64 8), (17, [], .bool false)] [] H89m (by kernel_rfl) trivial fun _ wd90m H91m hb => ?_
 clear H89m
 replace hS := hS.below hb
 clear hb
 refine w_if H91m rfl (fun hc => by cases hc) (fun _ => ?_)
 refine w_exit rfl ?_
 refine w_seq ?_
 refine s_reg [(.agg ⟨gis .u8 (seti (seti (seti (seti (seti (List.replicate 256 (0 : Int)) (13 : Int) 1) (10 : Int) 1) (13 : Int) 1) (12 : Int) 1) (0 : Int) 1) 256⟩)] [0, 3, 40, 41] [(0, [], .slice gl.a 8 gl.c), (3, [], .pointer (some ⟨b3m, 0, none⟩)), (40, [], .agg ⟨gis .u8 (seti (seti (seti (seti (seti (List.replicate 256 (0 : Int)) (13 : Int) 1) (10 : Int) 1) (13 : Int) 1) (12 : Int) 1) (0 : Int) 1) 256⟩), (41, [], .int .i64 0)] [fun wz => V.atN b3m 6 (gis .u8 (seti (seti (seti (seti (seti (List.replicate 256 (0 : Int)) (13 : Int) 1) (10 : Int) 1) (13 : Int) 1) (12 : Int) 1) (0 : Int) 1) 256) 0 wz] H91m (by kernel_rfl) ⟨(Mix.atG (hS.mix 0 rfl) rfl rfl), trivial⟩ fun _ wd92m H93m hb => ?_
 clear H91m
 replace hS := hS.below hb
 clear hb
 have hz : (strings_makeGenericReplacer_cs_L1 300  300 0 0) = some (4) := by kernel_rfl
 refine w_then (fun a' w' => Fr 117 [(0, [], .slice gl.a 8 gl.c), (3, [], .pointer (some ⟨b3m, 0, none⟩))] a' ∧ SH M X w [Ent.mix .u8 b3m [.string ⟨⟨[]⟩⟩, .int .i64 0, .string ⟨⟨[]⟩⟩, .pointer none, .slice none 0 0, .int .i64 4] (seti (seti (seti (seti (seti (List.replicate 256 (0 : Int)) (13 : Int) 1) (10 : Int) 1) (13 : Int) 1) (12 : Int) 1) (0 : Int) 1) (256 : Int), Ent.own 9 tS lit8 gl] w') ?_ ?_
 ·have hm := hz
  clear hz
  refine w_block ?_
  refine w_loop (fun kk a' w' => ∃ (v95m : Int) (v96m : Int), strings_makeGenericReplacer_cs_L1 300  kk v95m v96m = some _ ∧ Fr 117 [(0, [], .slice gl.a 8 gl.c), (3, [], .pointer (some ⟨b3m, 0, none⟩)), (40, [], .agg ⟨gis .u8 (seti (seti (seti (seti (seti (List.replicate 256 (0 : Int)) (13 : Int) 1) (10 : Int) 1) (13 : Int) 1) (12 : Int) 1) (0 : Int) 1) 256⟩), (41, [], .int .i64 v95m)] a' ∧ SH M X w [Ent.mix .u8 b3m [.string ⟨⟨[]⟩⟩, .int .i64 0, .string ⟨⟨[]⟩⟩, .pointer none, .slice none 0 0, .int .i64 v96m] (seti (seti (seti (seti (seti (List.replicate 256 (0 : Int)) (13 : Int) 1) (10 : Int) 1) (13 : Int) 1) (12 : Int) 1) (0 : Int) 1) (256 : Int), Ent.own 9 tS lit8 gl] w') ⟨_, 0, 0, hm, FrG.keep (ks := [0, 3, 40, 41]) H93m (by kernel_rfl), hS⟩ ?_
  clear hm H93m hS
  rintro kk _ wd109m ⟨v95m, v96m, hm, H, hS⟩
  cases kk with
  | zero => exact noneE hm
  | succ kk =>
   rw [strings_makeGenericReplacer_cs_L1] at hm
   refine s_reg [] [0, 3, 40, 41, 42] [(0, [], .slice gl.a 8 gl.c), (3, [], .pointer (some ⟨b3m, 0, none⟩)), (40, [], .agg ⟨gis .u8 (seti (seti (seti (seti (seti (List.replicate 256 (0 : Int)) (13 : Int) 1) (10 : Int) 1) (13 : Int) 1) (12 : Int) 1) (0 : Int) 1) 256⟩), (41, [], .int .i64 v95m), (42, [], .bool (decide (v95m < 256)))] [] H (by kernel_rfl) trivial fun _ wd97m H98m hb => ?_
   clear H
   replace hS := hS.below hb
   clear hb
   refine w_seq ?_
   refine w_if H98m rfl (fun hc => ?_) (fun hc => ?c108m)
   case c108m =>
    replace hm := bF hc hm
    refine w_exit rfl ?_
    obtain rfl := someE hm
    exact ⟨FrG.keep (ks := [0, 3]) H98m (by kernel_rfl), hS⟩
   replace hm := bT hc hm
   refine w_skip ?_
   refine w_seq ?_
   refine w_block ?_
   obtain ⟨ho99m, hm⟩ := chkE hm
   refine s_reg [] [0, 3, 8, 40, 41] [(0, [], .slice gl.a 8 gl.c), (3, [], .pointer (some ⟨b3m, 0, none⟩)), (8, [], .int .u8 (gi (agi (seti (seti (seti (seti (seti (List.replicate 256 (0 : Int)) (13 : Int) 1) (10 : Int) 1) (13 : Int) 1) (12 : Int) 1) (0 : Int) 1) 256) v95m)), (40, [], .agg ⟨gis .u8 (seti (seti (seti (seti (seti (List.replicate 256 (0 : Int)) (13 : Int) 1) (10 : Int) 1) (13 : Int) 1) (12 : Int) 1) (0 : Int) 1) 256⟩), (41, [], .int .i64 v95m)] [fun _ => 0 ≤ v95m ∧ v95m < (256 : Int)] H98m (by kernel_rfl) ⟨ho99m, trivial⟩ fun _ wd100m H101m hb => ?_
   clear H98m
   replace hS := hS.below hb
   clear hb
   refine wl_start ?_
   refine wl_batch 0 9 [(.int .i64 v96m)] [0, 3, 40, 41, 50, 52] [(0, [], .slice gl.a 8 gl.c), (3, [], .pointer (some ⟨b3m, 0, none⟩)), (40, [], .agg ⟨gis .u8 (seti (seti (seti (seti (seti (List.replicate 256 (0 : Int)) (13 : Int) 1) (10 : Int) 1) (13 : Int) 1) (12 : Int) 1) (0 : Int) 1) 256⟩), (41, [], .int .i64 v95m), (50, [], .int .i64 (w64 (v96m + (w64 (gi (agi (seti (seti (seti (seti (seti (List.replicate 256 (0 : Int)) (13 : Int) 1) (10 : Int) 1) (13 : Int) 1) (12 : Int) 1) (0 : Int) 1) 256) v95m))))), (52, [], .pointer (some ⟨b3m, 5, none⟩))] [fun wz => V.at1 ⟨b3m, 5, none⟩ (.int .i64 v96m) wz] H101m (by decide) (by kernel_rfl) ⟨((hS.mix 0 rfl).1.at1 rfl), trivial⟩ fun _ wd102m H103m hb => ?_
   clear H101m
   replace hS := hS.below hb
   clear hb
   have hd := hS.hand [0] [1] rfl rfl
   refine m_stp0 [0, 3, 40, 41] [(0, [], .slice gl.a 8 gl.c), (3, [], .pointer (some ⟨b3m, 0, none⟩)), (40, [], .agg ⟨gis .u8 (seti (seti (seti (seti (seti (List.replicate 256 (0 : Int)) (13 : Int) 1) (10 : Int) 1) (13 : Int) 1) (12 : Int) 1) (0 : Int) 1) 256⟩), (41, [], .int .i64 v95m)] H103m rfl rfl rfl (o_mstore [.string ⟨⟨[]⟩⟩, .int .i64 0, .string ⟨⟨[]⟩⟩, .pointer none, .slice none 0 0, .int .i64 (w64 (v96m + (w64 (gi (agi (seti (seti (seti (seti (seti (List.replicate 256 (0 : Int)) (13 : Int) 1) (10 : Int) 1) (13 : Int) 1) (12 : Int) 1) (0 : Int) 1) 256) v95m))))] H103m hd rfl rfl (by kernel_rfl) rfl rfl rfl) rfl fun _ wd104m H105m hq => ?_
   clear H103m hd
   obtain ⟨_, hq⟩ := hq
   replace hS : SH M X w [Ent.mix .u8 b3m [.string ⟨⟨[]⟩⟩, .int .i64 0, .string ⟨⟨[]⟩⟩, .pointer none, .slice none 0 0, .int .i64 (w64 (v96m + (w64 (gi (agi (seti (seti (seti (seti (seti (List.replicate 256 (0 : Int)) (13 : Int) 1) (10 : Int) 1) (13 : Int) 1) (12 : Int) 1) (0 : Int) 1) 256) v95m))))] (seti (seti (seti (seti (seti (List.replicate 256 (0 : Int)) (13 : Int) 1) (10 : Int) 1) (13 : Int) 1) (12 : Int) 1) (0 : Int) 1) (256 : Int), Ent.own 9 tS lit8 gl] _ := hS.join [0] [1] rfl rfl hq
   clear hq
   refine wl_end rfl ?_
   refine w_reg [] [0, 3, 40, 41] [(0, [], .slice gl.a 8 gl.c), (3, [], .pointer (some ⟨b3m, 0, none⟩)), (40, [], .agg ⟨gis .u8 (seti (seti (seti (seti (seti (List.replicate 256 (0 : Int)) (13 : Int) 1) (10 : Int) 1) (13 : Int) 1) (12 : Int) 1) (0 : Int) 1) 256⟩), (41, [], .int .i64 (w64 (v95m + 1)))] [] H105m (by kernel_rfl) trivial fun _ wd106m H107m hb => ?_
   clear H105m
   replace hS := hS.below hb
   clear hb
   exact ⟨_, Nat.lt_succ_self _, w64 (v95m + 1), w64 (v96m + (w64 (gi (agi (seti (seti (seti (seti (seti (List.replicate 256 (0 : Int)) (13 : Int) 1) (10 : Int) 1) (13 : Int) 1) (12 : Int) 1) (0 : Int) 1) 256) v95m))), hm, FrG.keep (ks := [0, 3, 40, 41]) H107m (by kernel_rfl), hS⟩
 ·clear hz
  rintro _ wd200m ⟨H, hS⟩
  refine s_reg [] [0, 3, 9] [(0, [], .slice gl.a 8 gl.c), (3, [], .pointer (some ⟨b3m, 0, none⟩)), (9, [], .int .u8 0)] [] H (by kernel_rfl) trivial fun _ wd110m H111m hb => ?_
  clear H
  replace hS := hS.below hb
  clear hb
  refine w_seq ?_
  refine s_reg [(.agg ⟨gis .u8 (seti (seti (seti (seti (seti (List.replicate 256 (0 : Int)) (13 : Int) 1) (10 : Int) 1) (13 : Int) 1) (12 : Int) 1) (0 : Int) 1) 256⟩)] [0, 3, 9, 57, 58] [(0, [], .slice gl.a 8 gl.c), (3, [], .pointer (some ⟨b3m, 0, none⟩)), (9, [], .int .u8 0), (57, [], .agg ⟨gis .u8 (seti (seti (seti (seti (seti (List.replicate 256 (0 : Int)) (13 : Int) 1) (10 : Int) 1) (13 : Int) 1) (12 : Int) 1) (0 : Int) 1) 256⟩), (58, [], .int .i64 0)] [fun wz => V.atN b3m 6 (gis .u8 (seti (seti (seti (seti (seti (List.replicate 256 (0 : Int)) (13 : Int) 1) (10 : Int) 1) (13 : Int) 1) (12 : Int) 1) (0 : Int) 1) 256) 0 wz] H111m (by kernel_rfl) ⟨(Mix.atG (hS.mix 0 rfl) rfl rfl), trivial⟩ fun _ wd112m H113m hb => ?_
  clear H111m
  replace hS := hS.below hb
  clear hb
  have hz : (strings_makeGenericReplacer_cs_L2 300  300 0 0 (seti (seti (seti (seti (seti (List.replicate 256 (0 : Int)) (13 : Int) 1) (10 : Int) 1) (13 : Int) 1) (12 : Int) 1) (0 : Int) 1)) = some (gmap) := by kernel_rfl
  refine w_then (fun a' w' => Fr 117 [(0, [], .slice gl.a 8 gl.c), (3, [], .pointer (some ⟨b3m, 0, none⟩))] a' ∧ SH M X w [Ent.mix .u8 b3m [.string ⟨⟨[]⟩⟩, .int .i64 0, .string ⟨⟨[]⟩⟩, .pointer none, .slice none 0 0, .int .i64 4] gmap (256 : Int), Ent.own 9 tS lit8 gl] w') ?_ ?_
  ·have hm := hz
   clear hz
   refine w_block ?_
   refine w_loop (fun kk a' w' => ∃ (v115m : Int) (v116m : Int) (v117m : List Int), strings_makeGenericReplacer_cs_L2 300  kk v115m v116m v117m = some _ ∧ Fr 117 [(0, [], .slice gl.a 8 gl.c), (3, [], .pointer (some ⟨b3m, 0, none⟩)), (57, [], .agg ⟨gis .u8 (seti (seti (seti (seti (seti (List.replicate 256 (0 : Int)) (13 : Int) 1) (10 : Int) 1) (13 : Int) 1) (12 : Int) 1) (0 : Int) 1) 256⟩), (9, [], .int .u8 v115m), (58, [], .int .i64 v116m)] a' ∧ SH M X w [Ent.mix .u8 b3m [.string ⟨⟨[]⟩⟩, .int .i64 0, .string ⟨⟨[]⟩⟩, .pointer none, .slice none 0 0, .int .i64 4] v117m (256 : Int), Ent.own 9 tS lit8 gl] w') ⟨_, 0, 0, seti (seti (seti (seti (seti (List.replicate 256 (0 : Int)) (13 : Int) 1) (10 : Int) 1) (13 : Int) 1) (12 : Int) 1) (0 : Int) 1, hm, FrG.keep (ks := [0, 3, 57, 9, 58]) H113m (by kernel_rfl), hS⟩ ?_
   clear hm H113m hS
   rintro kk _ wd143m ⟨v115m, v116m, v117m, hm, H, hS⟩
   cases kk with
   | zero => exact noneE hm
   | succ kk =>
    rw [strings_makeGenericReplacer_cs_L2] at hm
    refine s_reg [] [0, 3, 9, 57, 58, 59] [(0, [], .slice gl.a 8 gl.c), (3, [], .pointer (some ⟨b3m, 0, none⟩)), (9, [], .int .u8 v115m), (57, [], .agg ⟨gis .u8 (seti (seti (seti (seti (seti (List.replicate 256 (0 : Int)) (13 : Int) 1) (10 : Int) 1) (13 : Int) 1) (12 : Int) 1) (0 : Int) 1) 256⟩), (58, [], .int .i64 v116m), (59, [], .bool (decide (v116m < 256)))] [] H (by kernel_rfl) trivial fun _ wd118m H119m hb => ?_
    clear H
    replace hS := hS.below hb
    clear hb
    refine w_seq ?_
    refine w_if H119m rfl (fun hc => ?_) (fun hc => ?c142m)
    case c142m =>
     replace hm := bF hc hm
     refine w_exit rfl ?_
     obtain rfl := someE hm
     exact ⟨FrG.keep (ks := [0, 3]) H119m (by kernel_rfl), hS⟩
    replace hm := bT hc hm
    refine w_skip ?_
    obtain ⟨z120m, hz, hm⟩ := bindE hm
    refine w_cut (fun a' w' => Fr 117 [(0, [], .slice gl.a 8 gl.c), (3, [], .pointer (some ⟨b3m, 0, none⟩)), (57, [], .agg ⟨gis .u8 (seti (seti (seti (seti (seti (List.replicate 256 (0 : Int)) (13 : Int) 1) (10 : Int) 1) (13 : Int) 1) (12 : Int) 1) (0 : Int) 1) 256⟩), (58, [], .int .i64 v116m), (9, [], .int .u8 z120m.1)] a' ∧ SH M X w [Ent.mix .u8 b3m [.string ⟨⟨[]⟩⟩, .int .i64 0, .string ⟨⟨[]⟩⟩, .pointer none, .slice none 0 0, .int .i64 4] z120m.2 (256 : Int), Ent.own 9 tS lit8 gl] w') ?_ ?_
    ·replace hm := hz
     refine w_block ?_
     obtain ⟨ho121m, hm⟩ := chkE hm
     refine s_reg [] [0, 3, 9, 10, 11, 57, 58] [(0, [], .slice gl.a 8 gl.c), (3, [], .pointer (some ⟨b3m, 0, none⟩)), (9, [], .int .u8 v115m), (10, [], .int .i64 v116m), (11, [], .int .u8 (gi (agi (seti (seti (seti (seti (seti (List.replicate 256 (0 : Int)) (13 : Int) 1) (10 : Int) 1) (13 : Int) 1) (12 : Int) 1) (0 : Int) 1) 256) v116m)), (57, [], .agg ⟨gis .u8 (seti (seti (seti (seti (seti (List.replicate 256 (0 : Int)) (13 : Int) 1) (10 : Int) 1) (13 : Int) 1) (12 : Int) 1) (0 : Int) 1) 256⟩), (58, [], .int .i64 v116m)] [fun _ => 0 ≤ v116m ∧ v116m < (256 : Int)] H119m (by kernel_rfl) ⟨ho121m, trivial⟩ fun _ wd122m H123m hb => ?_
     clear H119m
     replace hS := hS.below hb
     clear hb
     refine s_reg [] [0, 3, 9, 10, 57, 58, 63] [(0, [], .slice gl.a 8 gl.c), (3, [], .pointer (some ⟨b3m, 0, none⟩)), (9, [], .int .u8 v115m), (10, [], .int .i64 v116m), (57, [], .agg ⟨gis .u8 (seti (seti (seti (seti (seti (List.replicate 256 (0 : Int)) (13 : Int) 1) (10 : Int) 1) (13 : Int) 1) (12 : Int) 1) (0 : Int) 1) 256⟩), (58, [], .int .i64 v116m), (63, [], .bool ((gi (agi (seti (seti (seti (seti (seti (List.replicate 256 (0 : Int)) (13 : Int) 1) (10 : Int) 1) (13 : Int) 1) (12 : Int) 1) (0 : Int) 1) 256) v116m) == 0))] [] H123m (by kernel_rfl) trivial fun _ wd124m H125m hb => ?_
     clear H123m
     replace hS := hS.below hb
     clear hb
     refine w_if H125m rfl (fun hc => ?_) (fun hc => ?c138m)
     case c138m =>
      replace hm := bF hc hm
      refine w_seq ?_
      refine wl_start ?_
      refine wl_batch 0 6 [] [0, 3, 9, 57, 58, 76, 79] [(0, [], .slice gl.a 8 gl.c), (3, [], .pointer (some ⟨b3m, 0, none⟩)), (9, [], .int .u8 v115m), (57, [], .agg ⟨gis .u8 (seti (seti (seti (seti (seti (List.replicate 256 (0 : Int)) (13 : Int) 1) (10 : Int) 1) (13 : Int) 1) (12 : Int) 1) (0 : Int) 1) 256⟩), (58, [], .int .i64 v116m), (76, [], .int .u8 v115m), (79, [], .pointer (some ⟨b3m, 6 + (v116m).toNat * 1, none⟩))] [fun _ => 0 ≤ v116m ∧ v116m < (256 : Int)] H125m (by decide) (by kernel_rfl) ⟨ho121m, trivial⟩ fun _ wd131m H132m hb => ?_
      clear H125m
      replace hS := hS.below hb
      clear hb
      have hd := hS.hand [0] [1] rfl rfl
      refine m_stp0 [0, 3, 9, 57, 58] [(0, [], .slice gl.a 8 gl.c), (3, [], .pointer (some ⟨b3m, 0, none⟩)), (9, [], .int .u8 v115m), (57, [], .agg ⟨gis .u8 (seti (seti (seti (seti (seti (List.replicate 256 (0 : Int)) (13 : Int) 1) (10 : Int) 1) (13 : Int) 1) (12 : Int) 1) (0 : Int) 1) 256⟩), (58, [], .int .i64 v116m)] H132m rfl rfl rfl (o_mrstore H132m hd rfl rfl (by kernel_rfl) rfl ho121m) rfl fun _ wd133m H134m hq => ?_
      clear H132m hd
      obtain ⟨_, hq⟩ := hq
      obtain ⟨q135m, hq135m, hm⟩ := letE hm
      rw [← hq135m] at hq
      replace hS : SH M X w [Ent.mix .u8 b3m [.string ⟨⟨[]⟩⟩, .int .i64 0, .string ⟨⟨[]⟩⟩, .pointer none, .slice none 0 0, .int .i64 4] q135m (256 : Int), Ent.own 9 tS lit8 gl] _ := hS.join [0] [1] rfl rfl hq
      clear hq
      refine wl_end rfl ?_
      refine w_reg [] [0, 3, 9, 57, 58] [(0, [], .slice gl.a 8 gl.c), (3, [], .pointer (some ⟨b3m, 0, none⟩)), (9, [], .int .u8 (wu8 (v115m + 1))), (57, [], .agg ⟨gis .u8 (seti (seti (seti (seti (seti (List.replicate 256 (0 : Int)) (13 : Int) 1) (10 : Int) 1) (13 : Int) 1) (12 : Int) 1) (0 : Int) 1) 256⟩), (58, [], .int .i64 v116m)] [] H134m (by kernel_rfl) trivial fun _ wd136m H137m hb => ?_
      clear H134m
      replace hS := hS.below hb
      clear hb
      obtain rfl := someE hm
      exact ⟨FrG.keep (ks := [0, 3, 57, 58, 9]) H137m (by kernel_rfl), hS⟩
     replace hm := bT hc hm
     obtain ⟨q127m, hq127m, hm⟩ := letE hm
     refine w_drawS (base := [(0, [], .slice gl.a 8 gl.c), (3, [], .pointer (some ⟨b3m, 0, none⟩)), (9, [], .int .u8 v115m), (10, [], .int .i64 v116m), (57, [], .agg ⟨gis .u8 (seti (seti (seti (seti (seti (List.replicate 256 (0 : Int)) (13 : Int) 1) (10 : Int) 1) (13 : Int) 1) (12 : Int) 1) (0 : Int) 1) 256⟩), (58, [], .int .i64 v116m)]) (L := [Ent.mix .u8 b3m [.string ⟨⟨[]⟩⟩, .int .i64 0, .string ⟨⟨[]⟩⟩, .pointer none, .slice none 0 0, .int .i64 4] v117m (256 : Int), Ent.own 9 tS lit8 gl]) 11 2 (fun yg126m => [.pointer (some ⟨b3m, 0, none⟩), .int .i64 v116m, .pointer (some ⟨b3m, 0, none⟩), .pointer (some ⟨b3m, 0, none⟩), .pointer (some ⟨b3m, 5, none⟩), .int .i64 4, .int .u8 4, .pointer (some ⟨b3m, 0, none⟩), .pointer (some ⟨b3m, 6, none⟩), .pointer (some ⟨b3m, 6 + (v116m).toNat * 1, none⟩), undef]) (fun yg126m => [[], [], [], [], [], [], [], [], [], [], [Ent.mix .u8 b3m [.string ⟨⟨[]⟩⟩, .int .i64 0, .string ⟨⟨[]⟩⟩, .pointer none, .slice none 0 0, .int .i64 4] q127m (256 : Int)]]) [[11], [], [11], [11], [11], [11], [], [11], [11], [11], [11]] [[], [], [], [], [], [], [], [], [], [], [11]] [[0], [1], [2], [2, 3], [2, 3, 4], [2, 3, 4, 5], [2, 3, 4, 5, 6], [0, 7], [0, 7, 8], [0, 1, 7, 8, 9], [0, 1, 2, 3, 4, 5, 6, 7, 8, 9, 10]] [] (FrG.keep (ks := [0, 3, 9, 10, 57, 58]) H125m (by kernel_rfl)) (fun _ _ h => by cases h) (by kernel_rfl) hS (by kernel_rfl) rfl rfl (by kernel_rfl) (by kernel_rfl) (by kernel_rfl) (gd_none (by kernel_rfl) _ _) ?hloc_yg126m ?hstep_yg126m fun _ wd128m yg126m H129m hv hS => ?hK_yg126m
     case hloc_yg126m => exact ⟨(fun _ _ _ _ => ⟨rfl, rfl⟩), (fun _ _ _ _ => ⟨rfl, rfl⟩), (fun _ _ _ _ => ⟨rfl, rfl⟩), (fun _ _ _ _ => ⟨rfl, rfl⟩), (fun _ _ _ _ => ⟨rfl, rfl⟩), (fun _ _ _ _ => ⟨rfl, rfl⟩), (fun _ _ _ _ => ⟨rfl, rfl⟩), (fun _ _ _ _ => ⟨rfl, rfl⟩), (fun _ _ _ _ => ⟨rfl, rfl⟩), (fun _ _ _ _ => ⟨rfl, rfl⟩), (fun _ _ _ _ => ⟨rfl, rfl⟩), trivial⟩
     case hstep_yg126m =>
      refine ⟨?_, ?_, ?_, ?_, ?_, ?_, ?_, ?_, ?_, ?_, ?_, trivial⟩
      ·intro o ho a w yg126m M Hb hv hO hS0
       obtain rfl := Option.some.inj ho
       have H : Fr 117 ([] ++ [(0, [], .slice gl.a 8 gl.c), (3, [], .pointer (some ⟨b3m, 0, none⟩)), (9, [], .int .u8 v115m), (10, [], .int .i64 v116m), (57, [], .agg ⟨gis .u8 (seti (seti (seti (seti (seti (List.replicate 256 (0 : Int)) (13 : Int) 1) (10 : Int) 1) (13 : Int) 1) (12 : Int) 1) (0 : Int) 1) 256⟩), (58, [], .int .i64 v116m)]) _ := Hb
       obtain ⟨X, hX⟩ : ∃ X, X = fpl [Ent.mix .u8 b3m [.string ⟨⟨[]⟩⟩, .int .i64 0, .string ⟨⟨[]⟩⟩, .pointer none, .slice none 0 0, .int .i64 4] v117m (256 : Int)] := ⟨_, rfl⟩
       have hS : SH M X w [Ent.mix .u8 b3m [.string ⟨⟨[]⟩⟩, .int .i64 0, .string ⟨⟨[]⟩⟩, .pointer none, .slice none 0 0, .int .i64 4] v117m (256 : Int)] w := by rw [hX]; exact hS0
       refine Stp.mono (o_evs [] (.pointer (some ⟨b3m, 0, none⟩)) none [] H rfl (by kernel_rfl) (fun q e => by cases e)) ?_
       rintro v w2 ⟨rfl, hq⟩
       replace hS : SH M X w [Ent.mix .u8 b3m [.string ⟨⟨[]⟩⟩, .int .i64 0, .string ⟨⟨[]⟩⟩, .pointer none, .slice none 0 0, .int .i64 4] v117m (256 : Int)] _ := hS.below hq.below
       rw [hX] at hS
       exact ⟨gL [], fun _ _ => rfl, hS.sel [0] rfl⟩
      ·intro o ho a w yg126m M Hb hv hO hS0
       obtain rfl := Option.some.inj ho
       have H : Fr 117 ([] ++ [(0, [], .slice gl.a 8 gl.c), (3, [], .pointer (some ⟨b3m, 0, none⟩)), (9, [], .int .u8 v115m), (10, [], .int .i64 v116m), (57, [], .agg ⟨gis .u8 (seti (seti (seti (seti (seti (List.replicate 256 (0 : Int)) (13 : Int) 1) (10 : Int) 1) (13 : Int) 1) (12 : Int) 1) (0 : Int) 1) 256⟩), (58, [], .int .i64 v116m)]) _ := Hb
       obtain ⟨X, hX⟩ : ∃ X, X = fpl [] := ⟨_, rfl⟩
       have hS : SH M X w [] w := by rw [hX]; exact hS0
       refine Stp.mono (o_evs [] (.int .i64 v116m) none [] H rfl (by kernel_rfl) (fun q e => by cases e)) ?_
       rintro v w2 ⟨rfl, hq⟩
       replace hS : SH M X w [] _ := hS.below hq.below
       rw [hX] at hS
       exact ⟨gL [], fun _ _ => rfl, hS.sel [] rfl⟩
      ·intro o ho a w yg126m M Hb hv hO hS0
       obtain rfl := Option.some.inj ho
       have H : Fr 117 ([] ++ [(0, [], .slice gl.a 8 gl.c), (3, [], .pointer (some ⟨b3m, 0, none⟩)), (9, [], .int .u8 v115m), (10, [], .int .i64 v116m), (57, [], .agg ⟨gis .u8 (seti (seti (seti (seti (seti (List.replicate 256 (0 : Int)) (13 : Int) 1) (10 : Int) 1) (13 : Int) 1) (12 : Int) 1) (0 : Int) 1) 256⟩), (58, [], .int .i64 v116m)]) _ := Hb
       obtain ⟨X, hX⟩ : ∃ X, X = fpl [Ent.mix .u8 b3m [.string ⟨⟨[]⟩⟩, .int .i64 0, .string ⟨⟨[]⟩⟩, .pointer none, .slice none 0 0, .int .i64 4] v117m (256 : Int)] := ⟨_, rfl⟩
       have hS : SH M X w [Ent.mix .u8 b3m [.string ⟨⟨[]⟩⟩, .int .i64 0, .string ⟨⟨[]⟩⟩, .pointer none, .slice none 0 0, .int .i64 4] v117m (256 : Int)] w := by rw [hX]; exact hS0
       refine Stp.mono (o_evs [] (.pointer (some ⟨b3m, 0, none⟩)) none [] H rfl (by kernel_rfl) (fun q e => by cases e)) ?_
       rintro v w2 ⟨rfl, hq⟩
       replace hS : SH M X w [Ent.mix .u8 b3m [.string ⟨⟨[]⟩⟩, .int .i64 0, .string ⟨⟨[]⟩⟩, .pointer none, .slice none 0 0, .int .i64 4] v117m (256 : Int)] _ := hS.below hq.below
       rw [hX] at hS
       exact ⟨gL [], fun _ _ => rfl, hS.sel [0] rfl⟩
      ·intro o ho a w yg126m M Hb hv hO hS0
       obtain rfl := Option.some.inj ho
       have H : Fr 117 ([(66, [], .pointer (some ⟨b3m, 0, none⟩))] ++ [(0, [], .slice gl.a 8 gl.c), (3, [], .pointer (some ⟨b3m, 0, none⟩)), (9, [], .int .u8 v115m), (10, [], .int .i64 v116m), (57, [], .agg ⟨gis .u8 (seti (seti (seti (seti (seti (List.replicate 256 (0 : Int)) (13 : Int) 1) (10 : Int) 1) (13 : Int) 1) (12 : Int) 1) (0 : Int) 1) 256⟩), (58, [], .int .i64 v116m)]) _ := (Hb).add (hv 2 (by decide) (by decide) 66 rfl)
       obtain ⟨X, hX⟩ : ∃ X, X = fpl [Ent.mix .u8 b3m [.string ⟨⟨[]⟩⟩, .int .i64 0, .string ⟨⟨[]⟩⟩, .pointer none, .slice none 0 0, .int .i64 4] v117m (256 : Int)] := ⟨_, rfl⟩
       have hS : SH M X w [Ent.mix .u8 b3m [.string ⟨⟨[]⟩⟩, .int .i64 0, .string ⟨⟨[]⟩⟩, .pointer none, .slice none 0 0, .int .i64 4] v117m (256 : Int)] w := by rw [hX]; exact hS0
       refine Stp.mono (o_evs [] (.pointer (some ⟨b3m, 0, none⟩)) none [] H rfl (by kernel_rfl) (fun q e => by cases e)) ?_
       rintro v w2 ⟨rfl, hq⟩
       replace hS : SH M X w [Ent.mix .u8 b3m [.string ⟨⟨[]⟩⟩, .int .i64 0, .string ⟨⟨[]⟩⟩, .pointer none, .slice none 0 0, .int .i64 4] v117m (256 : Int)] _ := hS.below hq.below
       rw [hX] at hS
       exact ⟨gL [], fun _ _ => rfl, hS.sel [0] rfl⟩
      ·intro o ho a w yg126m M Hb hv hO hS0
       obtain rfl := Option.some.inj ho
       have H : Fr 117 ([(67, [], .pointer (some ⟨b3m, 0, none⟩))] ++ [(0, [], .slice gl.a 8 gl.c), (3, [], .pointer (some ⟨b3m, 0, none⟩)), (9, [], .int .u8 v115m), (10, [], .int .i64 v116m), (57, [], .agg ⟨gis .u8 (seti (seti (seti (seti (seti (List.replicate 256 (0 : Int)) (13 : Int) 1) (10 : Int) 1) (13 : Int) 1) (12 : Int) 1) (0 : Int) 1) 256⟩), (58, [], .int .i64 v116m)]) _ := (Hb).add (hv 3 (by decide) (by decide) 67 rfl)
       obtain ⟨X, hX⟩ : ∃ X, X = fpl [Ent.mix .u8 b3m [.string ⟨⟨[]⟩⟩, .int .i64 0, .string ⟨⟨[]⟩⟩, .pointer none, .slice none 0 0, .int .i64 4] v117m (256 : Int)] := ⟨_, rfl⟩
       have hS : SH M X w [Ent.mix .u8 b3m [.string ⟨⟨[]⟩⟩, .int .i64 0, .string ⟨⟨[]⟩⟩, .pointer none, .slice none 0 0, .int .i64 4] v117m (256 : Int)] w := by rw [hX]; exact hS0
       refine Stp.mono (o_evs [] (.pointer (some ⟨b3m, 5, none⟩)) none [] H rfl (by kernel_rfl) (fun q e => by cases e)) ?_
       rintro v w2 ⟨rfl, hq⟩
       replace hS : SH M X w [Ent.mix .u8 b3m [.string ⟨⟨[]⟩⟩, .int .i64 0, .string ⟨⟨[]⟩⟩, .pointer none, .slice none 0 0, .int .i64 4] v117m (256 : Int)] _ := hS.below hq.below
       rw [hX] at hS
       exact ⟨gL [], fun _ _ => rfl, hS.sel [0] rfl⟩
      ·intro o ho a w yg126m M Hb hv hO hS0
       obtain rfl := Option.some.inj ho
       have H : Fr 117 ([(68, [], .pointer (some ⟨b3m, 5, none⟩))] ++ [(0, [], .slice gl.a 8 gl.c), (3, [], .pointer (some ⟨b3m, 0, none⟩)), (9, [], .int .u8 v115m), (10, [], .int .i64 v116m), (57, [], .agg ⟨gis .u8 (seti (seti (seti (seti (seti (List.replicate 256 (0 : Int)) (13 : Int) 1) (10 : Int) 1) (13 : Int) 1) (12 : Int) 1) (0 : Int) 1) 256⟩), (58, [], .int .i64 v116m)]) _ := (Hb).add (hv 4 (by decide) (by decide) 68 rfl)
       obtain ⟨X, hX⟩ : ∃ X, X = fpl [Ent.mix .u8 b3m [.string ⟨⟨[]⟩⟩, .int .i64 0, .string ⟨⟨[]⟩⟩, .pointer none, .slice none 0 0, .int .i64 4] v117m (256 : Int)] := ⟨_, rfl⟩
       have hS : SH M X w [Ent.mix .u8 b3m [.string ⟨⟨[]⟩⟩, .int .i64 0, .string ⟨⟨[]⟩⟩, .pointer none, .slice none 0 0, .int .i64 4] v117m (256 : Int)] w := by rw [hX]; exact hS0
       refine Stp.mono (o_evs [(.int .i64 4)] (.int .i64 4) (some (fun wz => V.at1 ⟨b3m, 5, none⟩ (.int .i64 4) wz)) [] H rfl (by kernel_rfl) (fun q e => by cases e; exact ((hS.mix 0 rfl).1.at1 rfl))) ?_
       rintro v w2 ⟨rfl, hq⟩
       replace hS : SH M X w [Ent.mix .u8 b3m [.string ⟨⟨[]⟩⟩, .int .i64 0, .string ⟨⟨[]⟩⟩, .pointer none, .slice none 0 0, .int .i64 4] v117m (256 : Int)] _ := hS.below hq.below
       rw [hX] at hS
       exact ⟨gL [], fun _ _ => rfl, hS.sel [0] rfl⟩
      ·intro o ho a w yg126m M Hb hv hO hS0
       obtain rfl := Option.some.inj ho
       have H : Fr 117 ([(69, [], .int .i64 4)] ++ [(0, [], .slice gl.a 8 gl.c), (3, [], .pointer (some ⟨b3m, 0, none⟩)), (9, [], .int .u8 v115m), (10, [], .int .i64 v116m), (57, [], .agg ⟨gis .u8 (seti (seti (seti (seti (seti (List.replicate 256 (0 : Int)) (13 : Int) 1) (10 : Int) 1) (13 : Int) 1) (12 : Int) 1) (0 : Int) 1) 256⟩), (58, [], .int .i64 v116m)]) _ := (Hb).add (hv 5 (by decide) (by decide) 69 rfl)
       obtain ⟨X, hX⟩ : ∃ X, X = fpl [] := ⟨_, rfl⟩
       have hS : SH M X w [] w := by rw [hX]; exact hS0
       refine Stp.mono (o_evs [] (.int .u8 4) none [] H rfl (by kernel_rfl) (fun q e => by cases e)) ?_
       rintro v w2 ⟨rfl, hq⟩
       replace hS : SH M X w [] _ := hS.below hq.below
       rw [hX] at hS
       exact ⟨gL [], fun _ _ => rfl, hS.sel [] rfl⟩
      ·intro o ho a w yg126m M Hb hv hO hS0
       obtain rfl := Option.some.inj ho
       have H : Fr 117 ([(64, [], .pointer (some ⟨b3m, 0, none⟩))] ++ [(0, [], .slice gl.a 8 gl.c), (3, [], .pointer (some ⟨b3m, 0, none⟩)), (9, [], .int .u8 v115m), (10, [], .int .i64 v116m), (57, [], .agg ⟨gis .u8 (seti (seti (seti (seti (seti (List.replicate 256 (0 : Int)) (13 : Int) 1) (10 : Int) 1) (13 : Int) 1) (12 : Int) 1) (0 : Int) 1) 256⟩), (58, [], .int .i64 v116m)]) _ := (Hb).add (hv 0 (by decide) (by decide) 64 rfl)
       obtain ⟨X, hX⟩ : ∃ X, X = fpl [Ent.mix .u8 b3m [.string ⟨⟨[]⟩⟩, .int .i64 0, .string ⟨⟨[]⟩⟩, .pointer none, .slice none 0 0, .int .i64 4] v117m (256 : Int)] := ⟨_, rfl⟩
       have hS : SH M X w [Ent.mix .u8 b3m [.string ⟨⟨[]⟩⟩, .int .i64 0, .string ⟨⟨[]⟩⟩, .pointer none, .slice none 0 0, .int .i64 4] v117m (256 : Int)] w := by rw [hX]; exact hS0
       refine Stp.mono (o_evs [] (.pointer (some ⟨b3m, 0, none⟩)) none [] H rfl (by kernel_rfl) (fun q e => by cases e)) ?_
       rintro v w2 ⟨rfl, hq⟩
       replace hS : SH M X w [Ent.mix .u8 b3m [.string ⟨⟨[]⟩⟩, .int .i64 0, .string ⟨⟨[]⟩⟩, .pointer none, .slice none 0 0, .int .i64 4] v117m (256 : Int)] _ := hS.below hq.below
       rw [hX] at hS
       exact ⟨gL [], fun _ _ => rfl, hS.sel [0] rfl⟩
      ·intro o ho a w yg126m M Hb hv hO hS0
       obtain rfl := Option.some.inj ho
       have H : Fr 117 ([(71, [], .pointer (some ⟨b3m, 0, none⟩))] ++ [(0, [], .slice gl.a 8 gl.c), (3, [], .pointer (some ⟨b3m, 0, none⟩)), (9, [], .int .u8 v115m), (10, [], .int .i64 v116m), (57, [], .agg ⟨gis .u8 (seti (seti (seti (seti (seti (List.replicate 256 (0 : Int)) (13 : Int) 1) (10 : Int) 1) (13 : Int) 1) (12 : Int) 1) (0 : Int) 1) 256⟩), (58, [], .int .i64 v116m)]) _ := (Hb).add (hv 7 (by decide) (by decide) 71 rfl)
       obtain ⟨X, hX⟩ : ∃ X, X = fpl [Ent.mix .u8 b3m [.string ⟨⟨[]⟩⟩, .int .i64 0, .string ⟨⟨[]⟩⟩, .pointer none, .slice none 0 0, .int .i64 4] v117m (256 : Int)] := ⟨_, rfl⟩
       have hS : SH M X w [Ent.mix .u8 b3m [.string ⟨⟨[]⟩⟩, .int .i64 0, .string ⟨⟨[]⟩⟩, .pointer none, .slice none 0 0, .int .i64 4] v117m (256 : Int)] w := by rw [hX]; exact hS0
       refine Stp.mono (o_evs [] (.pointer (some ⟨b3m, 6, none⟩)) none [] H rfl (by kernel_rfl) (fun q e => by cases e)) ?_
       rintro v w2 ⟨rfl, hq⟩
       replace hS : SH M X w [Ent.mix .u8 b3m [.string ⟨⟨[]⟩⟩, .int .i64 0, .string ⟨⟨[]⟩⟩, .pointer none, .slice none 0 0, .int .i64 4] v117m (256 : Int)] _ := hS.below hq.below
       rw [hX] at hS
       exact ⟨gL [], fun _ _ => rfl, hS.sel [0] rfl⟩
      ·intro o ho a w yg126m M Hb hv hO hS0
       obtain rfl := Option.some.inj ho
       have H : Fr 117 ([(72, [], .pointer (some ⟨b3m, 6, none⟩)), (65, [], .int .i64 v116m)] ++ [(0, [], .slice gl.a 8 gl.c), (3, [], .pointer (some ⟨b3m, 0, none⟩)), (9, [], .int .u8 v115m), (10, [], .int .i64 v116m), (57, [], .agg ⟨gis .u8 (seti (seti (seti (seti (seti (List.replicate 256 (0 : Int)) (13 : Int) 1) (10 : Int) 1) (13 : Int) 1) (12 : Int) 1) (0 : Int) 1) 256⟩), (58, [], .int .i64 v116m)]) _ := ((Hb).add (hv 1 (by decide) (by decide) 65 rfl)).add (hv 8 (by decide) (by decide) 72 rfl)
       obtain ⟨X, hX⟩ : ∃ X, X = fpl [Ent.mix .u8 b3m [.string ⟨⟨[]⟩⟩, .int .i64 0, .string ⟨⟨[]⟩⟩, .pointer none, .slice none 0 0, .int .i64 4] v117m (256 : Int)] := ⟨_, rfl⟩
       have hS : SH M X w [Ent.mix .u8 b3m [.string ⟨⟨[]⟩⟩, .int .i64 0, .string ⟨⟨[]⟩⟩, .pointer none, .slice none 0 0, .int .i64 4] v117m (256 : Int)] w := by rw [hX]; exact hS0
       refine Stp.mono (o_evs [] (.pointer (some ⟨b3m, 6 + (v116m).toNat * 1, none⟩)) (some (fun _ => 0 ≤ v116m ∧ v116m < (256 : Int))) [] H rfl (by kernel_rfl) (fun q e => by cases e; exact ho121m)) ?_
       rintro v w2 ⟨rfl, hq⟩
       replace hS : SH M X w [Ent.mix .u8 b3m [.string ⟨⟨[]⟩⟩, .int .i64 0, .string ⟨⟨[]⟩⟩, .pointer none, .slice none 0 0, .int .i64 4] v117m (256 : Int)] _ := hS.below hq.below
       rw [hX] at hS
       exact ⟨gL [], fun _ _ => rfl, hS.sel [0] rfl⟩
      ·intro o ho a w yg126m M Hb hv hO hS0
       obtain rfl := Option.some.inj ho
       have H : Fr 117 ([(73, [], .pointer (some ⟨b3m, 6 + (v116m).toNat * 1, none⟩)), (70, [], .int .u8 4)] ++ [(0, [], .slice gl.a 8 gl.c), (3, [], .pointer (some ⟨b3m, 0, none⟩)), (9, [], .int .u8 v115m), (10, [], .int .i64 v116m), (57, [], .agg ⟨gis .u8 (seti (seti (seti (seti (seti (List.replicate 256 (0 : Int)) (13 : Int) 1) (10 : Int) 1) (13 : Int) 1) (12 : Int) 1) (0 : Int) 1) 256⟩), (58, [], .int .i64 v116m)]) _ := ((Hb).add (hv 6 (by decide) (by decide) 70 rfl)).add (hv 9 (by decide) (by decide) 73 rfl)
       obtain ⟨X, hX⟩ : ∃ X, X = fpl [Ent.mix .u8 b3m [.string ⟨⟨[]⟩⟩, .int .i64 0, .string ⟨⟨[]⟩⟩, .pointer none, .slice none 0 0, .int .i64 4] v117m (256 : Int)] := ⟨_, rfl⟩
       have hS : SH M X w [Ent.mix .u8 b3m [.string ⟨⟨[]⟩⟩, .int .i64 0, .string ⟨⟨[]⟩⟩, .pointer none, .slice none 0 0, .int .i64 4] v117m (256 : Int)] w := by rw [hX]; exact hS0
       have hd := hS.hand [0] [] rfl rfl
       refine Stp.mono (o_mrstore H hd rfl rfl (by kernel_rfl) rfl ho121m) ?_
       rintro v w2 hq
       rw [← hq127m] at hq
       replace hS : SH M X w [Ent.mix .u8 b3m [.string ⟨⟨[]⟩⟩, .int .i64 0, .string ⟨⟨[]⟩⟩, .pointer none, .slice none 0 0, .int .i64 4] q127m (256 : Int)] _ := hS.join [0] [] rfl rfl hq
       clear hq
       rw [hX] at hS
       exact ⟨gL [], (fun _ h => by cases h), hS.sel [0] rfl⟩
     have H130m : Fr 117 [(0, [], .slice gl.a 8 gl.c), (3, [], .pointer (some ⟨b3m, 0, none⟩)), (9, [], .int .u8 v115m), (57, [], .agg ⟨gis .u8 (seti (seti (seti (seti (seti (List.replicate 256 (0 : Int)) (13 : Int) 1) (10 : Int) 1) (13 : Int) 1) (12 : Int) 1) (0 : Int) 1) 256⟩), (58, [], .int .i64 v116m)] _ := (FrG.keep (ks := [0, 3, 9, 57, 58]) H129m (by kernel_rfl))
     replace hS : SH M X w [Ent.mix .u8 b3m [.string ⟨⟨[]⟩⟩, .int .i64 0, .string ⟨⟨[]⟩⟩, .pointer none, .slice none 0 0, .int .i64 4] q127m (256 : Int), Ent.own 9 tS lit8 gl] _ := hS
     clear hv H129m
     obtain rfl := someE hm
     exact ⟨FrG.keep (ks := [0, 3, 57, 58, 9]) H130m (by kernel_rfl), hS⟩
    ·rintro _ wd141m ⟨H, hS⟩
     refine w_reg [] [0, 3, 9, 57, 58] [(0, [], .slice gl.a 8 gl.c), (3, [], .pointer (some ⟨b3m, 0, none⟩)), (9, [], .int .u8 z120m.1), (57, [], .agg ⟨gis .u8 (seti (seti (seti (seti (seti (List.replicate 256 (0 : Int)) (13 : Int) 1) (10 : Int) 1) (13 : Int) 1) (12 : Int) 1) (0 : Int) 1) 256⟩), (58, [], .int .i64 (w64 (v116m + 1)))] [] H (by kernel_rfl) trivial fun _ wd139m H140m hb => ?_
     clear H
     replace hS := hS.below hb
     clear hb
     exact ⟨_, Nat.lt_succ_self _, z120m.1, w64 (v116m + 1), z120m.2, hm, FrG.keep (ks := [0, 3, 57, 9, 58]) H140m (by kernel_rfl), hS⟩
  ·clear hz
   rintro _ wd199m ⟨H, hS⟩
   refine w_seq ?_
   refine wl_start ?_
   refine wl_batch 0 5 [(.int .i64 4)] [0, 3, 83, 87] [(0, [], .slice gl.a 8 gl.c), (3, [], .pointer (some ⟨b3m, 0, none⟩)), (83, [], .pointer (some ⟨b3m, 0, none⟩)), (87, [], .int .i64 4)] [fun wz => V.at1 ⟨b3m, 5, none⟩ (.int .i64 4) wz] H (by decide) (by kernel_rfl) ⟨((hS.mix 0 rfl).1.at1 rfl), trivial⟩ fun _ wd144m H145m hb => ?_
   clear H
   replace hS := hS.below hb
   clear hb
   have hd := hS.hand [] [0, 1] rfl rfl
   refine m_stp [88, 0, 3, 83] [(0, [], .slice gl.a 8 gl.c), (3, [], .pointer (some ⟨b3m, 0, none⟩)), (83, [], .pointer (some ⟨b3m, 0, none⟩))] H145m rfl rfl rfl rfl (o_mkblk (E := 103) (zv := .pointer none) 4 [.pointer none, .pointer none, .pointer none, .pointer none] H145m hd rfl rfl (by kernel_rfl) (by kernel_rfl) (by kernel_rfl) rfl (by kernel_rfl)) (fun _ => rfl) fun _ wd147m v H148m hq => ?_
   clear H145m hd
   obtain ⟨b146m, rfl, hq⟩ := hq
   replace hS : SH M X w [Ent.blk b146m [.pointer none, .pointer none, .pointer none, .pointer none], Ent.mix .u8 b3m [.string ⟨⟨[]⟩⟩, .int .i64 0, .string ⟨⟨[]⟩⟩, .pointer none, .slice none 0 0, .int .i64 4] gmap (256 : Int), Ent.own 9 tS lit8 gl] _ := hS.join [] [0, 1] rfl rfl hq
   clear hq
   refine wl_batch 6 9 [] [0, 3, 88, 91] [(0, [], .slice gl.a 8 gl.c), (3, [], .pointer (some ⟨b3m, 0, none⟩)), (88, [], .slice (some ⟨b146m, 0, none⟩) 4 4), (91, [], .pointer (some ⟨b3m, 4, none⟩))] [] H148m (by decide) (by kernel_rfl) trivial fun _ wd149m H150m hb => ?_
   clear H148m
   replace hS := hS.below hb
   clear hb
   have hd := hS.hand [1] [0, 2] rfl rfl
   refine m_stp0 [0, 3] [(0, [], .slice gl.a 8 gl.c), (3, [], .pointer (some ⟨b3m, 0, none⟩))] H150m rfl rfl rfl (o_mstore [.string ⟨⟨[]⟩⟩, .int .i64 0, .string ⟨⟨[]⟩⟩, .pointer none, .slice (some ⟨b146m, 0, none⟩) 4 4, .int .i64 4] H150m hd rfl rfl (by kernel_rfl) rfl rfl rfl) rfl fun _ wd151m H152m hq => ?_
   clear H150m hd
   obtain ⟨_, hq⟩ := hq
   replace hS : SH M X w [Ent.mix .u8 b3m [.string ⟨⟨[]⟩⟩, .int .i64 0, .string ⟨⟨[]⟩⟩, .pointer none, .slice (some ⟨b146m, 0, none⟩) 4 4, .int .i64 4] gmap (256 : Int), Ent.blk b146m [.pointer none, .pointer none, .pointer none, .pointer none], Ent.own 9 tS lit8 gl] _ := hS.join [1] [0, 2] rfl rfl hq
   clear hq
   refine wl_end rfl ?_
   refine w_seq ?_
   refine s_reg [] [0, 3, 12] [(0, [], .slice gl.a 8 gl.c), (3, [], .pointer (some ⟨b3m, 0, none⟩)), (12, [], .int .i64 0)] [] H152m (by kernel_rfl) trivial fun _ wd153m H154m hb => ?_
   clear H152m
   replace hS := hS.below hb
   clear hb
   refine w_block ?_
   refine w_loopU ?_
   refine lw_round ?_
   refine w_seq ?_
   refine s_reg [] [0, 3, 12, 95] [(0, [], .slice gl.a 8 gl.c), (3, [], .pointer (some ⟨b3m, 0, none⟩)), (12, [], .int .i64 0), (95, [], .bool true)] [] H154m (by kernel_rfl) trivial fun _ wd155m H156m hb => ?_
   clear H154m
   replace hS := hS.below hb
   clear hb
   refine w_if H156m rfl (fun _ => ?_) (fun hc => by cases hc)
   refine w_skip ?_
   refine w_seq ?_
   refine w_block ?_
   refine w_drawS (base := [(0, [], .slice gl.a 8 gl.c), (3, [], .pointer (some ⟨b3m, 0, none⟩)), (12, [], .int .i64 0)]) (L := [Ent.mix .u8 b3m [.string ⟨⟨[]⟩⟩, .int .i64 0, .string ⟨⟨[]⟩⟩, .pointer none, .slice (some ⟨b146m, 0, none⟩) 4 4, .int .i64 4] gmap (256 : Int), Ent.blk b146m [.pointer none, .pointer none, .pointer none, .pointer none], Ent.own 9 tS lit8 gl]) 18 3 (fun yg157m => [.pointer (some ⟨b3m, 0, none⟩), .pointer (some ⟨b3m, 0, none⟩), .pointer (some ⟨b3m, 0, none⟩), .slice gl.a 8 gl.c, .int .i64 0, .pointer (some ⟨ab gl.a, ao gl.a + ((0 : Int)).toNat * 1, none⟩), .string ⟨⟨[13, 10]⟩⟩, .slice gl.a 8 gl.c, .int .i64 0, .int .i64 1, .pointer (some ⟨ab gl.a, ao gl.a + ((1 : Int)).toNat * 1, none⟩), .string ⟨⟨[10]⟩⟩, .slice gl.a 8 gl.c, .int .i64 8, .int .i64 0, .int .i64 8, .pointer (some ⟨b3m, 0, none⟩), .tuple ⟨[]⟩]) (fun yg157m => [[], [], [], [], [], [], [], [], [], [], [], [], [], [], [], [], [], [Ent.blk (ab (yg157m 17 0).a) [.string ⟨⟨[10]⟩⟩, .int .i64 8, .string ⟨⟨[]⟩⟩, .pointer none, .slice none 0 0], Ent.blk (ab (yg157m 17 1).a) [.string ⟨⟨[]⟩⟩, .int .i64 0, .string ⟨⟨[10]⟩⟩, .pointer (some ⟨(ab (yg157m 17 0).a), 0, none⟩), .slice none 0 0], Ent.blk b146m [.pointer none, .pointer none, .pointer none, .pointer (some ⟨(ab (yg157m 17 1).a), 0, none⟩)]]]) [[18, 19], [18, 19], [18, 19], [20], [], [20], [20], [20], [], [], [20], [20], [20], [20], [], [], [18, 19], [18, 19]] [[], [], [], [], [], [], [], [], [], [], [], [], [], [], [], [], [], [19]] [[0], [0, 1], [0, 1, 2], [3], [4], [3, 4, 5], [3, 4, 5, 6], [7], [8], [8, 9], [7, 8, 9, 10], [7, 8, 9, 10, 11], [12], [12, 13], [14], [12, 13, 14, 15], [16], [0, 1, 2, 3, 4, 5, 6, 7, 8, 9, 10, 11, 12, 13, 14, 15, 16, 17]] [] (FrG.keep (ks := [0, 3, 12]) H156m (by kernel_rfl)) (fun _ _ h => by cases h) (by kernel_rfl) hS (by kernel_rfl) rfl rfl (by kernel_rfl) (by kernel_rfl) (by kernel_rfl) (gd_none (by kernel_rfl) _ _) ?hloc_yg157m ?hstep_yg157m fun _ wd160m yg157m H161m hv hS => ?hK_yg157m
   case hloc_yg157m => exact ⟨(fun _ _ _ _ => ⟨rfl, rfl⟩), (fun _ _ _ _ => ⟨rfl, rfl⟩), (fun _ _ _ _ => ⟨rfl, rfl⟩), (fun _ _ _ _ => ⟨rfl, rfl⟩), (fun _ _ _ _ => ⟨rfl, rfl⟩), (fun _ _ _ _ => ⟨rfl, rfl⟩), (fun _ _ _ _ => ⟨rfl, rfl⟩), (fun _ _ _ _ => ⟨rfl, rfl⟩), (fun _ _ _ _ => ⟨rfl, rfl⟩), (fun _ _ _ _ => ⟨rfl, rfl⟩), (fun _ _ _ _ => ⟨rfl, rfl⟩), (fun _ _ _ _ => ⟨rfl, rfl⟩), (fun _ _ _ _ => ⟨rfl, rfl⟩), (fun _ _ _ _ => ⟨rfl, rfl⟩), (fun _ _ _ _ => ⟨rfl, rfl⟩), (fun _ _ _ _ => ⟨rfl, rfl⟩), (fun _ _ _ _ => ⟨rfl, rfl⟩), (fun yg157m i g hi => by have h17 : updC yg157m i g 17 = yg157m 17 := updC_out hi rfl; exact ⟨(show (.tuple ⟨[]⟩ : Value) = .tuple ⟨[]⟩ by simp only []), (show ([Ent.blk (ab ((updC yg157m i g) 17 0).a) [.string ⟨⟨[10]⟩⟩, .int .i64 8, .string ⟨⟨[]⟩⟩, .pointer none, .slice none 0 0], Ent.blk (ab ((updC yg157m i g) 17 1).a) [.string ⟨⟨[]⟩⟩, .int .i64 0, .string ⟨⟨[10]⟩⟩, .pointer (some ⟨(ab ((updC yg157m i g) 17 0).a), 0, none⟩), .slice none 0 0], Ent.blk b146m [.pointer none, .pointer none, .pointer none, .pointer (some ⟨(ab ((updC yg157m i g) 17 1).a), 0, none⟩)]] : List Ent) = [Ent.blk (ab (yg157m 17 0).a) [.string ⟨⟨[10]⟩⟩, .int .i64 8, .string ⟨⟨[]⟩⟩, .pointer none, .slice none 0 0], Ent.blk (ab (yg157m 17 1).a) [.string ⟨⟨[]⟩⟩, .int .i64 0, .string ⟨⟨[10]⟩⟩, .pointer (some ⟨(ab (yg157m 17 0).a), 0, none⟩), .slice none 0 0], Ent.blk b146m [.pointer none, .pointer none, .pointer none, .pointer (some ⟨(ab (yg157m 17 1).a), 0, none⟩)]] by simp only [h17])⟩), trivial⟩
   case hstep_yg157m =>
    refine ⟨?_, ?_, ?_, ?_, ?_, ?_, ?_, ?_, ?_, ?_, ?_, ?_, ?_, ?_, ?_, ?_, ?_, ?_, trivial⟩
    ·intro o ho a w yg157m M Hb hv hO hS0
     obtain rfl := Option.some.inj ho
     have H : Fr 117 ([] ++ [(0, [], .slice gl.a 8 gl.c), (3, [], .pointer (some ⟨b3m, 0, none⟩)), (12, [], .int .i64 0)]) _ := Hb
     obtain ⟨X, hX⟩ : ∃ X, X = fpl [Ent.mix .u8 b3m [.string ⟨⟨[]⟩⟩, .int .i64 0, .string ⟨⟨[]⟩⟩, .pointer none, .slice (some ⟨b146m, 0, none⟩) 4 4, .int .i64 4] gmap (256 : Int), Ent.blk b146m [.pointer none, .pointer none, .pointer none, .pointer none]] := ⟨_, rfl⟩
     have hS : SH M X w [Ent.mix .u8 b3m [.string ⟨⟨[]⟩⟩, .int .i64 0, .string ⟨⟨[]⟩⟩, .pointer none, .slice (some ⟨b146m, 0, none⟩) 4 4, .int .i64 4] gmap (256 : Int), Ent.blk b146m [.pointer none, .pointer none, .pointer none, .pointer none]] w := by rw [hX]; exact hS0
     refine Stp.mono (o_evs [] (.pointer (some ⟨b3m, 0, none⟩)) none [] H rfl (by kernel_rfl) (fun q e => by cases e)) ?_
     rintro v w2 ⟨rfl, hq⟩
     replace hS : SH M X w [Ent.mix .u8 b3m [.string ⟨⟨[]⟩⟩, .int .i64 0, .string ⟨⟨[]⟩⟩, .pointer none, .slice (some ⟨b146m, 0, none⟩) 4 4, .int .i64 4] gmap (256 : Int), Ent.blk b146m [.pointer none, .pointer none, .pointer none, .pointer none]] _ := hS.below hq.below
     rw [hX] at hS
     exact ⟨gL [], fun _ _ => rfl, hS.sel [0, 1] rfl⟩
    ·intro o ho a w yg157m M Hb hv hO hS0
     obtain rfl := Option.some.inj ho
     have H : Fr 117 ([(98, [], .pointer (some ⟨b3m, 0, none⟩))] ++ [(0, [], .slice gl.a 8 gl.c), (3, [], .pointer (some ⟨b3m, 0, none⟩)), (12, [], .int .i64 0)]) _ := (Hb).add (hv 0 (by decide) (by decide) 98 rfl)
     obtain ⟨X, hX⟩ : ∃ X, X = fpl [Ent.mix .u8 b3m [.string ⟨⟨[]⟩⟩, .int .i64 0, .string ⟨⟨[]⟩⟩, .pointer none, .slice (some ⟨b146m, 0, none⟩) 4 4, .int .i64 4] gmap (256 : Int), Ent.blk b146m [.pointer none, .pointer none, .pointer none, .pointer none]] := ⟨_, rfl⟩
     have hS : SH M X w [Ent.mix .u8 b3m [.string ⟨⟨[]⟩⟩, .int .i64 0, .string ⟨⟨[]⟩⟩, .pointer none, .slice (some ⟨b146m, 0, none⟩) 4 4, .int .i64 4] gmap (256 : Int), Ent.blk b146m [.pointer none, .pointer none, .pointer none, .pointer none]] w := by rw [hX]; exact hS0
     refine Stp.mono (o_evs [] (.pointer (some ⟨b3m, 0, none⟩)) none [] H rfl (by kernel_rfl) (fun q e => by cases e)) ?_
     rintro v w2 ⟨rfl, hq⟩
     replace hS : SH M X w [Ent.mix .u8 b3m [.string ⟨⟨[]⟩⟩, .int .i64 0, .string ⟨⟨[]⟩⟩, .pointer none, .slice (some ⟨b146m, 0, none⟩) 4 4, .int .i64 4] gmap (256 : Int), Ent.blk b146m [.pointer none, .pointer none, .pointer none, .pointer none]] _ := hS.below hq.below
     rw [hX] at hS
     exact ⟨gL [], fun _ _ => rfl, hS.sel [0, 1] rfl⟩
    ·intro o ho a w yg157m M Hb hv hO hS0
     obtain rfl := Option.some.inj ho
     have H : Fr 117 ([(99, [], .pointer (some ⟨b3m, 0, none⟩))] ++ [(0, [], .slice gl.a 8 gl.c), (3, [], .pointer (some ⟨b3m, 0, none⟩)), (12, [], .int .i64 0)]) _ := (Hb).add (hv 1 (by decide) (by decide) 99 rfl)
     obtain ⟨X, hX⟩ : ∃ X, X = fpl [Ent.mix .u8 b3m [.string ⟨⟨[]⟩⟩, .int .i64 0, .string ⟨⟨[]⟩⟩, .pointer none, .slice (some ⟨b146m, 0, none⟩) 4 4, .int .i64 4] gmap (256 : Int), Ent.blk b146m [.pointer none, .pointer none, .pointer none, .pointer none]] := ⟨_, rfl⟩
     have hS : SH M X w [Ent.mix .u8 b3m [.string ⟨⟨[]⟩⟩, .int .i64 0, .string ⟨⟨[]⟩⟩, .pointer none, .slice (some ⟨b146m, 0, none⟩) 4 4, .int .i64 4] gmap (256 : Int), Ent.blk b146m [.pointer none, .pointer none, .pointer none, .pointer none]] w := by rw [hX]; exact hS0
     refine Stp.mono (o_evs [] (.pointer (some ⟨b3m, 0, none⟩)) none [] H rfl (by kernel_rfl) (fun q e => by cases e)) ?_
     rintro v w2 ⟨rfl, hq⟩
     replace hS : SH M X w [Ent.mix .u8 b3m [.string ⟨⟨[]⟩⟩, .int .i64 0, .string ⟨⟨[]⟩⟩, .pointer none, .slice (some ⟨b146m, 0, none⟩) 4 4, .int .i64 4] gmap (256 : Int), Ent.blk b146m [.pointer none, .pointer none, .pointer none, .pointer none]] _ := hS.below hq.below
     rw [hX] at hS
     exact ⟨gL [], fun _ _ => rfl, hS.sel [0, 1] rfl⟩
    ·intro o ho a w yg157m M Hb hv hO hS0
     obtain rfl := Option.some.inj ho
     have H : Fr 117 ([] ++ [(0, [], .slice gl.a 8 gl.c), (3, [], .pointer (some ⟨b3m, 0, none⟩)), (12, [], .int .i64 0)]) _ := Hb
     obtain ⟨X, hX⟩ : ∃ X, X = fpl [Ent.own 9 tS lit8 gl] := ⟨_, rfl⟩
     have hS : SH M X w [Ent.own 9 tS lit8 gl] w := by rw [hX]; exact hS0
     refine Stp.mono (o_evs [] (.slice gl.a 8 gl.c) none [] H rfl (by kernel_rfl) (fun q e => by cases e)) ?_
     rintro v w2 ⟨rfl, hq⟩
     replace hS : SH M X w [Ent.own 9 tS lit8 gl] _ := hS.below hq.below
     rw [hX] at hS
     exact ⟨gL [], fun _ _ => rfl, hS.sel [0] rfl⟩
    ·intro o ho a w yg157m M Hb hv hO hS0
     obtain rfl := Option.some.inj ho
     have H : Fr 117 ([] ++ [(0, [], .slice gl.a 8 gl.c), (3, [], .pointer (some ⟨b3m, 0, none⟩)), (12, [], .int .i64 0)]) _ := Hb
     obtain ⟨X, hX⟩ : ∃ X, X = fpl [] := ⟨_, rfl⟩
     have hS : SH M X w [] w := by rw [hX]; exact hS0
     refine Stp.mono (o_evs [] (.int .i64 0) none [] H rfl (by kernel_rfl) (fun q e => by cases e)) ?_
     rintro v w2 ⟨rfl, hq⟩
     replace hS : SH M X w [] _ := hS.below hq.below
     rw [hX] at hS
     exact ⟨gL [], fun _ _ => rfl, hS.sel [] rfl⟩
    ·intro o ho a w yg157m M Hb hv hO hS0
     obtain rfl := Option.some.inj ho
     have H : Fr 117 ([(102, [], .int .i64 0), (101, [], .slice gl.a 8 gl.c)] ++ [(0, [], .slice gl.a 8 gl.c), (3, [], .pointer (some ⟨b3m, 0, none⟩)), (12, [], .int .i64 0)]) _ := ((Hb).add (hv 3 (by decide) (by decide) 101 rfl)).add (hv 4 (by decide) (by decide) 102 rfl)
     obtain ⟨X, hX⟩ : ∃ X, X = fpl [Ent.own 9 tS lit8 gl] := ⟨_, rfl⟩
     have hS : SH M X w [Ent.own 9 tS lit8 gl] w := by rw [hX]; exact hS0
     refine Stp.mono (o_evs [] (.pointer (some ⟨ab gl.a, ao gl.a + ((0 : Int)).toNat * 1, none⟩)) (some (fun _ => oka gl.a ∧ 0 ≤ (0 : Int) ∧ (0 : Int) < ln lit8)) [] H rfl (by kernel_rfl) (fun q e => by cases e; exact ((hS.osl 0 rfl).oki (show 0 ≤ (0 : Int) ∧ (0 : Int) < ln lit8 from by decide)))) ?_
     rintro v w2 ⟨rfl, hq⟩
     replace hS : SH M X w [Ent.own 9 tS lit8 gl] _ := hS.below hq.below
     rw [hX] at hS
     exact ⟨gL [], fun _ _ => rfl, hS.sel [0] rfl⟩
    ·intro o ho a w yg157m M Hb hv hO hS0
     obtain rfl := Option.some.inj ho
     have H : Fr 117 ([(103, [], .pointer (some ⟨ab gl.a, ao gl.a + ((0 : Int)).toNat * 1, none⟩))] ++ [(0, [], .slice gl.a 8 gl.c), (3, [], .pointer (some ⟨b3m, 0, none⟩)), (12, [], .int .i64 0)]) _ := (Hb).add (hv 5 (by decide) (by decide) 103 rfl)
     obtain ⟨X, hX⟩ : ∃ X, X = fpl [Ent.own 9 tS lit8 gl] := ⟨_, rfl⟩
     have hS : SH M X w [Ent.own 9 tS lit8 gl] w := by rw [hX]; exact hS0
     refine Stp.mono (o_evs [(.string ⟨⟨[13, 10]⟩⟩)] (.string ⟨⟨[13, 10]⟩⟩) (some (fun wz => V.at1 ⟨ab gl.a, ao gl.a + ((0 : Int)).toNat * 1, none⟩ (.string ⟨⟨[13, 10]⟩⟩) wz)) [] H rfl (by kernel_rfl) (fun q e => by cases e; exact ((hS.osl 0 rfl).at1 (show 0 ≤ (0 : Int) ∧ (0 : Int) < ln lit8 from by decide) 0 rfl))) ?_
     rintro v w2 ⟨rfl, hq⟩
     replace hS : SH M X w [Ent.own 9 tS lit8 gl] _ := hS.below hq.below
     rw [hX] at hS
     exact ⟨gL [], fun _ _ => rfl, hS.sel [0] rfl⟩
    ·intro o ho a w yg157m M Hb hv hO hS0
     obtain rfl := Option.some.inj ho
     have H : Fr 117 ([] ++ [(0, [], .slice gl.a 8 gl.c), (3, [], .pointer (some ⟨b3m, 0, none⟩)), (12, [], .int .i64 0)]) _ := Hb
     obtain ⟨X, hX⟩ : ∃ X, X = fpl [Ent.own 9 tS lit8 gl] := ⟨_, rfl⟩
     have hS : SH M X w [Ent.own 9 tS lit8 gl] w := by rw [hX]; exact hS0
     refine Stp.mono (o_evs [] (.slice gl.a 8 gl.c) none [] H rfl (by kernel_rfl) (fun q e => by cases e)) ?_
     rintro v w2 ⟨rfl, hq⟩
     replace hS : SH M X w [Ent.own 9 tS lit8 gl] _ := hS.below hq.below
     rw [hX] at hS
     exact ⟨gL [], fun _ _ => rfl, hS.sel [0] rfl⟩
    ·intro o ho a w yg157m M Hb hv hO hS0
     obtain rfl := Option.some.inj ho
     have H : Fr 117 ([] ++ [(0, [], .slice gl.a 8 gl.c), (3, [], .pointer (some ⟨b3m, 0, none⟩)), (12, [], .int .i64 0)]) _ := Hb
     obtain ⟨X, hX⟩ : ∃ X, X = fpl [] := ⟨_, rfl⟩
     have hS : SH M X w [] w := by rw [hX]; exact hS0
     refine Stp.mono (o_evs [] (.int .i64 0) none [] H rfl (by kernel_rfl) (fun q e => by cases e)) ?_
     rintro v w2 ⟨rfl, hq⟩
     replace hS : SH M X w [] _ := hS.below hq.below
     rw [hX] at hS
     exact ⟨gL [], fun _ _ => rfl, hS.sel [] rfl⟩
    ·intro o ho a w yg157m M Hb hv hO hS0
     obtain rfl := Option.some.inj ho
     have H : Fr 117 ([(106, [], .int .i64 0)] ++ [(0, [], .slice gl.a 8 gl.c), (3, [], .pointer (some ⟨b3m, 0, none⟩)), (12, [], .int .i64 0)]) _ := (Hb).add (hv 8 (by decide) (by decide) 106 rfl)
     obtain ⟨X, hX⟩ : ∃ X, X = fpl [] := ⟨_, rfl⟩
     have hS : SH M X w [] w := by rw [hX]; exact hS0
     refine Stp.mono (o_evs [] (.int .i64 1) none [] H rfl (by kernel_rfl) (fun q e => by cases e)) ?_
     rintro v w2 ⟨rfl, hq⟩
     replace hS : SH M X w [] _ := hS.below hq.below
     rw [hX] at hS
     exact ⟨gL [], fun _ _ => rfl, hS.sel [] rfl⟩
    ·intro o ho a w yg157m M Hb hv hO hS0
     obtain rfl := Option.some.inj ho
     have H : Fr 117 ([(107, [], .int .i64 1), (105, [], .slice gl.a 8 gl.c)] ++ [(0, [], .slice gl.a 8 gl.c), (3, [], .pointer (some ⟨b3m, 0, none⟩)), (12, [], .int .i64 0)]) _ := ((Hb).add (hv 7 (by decide) (by decide) 105 rfl)).add (hv 9 (by decide) (by decide) 107 rfl)
     obtain ⟨X, hX⟩ : ∃ X, X = fpl [Ent.own 9 tS lit8 gl] := ⟨_, rfl⟩
     have hS : SH M X w [Ent.own 9 tS lit8 gl] w := by rw [hX]; exact hS0
     refine Stp.mono (o_evs [] (.pointer (some ⟨ab gl.a, ao gl.a + ((1 : Int)).toNat * 1, none⟩)) (some (fun _ => oka gl.a ∧ 0 ≤ (1 : Int) ∧ (1 : Int) < ln lit8)) [] H rfl (by kernel_rfl) (fun q e => by cases e; exact ((hS.osl 0 rfl).oki (show 0 ≤ (1 : Int) ∧ (1 : Int) < ln lit8 from by decide)))) ?_
     rintro v w2 ⟨rfl, hq⟩
     replace hS : SH M X w [Ent.own 9 tS lit8 gl] _ := hS.below hq.below
     rw [hX] at hS
     exact ⟨gL [], fun _ _ => rfl, hS.sel [0] rfl⟩
    ·intro o ho a w yg157m M Hb hv hO hS0
     obtain rfl := Option.some.inj ho
     have H : Fr 117 ([(108, [], .pointer (some ⟨ab gl.a, ao gl.a + ((1 : Int)).toNat * 1, none⟩))] ++ [(0, [], .slice gl.a 8 gl.c), (3, [], .pointer (some ⟨b3m, 0, none⟩)), (12, [], .int .i64 0)]) _ := (Hb).add (hv 10 (by decide) (by decide) 108 rfl)
     obtain ⟨X, hX⟩ : ∃ X, X = fpl [Ent.own 9 tS lit8 gl] := ⟨_, rfl⟩
     have hS : SH M X w [Ent.own 9 tS lit8 gl] w := by rw [hX]; exact hS0
     refine Stp.mono (o_evs [(.string ⟨⟨[10]⟩⟩)] (.string ⟨⟨[10]⟩⟩) (some (fun wz => V.at1 ⟨ab gl.a, ao gl.a + ((1 : Int)).toNat * 1, none⟩ (.string ⟨⟨[10]⟩⟩) wz)) [] H rfl (by kernel_rfl) (fun q e => by cases e; exact ((hS.osl 0 rfl).at1 (show 0 ≤ (1 : Int) ∧ (1 : Int) < ln lit8 from by decide) 0 rfl))) ?_
     rintro v w2 ⟨rfl, hq⟩
     replace hS : SH M X w [Ent.own 9 tS lit8 gl] _ := hS.below hq.below
     rw [hX] at hS
     exact ⟨gL [], fun _ _ => rfl, hS.sel [0] rfl⟩
    ·intro o ho a w yg157m M Hb hv hO hS0
     obtain rfl := Option.some.inj ho
     have H : Fr 117 ([] ++ [(0, [], .slice gl.a 8 gl.c), (3, [], .pointer (some ⟨b3m, 0, none⟩)), (12, [], .int .i64 0)]) _ := Hb
     obtain ⟨X, hX⟩ : ∃ X, X = fpl [Ent.own 9 tS lit8 gl] := ⟨_, rfl⟩
     have hS : SH M X w [Ent.own 9 tS lit8 gl] w := by rw [hX]; exact hS0
     refine Stp.mono (o_evs [] (.slice gl.a 8 gl.c) none [] H rfl (by kernel_rfl) (fun q e => by cases e)) ?_
     rintro v w2 ⟨rfl, hq⟩
     replace hS : SH M X w [Ent.own 9 tS lit8 gl] _ := hS.below hq.below
     rw [hX] at hS
     exact ⟨gL [], fun _ _ => rfl, hS.sel [0] rfl⟩
    ·intro o ho a w yg157m M Hb hv hO hS0
     obtain rfl := Option.some.inj ho
     have H : Fr 117 ([(110, [], .slice gl.a 8 gl.c)] ++ [(0, [], .slice gl.a 8 gl.c), (3, [], .pointer (some ⟨b3m, 0, none⟩)), (12, [], .int .i64 0)]) _ := (Hb).add (hv 12 (by decide) (by decide) 110 rfl)
     obtain ⟨X, hX⟩ : ∃ X, X = fpl [Ent.own 9 tS lit8 gl] := ⟨_, rfl⟩
     have hS : SH M X w [Ent.own 9 tS lit8 gl] w := by rw [hX]; exact hS0
     refine Stp.mono (o_evs [] (.int .i64 8) none [] H rfl (by kernel_rfl) (fun q e => by cases e)) ?_
     rintro v w2 ⟨rfl, hq⟩
     replace hS : SH M X w [Ent.own 9 tS lit8 gl] _ := hS.below hq.below
     rw [hX] at hS
     exact ⟨gL [], fun _ _ => rfl, hS.sel [0] rfl⟩
    ·intro o ho a w yg157m M Hb hv hO hS0
     obtain rfl := Option.some.inj ho
     have H : Fr 117 ([] ++ [(0, [], .slice gl.a 8 gl.c), (3, [], .pointer (some ⟨b3m, 0, none⟩)), (12, [], .int .i64 0)]) _ := Hb
     obtain ⟨X, hX⟩ : ∃ X, X = fpl [] := ⟨_, rfl⟩
     have hS : SH M X w [] w := by rw [hX]; exact hS0
     refine Stp.mono (o_evs [] (.int .i64 0) none [] H rfl (by kernel_rfl) (fun q e => by cases e)) ?_
     rintro v w2 ⟨rfl, hq⟩
     replace hS : SH M X w [] _ := hS.below hq.below
     rw [hX] at hS
     exact ⟨gL [], fun _ _ => rfl, hS.sel [] rfl⟩
    ·intro o ho a w yg157m M Hb hv hO hS0
     obtain rfl := Option.some.inj ho
     have H : Fr 117 ([(112, [], .int .i64 0), (111, [], .int .i64 8)] ++ [(0, [], .slice gl.a 8 gl.c), (3, [], .pointer (some ⟨b3m, 0, none⟩)), (12, [], .int .i64 0)]) _ := ((Hb).add (hv 13 (by decide) (by decide) 111 rfl)).add (hv 14 (by decide) (by decide) 112 rfl)
     obtain ⟨X, hX⟩ : ∃ X, X = fpl [] := ⟨_, rfl⟩
     have hS : SH M X w [] w := by rw [hX]; exact hS0
     refine Stp.mono (o_evs [] (.int .i64 8) none [] H rfl (by kernel_rfl) (fun q e => by cases e)) ?_
     rintro v w2 ⟨rfl, hq⟩
     replace hS : SH M X w [] _ := hS.below hq.below
     rw [hX] at hS
     exact ⟨gL [], fun _ _ => rfl, hS.sel [] rfl⟩
    ·intro o ho a w yg157m M Hb hv hO hS0
     obtain rfl := Option.some.inj ho
     have H : Fr 117 ([] ++ [(0, [], .slice gl.a 8 gl.c), (3, [], .pointer (some ⟨b3m, 0, none⟩)), (12, [], .int .i64 0)]) _ := Hb
     obtain ⟨X, hX⟩ : ∃ X, X = fpl [Ent.mix .u8 b3m [.string ⟨⟨[]⟩⟩, .int .i64 0, .string ⟨⟨[]⟩⟩, .pointer none, .slice (some ⟨b146m, 0, none⟩) 4 4, .int .i64 4] gmap (256 : Int), Ent.blk b146m [.pointer none, .pointer none, .pointer none, .pointer none]] := ⟨_, rfl⟩
     have hS : SH M X w [Ent.mix .u8 b3m [.string ⟨⟨[]⟩⟩, .int .i64 0, .string ⟨⟨[]⟩⟩, .pointer none, .slice (some ⟨b146m, 0, none⟩) 4 4, .int .i64 4] gmap (256 : Int), Ent.blk b146m [.pointer none, .pointer none, .pointer none, .pointer none]] w := by rw [hX]; exact hS0
     refine Stp.mono (o_evs [] (.pointer (some ⟨b3m, 0, none⟩)) none [] H rfl (by kernel_rfl) (fun q e => by cases e)) ?_
     rintro v w2 ⟨rfl, hq⟩
     replace hS : SH M X w [Ent.mix .u8 b3m [.string ⟨⟨[]⟩⟩, .int .i64 0, .string ⟨⟨[]⟩⟩, .pointer none, .slice (some ⟨b146m, 0, none⟩) 4 4, .int .i64 4] gmap (256 : Int), Ent.blk b146m [.pointer none, .pointer none, .pointer none, .pointer none]] _ := hS.below hq.below
     rw [hX] at hS
     exact ⟨gL [], fun _ _ => rfl, hS.sel [0, 1] rfl⟩
    ·intro o ho a w yg157m M Hb hv hO hS0
     obtain rfl := Option.some.inj ho
     have H : Fr 117 ([(114, [], .pointer (some ⟨b3m, 0, none⟩)), (113, [], .int .i64 8), (109, [], .string ⟨⟨[10]⟩⟩), (104, [], .string ⟨⟨[13, 10]⟩⟩), (100, [], .pointer (some ⟨b3m, 0, none⟩))] ++ [(0, [], .slice gl.a 8 gl.c), (3, [], .pointer (some ⟨b3m, 0, none⟩)), (12, [], .int .i64 0)]) _ := (((((Hb).add (hv 2 (by decide) (by decide) 100 rfl)).add (hv 6 (by decide) (by decide) 104 rfl)).add (hv 11 (by decide) (by decide) 109 rfl)).add (hv 15 (by decide) (by decide) 113 rfl)).add (hv 16 (by decide) (by decide) 114 rfl)
     obtain ⟨X, hX⟩ : ∃ X, X = fpl [Ent.mix .u8 b3m [.string ⟨⟨[]⟩⟩, .int .i64 0, .string ⟨⟨[]⟩⟩, .pointer none, .slice (some ⟨b146m, 0, none⟩) 4 4, .int .i64 4] gmap (256 : Int), Ent.blk b146m [.pointer none, .pointer none, .pointer none, .pointer none]] := ⟨_, rfl⟩
     have hS : SH M X w [Ent.mix .u8 b3m [.string ⟨⟨[]⟩⟩, .int .i64 0, .string ⟨⟨[]⟩⟩, .pointer none, .slice (some ⟨b146m, 0, none⟩) 4 4, .int .i64 4] gmap (256 : Int), Ent.blk b146m [.pointer none, .pointer none, .pointer none, .pointer none]] w := by rw [hX]; exact hS0
     have hd := hS.hand [0, 1] [] rfl rfl
     refine Stp.mono (o_callx H rfl rfl (strings_trieNode_add_cs _ _ hd)) ?_
     rintro v w2 hq
     obtain ⟨b158m, b159m, rfl, hq⟩ := hq
     replace hS : SH M X w [Ent.blk b159m [.string ⟨⟨[10]⟩⟩, .int .i64 8, .string ⟨⟨[]⟩⟩, .pointer none, .slice none 0 0], Ent.blk b158m [.string ⟨⟨[]⟩⟩, .int .i64 0, .string ⟨⟨[10]⟩⟩, .pointer (some ⟨b159m, 0, none⟩), .slice none 0 0], Ent.blk b146m [.pointer none, .pointer none, .pointer none, .pointer (some ⟨b158m, 0, none⟩)], Ent.mix .u8 b3m [.string ⟨⟨[]⟩⟩, .int .i64 0, .string ⟨⟨[]⟩⟩, .pointer none, .slice (some ⟨b146m, 0, none⟩) 4 4, .int .i64 4] gmap (256 : Int)] _ := hS.join [0, 1] [] rfl rfl hq
     clear hq
     rw [hX] at hS
     exact ⟨gL [Gh.mk (some ⟨b159m, 0, none⟩) 0 fun _ _ => .nil, Gh.mk (some ⟨b158m, 0, none⟩) 0 fun _ _ => .nil], fun _ _ => rfl, hS.sel [0, 1, 2, 3] rfl⟩
   have H162m : Fr 117 [(0, [], .slice gl.a 8 gl.c), (3, [], .pointer (some ⟨b3m, 0, none⟩)), (12, [], .int .i64 0)] _ := (FrG.keep (ks := [0, 3, 12]) H161m (by kernel_rfl))
   replace hS : SH M X w [Ent.blk (ab (yg157m 17 0).a) [.string ⟨⟨[10]⟩⟩, .int .i64 8, .string ⟨⟨[]⟩⟩, .pointer none, .slice none 0 0], Ent.blk (ab (yg157m 17 1).a) [.string ⟨⟨[]⟩⟩, .int .i64 0, .string ⟨⟨[10]⟩⟩, .pointer (some ⟨(ab (yg157m 17 0).a), 0, none⟩), .slice none 0 0], Ent.blk b146m [.pointer none, .pointer none, .pointer none, .pointer (some ⟨(ab (yg157m 17 1).a), 0, none⟩)], Ent.mix .u8 b3m [.string ⟨⟨[]⟩⟩, .int .i64 0, .string ⟨⟨[]⟩⟩, .pointer none, .slice (some ⟨b146m, 0, none⟩) 4 4, .int .i64 4] gmap (256 : Int), Ent.own 9 tS lit8 gl] _ := hS
   clear hv H161m
   generalize ab (yg157m 17 0).a = b163m at H162m hS
   generalize ab (yg157m 17 1).a = b164m at H162m hS
   refine w_reg [] [0, 3, 12] [(0, [], .slice gl.a 8 gl.c), (3, [], .pointer (some ⟨b3m, 0, none⟩)), (12, [], .int .i64 2)] [] H162m (by kernel_rfl) trivial fun _ wd165m H166m hb => ?_
   clear H162m
   replace hS := hS.below hb
   clear hb
   refine lw_round ?_
   refine w_seq ?_
   refine s_reg [] [0, 3, 12, 95] [(0, [], .slice gl.a 8 gl.c), (3, [], .pointer (some ⟨b3m, 0, none⟩)), (12, [], .int .i64 2), (95, [], .bool true)] [] H166m (by kernel_rfl) trivial fun _ wd167m H168m hb => ?_
   clear H166m
   replace hS := hS.below hb
   clear hb
   refine w_if H168m rfl (fun _ => ?_) (fun hc => by cases hc)
   refine w_skip ?_
   refine w_seq ?_
   refine w_block ?_
   refine w_drawS (base := [(0, [], .slice gl.a 8 gl.c), (3, [], .pointer (some ⟨b3m, 0, none⟩)), (12, [], .int .i64 2)]) (L := [Ent.blk b163m [.string ⟨⟨[10]⟩⟩, .int .i64 8, .string ⟨⟨[]⟩⟩, .pointer none, .slice none 0 0], Ent.blk b164m [.string ⟨⟨[]⟩⟩, .int .i64 0, .string ⟨⟨[10]⟩⟩, .pointer (some ⟨b163m, 0, none⟩), .slice none 0 0], Ent.blk b146m [.pointer none, .pointer none, .pointer none, .pointer (some ⟨b164m, 0, none⟩)], Ent.mix .u8 b3m [.string ⟨⟨[]⟩⟩, .int .i64 0, .string ⟨⟨[]⟩⟩, .pointer none, .slice (some ⟨b146m, 0, none⟩) 4 4, .int .i64 4] gmap (256 : Int), Ent.own 9 tS lit8 gl]) 18 5 (fun yg169m => [.pointer (some ⟨b3m, 0, none⟩), .pointer (some ⟨b3m, 0, none⟩), .pointer (some ⟨b3m, 0, none⟩), .slice gl.a 8 gl.c, .int .i64 2, .pointer (some ⟨ab gl.a, ao gl.a + ((2 : Int)).toNat * 1, none⟩), .string ⟨⟨[13]⟩⟩, .slice gl.a 8 gl.c, .int .i64 2, .int .i64 3, .pointer (some ⟨ab gl.a, ao gl.a + ((3 : Int)).toNat * 1, none⟩), .string ⟨⟨[10]⟩⟩, .slice gl.a 8 gl.c, .int .i64 8, .int .i64 2, .int .i64 6, .pointer (some ⟨b3m, 0, none⟩), .tuple ⟨[]⟩]) (fun yg169m => [[], [], [], [], [], [], [], [], [], [], [], [], [], [], [], [], [], [Ent.blk b164m [.string ⟨⟨[10]⟩⟩, .int .i64 6, .string ⟨⟨[10]⟩⟩, .pointer (some ⟨b163m, 0, none⟩), .slice none 0 0]]]) [[18, 19, 20, 21], [18, 19, 20, 21], [18, 19, 20, 21], [22], [], [22], [22], [22], [], [], [22], [22], [22], [22], [], [], [18, 19, 20, 21], [18, 19, 20, 21]] [[], [], [], [], [], [], [], [], [], [], [], [], [], [], [], [], [], [19]] [[0], [0, 1], [0, 1, 2], [3], [4], [3, 4, 5], [3, 4, 5, 6], [7], [8], [8, 9], [7, 8, 9, 10], [7, 8, 9, 10, 11], [12], [12, 13], [14], [12, 13, 14, 15], [16], [0, 1, 2, 3, 4, 5, 6, 7, 8, 9, 10, 11, 12, 13, 14, 15, 16, 17]] [] (FrG.keep (ks := [0, 3, 12]) H168m (by kernel_rfl)) (fun _ _ h => by cases h) (by kernel_rfl) hS (by kernel_rfl) rfl rfl (by kernel_rfl) (by kernel_rfl) (by kernel_rfl) (gd_none (by kernel_rfl) _ _) ?hloc_yg169m ?hstep_yg169m fun _ wd170m yg169m H171m hv hS => ?hK_yg169m
   case hloc_yg169m => exact ⟨(fun _ _ _ _ => ⟨rfl, rfl⟩), (fun _ _ _ _ => ⟨rfl, rfl⟩), (fun _ _ _ _ => ⟨rfl, rfl⟩), (fun _ _ _ _ => ⟨rfl, rfl⟩), (fun _ _ _ _ => ⟨rfl, rfl⟩), (fun _ _ _ _ => ⟨rfl, rfl⟩), (fun _ _ _ _ => ⟨rfl, rfl⟩), (fun _ _ _ _ => ⟨rfl, rfl⟩), (fun _ _ _ _ => ⟨rfl, rfl⟩), (fun _ _ _ _ => ⟨rfl, rfl⟩), (fun _ _ _ _ => ⟨rfl, rfl⟩), (fun _ _ _ _ => ⟨rfl, rfl⟩), (fun _ _ _ _ => ⟨rfl, rfl⟩), (fun _ _ _ _ => ⟨rfl, rfl⟩), (fun _ _ _ _ => ⟨rfl, rfl⟩), (fun _ _ _ _ => ⟨rfl, rfl⟩), (fun _ _ _ _ => ⟨rfl, rfl⟩), (fun _ _ _ _ => ⟨rfl, rfl⟩), trivial⟩
   case hstep_yg169m =>
    refine ⟨?_, ?_, ?_, ?_, ?_, ?_, ?_, ?_, ?_, ?_, ?_, ?_, ?_, ?_, ?_, ?_, ?_, ?_, trivial⟩
    ·intro o ho a w yg169m M Hb hv hO hS0
     obtain rfl := Option.some.inj ho
     have H : Fr 117 ([] ++ [(0, [], .slice gl.a 8 gl.c), (3, [], .pointer (some ⟨b3m, 0, none⟩)), (12, [], .int .i64 2)]) _ := Hb
     obtain ⟨X, hX⟩ : ∃ X, X = fpl [Ent.blk b163m [.string ⟨⟨[10]⟩⟩, .int .i64 8, .string ⟨⟨[]⟩⟩, .pointer none, .slice none 0 0], Ent.blk b164m [.string ⟨⟨[]⟩⟩, .int .i64 0, .string ⟨⟨[10]⟩⟩, .pointer (some ⟨b163m, 0, none⟩), .slice none 0 0], Ent.blk b146m [.pointer none, .pointer none, .pointer none, .pointer (some ⟨b164m, 0, none⟩)], Ent.mix .u8 b3m [.string ⟨⟨[]⟩⟩, .int .i64 0, .string ⟨⟨[]⟩⟩, .pointer none, .slice (some ⟨b146m, 0, none⟩) 4 4, .int .i64 4] gmap (256 : Int)] := ⟨_, rfl⟩
     have hS : SH M X w [Ent.blk b163m [.string ⟨⟨[10]⟩⟩, .int .i64 8, .string ⟨⟨[]⟩⟩, .pointer none, .slice none 0 0], Ent.blk b164m [.string ⟨⟨[]⟩⟩, .int .i64 0, .string ⟨⟨[10]⟩⟩, .pointer (some ⟨b163m, 0, none⟩), .slice none 0 0], Ent.blk b146m [.pointer none, .pointer none, .pointer none, .pointer (some ⟨b164m, 0, none⟩)], Ent.mix .u8 b3m [.string ⟨⟨[]⟩⟩, .int .i64 0, .string ⟨⟨[]⟩⟩, .pointer none, .slice (some ⟨b146m, 0, none⟩) 4 4, .int .i64 4] gmap (256 : Int)] w := by rw [hX]; exact hS0
     refine Stp.mono (o_evs [] (.pointer (some ⟨b3m, 0, none⟩)) none [] H rfl (by kernel_rfl) (fun q e => by cases e)) ?_
     rintro v w2 ⟨rfl, hq⟩
     replace hS : SH M X w [Ent.blk b163m [.string ⟨⟨[10]⟩⟩, .int .i64 8, .string ⟨⟨[]⟩⟩, .pointer none, .slice none 0 0], Ent.blk b164m [.string ⟨⟨[]⟩⟩, .int .i64 0, .string ⟨⟨[10]⟩⟩, .pointer (some ⟨b163m, 0, none⟩), .slice none 0 0], Ent.blk b146m [.pointer none, .pointer none, .pointer none, .pointer (some ⟨b164m, 0, none⟩)], Ent.mix .u8 b3m [.string ⟨⟨[]⟩⟩, .int .i64 0, .string ⟨⟨[]⟩⟩, .pointer none, .slice (some ⟨b146m, 0, none⟩) 4 4, .int .i64 4] gmap (256 : Int)] _ := hS.below hq.below
     rw [hX] at hS
     exact ⟨gL [], fun _ _ => rfl, hS.sel [0, 1, 2, 3] rfl⟩
    ·intro o ho a w yg169m M Hb hv hO hS0
     obtain rfl := Option.some.inj ho
     have H : Fr 117 ([(98, [], .pointer (some ⟨b3m, 0, none⟩))] ++ [(0, [], .slice gl.a 8 gl.c), (3, [], .pointer (some ⟨b3m, 0, none⟩)), (12, [], .int .i64 2)]) _ := (Hb).add (hv 0 (by decide) (by decide) 98 rfl)
     obtain ⟨X, hX⟩ : ∃ X, X = fpl [Ent.blk b163m [.string ⟨⟨[10]⟩⟩, .int .i64 8, .string ⟨⟨[]⟩⟩, .pointer none, .slice none 0 0], Ent.blk b164m [.string ⟨⟨[]⟩⟩, .int .i64 0, .string ⟨⟨[10]⟩⟩, .pointer (some ⟨b163m, 0, none⟩), .slice none 0 0], Ent.blk b146m [.pointer none, .pointer none, .pointer none, .pointer (some ⟨b164m, 0, none⟩)], Ent.mix .u8 b3m [.string ⟨⟨[]⟩⟩, .int .i64 0, .string ⟨⟨[]⟩⟩, .pointer none, .slice (some ⟨b146m, 0, none⟩) 4 4, .int .i64 4] gmap (256 : Int)] := ⟨_, rfl⟩
     have hS : SH M X w [Ent.blk b163m [.string ⟨⟨[10]⟩⟩, .int .i64 8, .string ⟨⟨[]⟩⟩, .pointer none, .slice none 0 0], Ent.blk b164m [.string ⟨⟨[]⟩⟩, .int .i64 0, .string ⟨⟨[10]⟩⟩, .pointer (some ⟨b163m, 0, none⟩), .slice none 0 0], Ent.blk b146m [.pointer none, .pointer none, .pointer none, .pointer (some ⟨b164m, 0, none⟩)], Ent.mix .u8 b3m [.string ⟨⟨[]⟩⟩, .int .i64 0, .string ⟨⟨[]⟩⟩, .pointer none, .slice (some ⟨b146m, 0, none⟩) 4 4, .int .i64 4] gmap (256 : Int)] w := by rw [hX]; exact hS0
     refine Stp.mono (o_evs [] (.pointer (some ⟨b3m, 0, none⟩)) none [] H rfl (by kernel_rfl) (fun q e => by cases e)) ?_
     rintro v w2 ⟨rfl, hq⟩
     replace hS : SH M X w [Ent.blk b163m [.string ⟨⟨[10]⟩⟩, .int .i64 8, .string ⟨⟨[]⟩⟩, .pointer none, .slice none 0 0], Ent.blk b164m [.string ⟨⟨[]⟩⟩, .int .i64 0, .string ⟨⟨[10]⟩⟩, .pointer (some ⟨b163m, 0, none⟩), .slice none 0 0], Ent.blk b146m [.pointer none, .pointer none, .pointer none, .pointer (some ⟨b164m, 0, none⟩)], Ent.mix .u8 b3m [.string ⟨⟨[]⟩⟩, .int .i64 0, .string ⟨⟨[]⟩⟩, .pointer none, .slice (some ⟨b146m, 0, none⟩) 4 4, .int .i64 4] gmap (256 : Int)] _ := hS.below hq.below
     rw [hX] at hS
     exact ⟨gL [], fun _ _ => rfl, hS.sel [0, 1, 2, 3] rfl⟩
    ·intro o ho a w yg169m M Hb hv hO hS0
     obtain rfl := Option.some.inj ho
     have H : Fr 117 ([(99, [], .pointer (some ⟨b3m, 0, none⟩))] ++ [(0, [], .slice gl.a 8 gl.c), (3, [], .pointer (some ⟨b3m, 0, none⟩)), (12, [], .int .i64 2)]) _ := (Hb).add (hv 1 (by decide) (by decide) 99 rfl)
     obtain ⟨X, hX⟩ : ∃ X, X = fpl [Ent.blk b163m [.string ⟨⟨[10]⟩⟩, .int .i64 8, .string ⟨⟨[]⟩⟩, .pointer none, .slice none 0 0], Ent.blk b164m [.string ⟨⟨[]⟩⟩, .int .i64 0, .string ⟨⟨[10]⟩⟩, .pointer (some ⟨b163m, 0, none⟩), .slice none 0 0], Ent.blk b146m [.pointer none, .pointer none, .pointer none, .pointer (some ⟨b164m, 0, none⟩)], Ent.mix .u8 b3m [.string ⟨⟨[]⟩⟩, .int .i64 0, .string ⟨⟨[]⟩⟩, .pointer none, .slice (some ⟨b146m, 0, none⟩) 4 4, .int .i64 4] gmap (256 : Int)] := ⟨_, rfl⟩
     have hS : SH M X w [Ent.blk b163m [.string ⟨⟨[10]⟩⟩, .int .i64 8, .string ⟨⟨[]⟩⟩, .pointer none, .slice none 0 0], Ent.blk b164m [.string ⟨⟨[]⟩⟩, .int .i64 0, .string ⟨⟨[10]⟩⟩, .pointer (some ⟨b163m, 0, none⟩), .slice none 0 0], Ent.blk b146m [.pointer none, .pointer none, .pointer none, .pointer (some ⟨b164m, 0, none⟩)], Ent.mix .u8 b3m [.string ⟨⟨[]⟩⟩, .int .i64 0, .string ⟨⟨[]⟩⟩, .pointer none, .slice (some ⟨b146m, 0, none⟩) 4 4, .int .i64 4] gmap (256 : Int)] w := by rw [hX]; exact hS0
     refine Stp.mono (o_evs [] (.pointer (some ⟨b3m, 0, none⟩)) none [] H rfl (by kernel_rfl) (fun q e => by cases e)) ?_
     rintro v w2 ⟨rfl, hq⟩
     replace hS : SH M X w [Ent.blk b163m [.string ⟨⟨[10]⟩⟩, .int .i64 8, .string ⟨⟨[]⟩⟩, .pointer none, .slice none 0 0], Ent.blk b164m [.string ⟨⟨[]⟩⟩, .int .i64 0, .string ⟨⟨[10]⟩⟩, .pointer (some ⟨b163m, 0, none⟩), .slice none 0 0], Ent.blk b146m [.pointer none, .pointer none, .pointer none, .pointer (some ⟨b164m, 0, none⟩)], Ent.mix .u8 b3m [.string ⟨⟨[]⟩⟩, .int .i64 0, .string ⟨⟨[]⟩⟩, .pointer none, .slice (some ⟨b146m, 0, none⟩) 4 4, .int .i64 4] gmap (256 : Int)] _ := hS.below hq.below
     rw [hX] at hS
     exact ⟨gL [], fun _ _ => rfl, hS.sel [0, 1, 2, 3] rfl⟩
    ·intro o ho a w yg169m M Hb hv hO hS0
     obtain rfl := Option.some.inj ho
     have H : Fr 117 ([] ++ [(0, [], .slice gl.a 8 gl.c), (3, [], .pointer (some ⟨b3m, 0, none⟩)), (12, [], .int .i64 2)]) _ := Hb
     obtain ⟨X, hX⟩ : ∃ X, X = fpl [Ent.own 9 tS lit8 gl] := ⟨_, rfl⟩
     have hS : SH M X w [Ent.own 9 tS lit8 gl] w := by rw [hX]; exact hS0
     refine Stp.mono (o_evs [] (.slice gl.a 8 gl.c) none [] H rfl (by kernel_rfl) (fun q e => by cases e)) ?_
     rintro v w2 ⟨rfl, hq⟩
     replace hS : SH M X w [Ent.own 9 tS lit8 gl] _ := hS.below hq.below
     rw [hX] at hS
     exact ⟨gL [], fun _ _ => rfl, hS.sel [0] rfl⟩
    ·intro o ho a w yg169m M Hb hv hO hS0
     obtain rfl := Option.some.inj ho
     have H : Fr 117 ([] ++ [(0, [], .slice gl.a 8 gl.c), (3, [], .pointer (some ⟨b3m, 0, none⟩)), (12, [], .int .i64 2)]) _ := Hb
     obtain ⟨X, hX⟩ : ∃ X, X = fpl [] := ⟨_, rfl⟩
     have hS : SH M X w [] w := by rw [hX]; exact hS0
     refine Stp.mono (o_evs [] (.int .i64 2) none [] H rfl (by kernel_rfl) (fun q e => by cases e)) ?_
     rintro v w2 ⟨rfl, hq⟩
     replace hS : SH M X w [] _ := hS.below hq.below
     rw [hX] at hS
     exact ⟨gL [], fun _ _ => rfl, hS.sel [] rfl⟩
    ·intro o ho a w yg169m M Hb hv hO hS0
     obtain rfl := Option.some.inj ho
     have H : Fr 117 ([(102, [], .int .i64 2), (101, [], .slice gl.a 8 gl.c)] ++ [(0, [], .slice gl.a 8 gl.c), (3, [], .pointer (some ⟨b3m, 0, none⟩)), (12, [], .int .i64 2)]) _ := ((Hb).add (hv 3 (by decide) (by decide) 101 rfl)).add (hv 4 (by decide) (by decide) 102 rfl)
     obtain ⟨X, hX⟩ : ∃ X, X = fpl [Ent.own 9 tS lit8 gl] := ⟨_, rfl⟩
     have hS : SH M X w [Ent.own 9 tS lit8 gl] w := by rw [hX]; exact hS0
     refine Stp.mono (o_evs [] (.pointer (some ⟨ab gl.a, ao gl.a + ((2 : Int)).toNat * 1, none⟩)) (some (fun _ => oka gl.a ∧ 0 ≤ (2 : Int) ∧ (2 : Int) < ln lit8)) [] H rfl (by kernel_rfl) (fun q e => by cases e; exact ((hS.osl 0 rfl).oki (show 0 ≤ (2 : Int) ∧ (2 : Int) < ln lit8 from by decide)))) ?_
     rintro v w2 ⟨rfl, hq⟩
     replace hS : SH M X w [Ent.own 9 tS lit8 gl] _ := hS.below hq.below
     rw [hX] at hS
     exact ⟨gL [], fun _ _ => rfl, hS.sel [0] rfl⟩
    ·intro o ho a w yg169m M Hb hv hO hS0
     obtain rfl := Option.some.inj ho
     have H : Fr 117 ([(103, [], .pointer (some ⟨ab gl.a, ao gl.a + ((2 : Int)).toNat * 1, none⟩))] ++ [(0, [], .slice gl.a 8 gl.c), (3, [], .pointer (some ⟨b3m, 0, none⟩)), (12, [], .int .i64 2)]) _ := (Hb).add (hv 5 (by decide) (by decide) 103 rfl)
     obtain ⟨X, hX⟩ : ∃ X, X = fpl [Ent.own 9 tS lit8 gl] := ⟨_, rfl⟩
     have hS : SH M X w [Ent.own 9 tS lit8 gl] w := by rw [hX]; exact hS0
     refine Stp.mono (o_evs [(.string ⟨⟨[13]⟩⟩)] (.string ⟨⟨[13]⟩⟩) (some (fun wz => V.at1 ⟨ab gl.a, ao gl.a + ((2 : Int)).toNat * 1, none⟩ (.string ⟨⟨[13]⟩⟩) wz)) [] H rfl (by kernel_rfl) (fun q e => by cases e; exact ((hS.osl 0 rfl).at1 (show 0 ≤ (2 : Int) ∧ (2 : Int) < ln lit8 from by decide) 0 rfl))) ?_
     rintro v w2 ⟨rfl, hq⟩
     replace hS : SH M X w [Ent.own 9 tS lit8 gl] _ := hS.below hq.below
     rw [hX] at hS
     exact ⟨gL [], fun _ _ => rfl, hS.sel [0] rfl⟩
    ·intro o ho a w yg169m M Hb hv hO hS0
     obtain rfl := Option.some.inj ho
     have H : Fr 117 ([] ++ [(0, [], .slice gl.a 8 gl.c), (3, [], .pointer (some ⟨b3m, 0, none⟩)), (12, [], .int .i64 2)]) _ := Hb
     obtain ⟨X, hX⟩ : ∃ X, X = fpl [Ent.own 9 tS lit8 gl] := ⟨_, rfl⟩
     have hS : SH M X w [Ent.own 9 tS lit8 gl] w := by rw [hX]; exact hS0
     refine Stp.mono (o_evs [] (.slice gl.a 8 gl.c) none [] H rfl (by kernel_rfl) (fun q e => by cases e)) ?_
     rintro v w2 ⟨rfl, hq⟩
     replace hS : SH M X w [Ent.own 9 tS lit8 gl] _ := hS.below hq.below
     rw [hX] at hS
     exact ⟨gL [], fun _ _ => rfl, hS.sel [0] rfl⟩
    ·intro o ho a w yg169m M Hb hv hO hS0
     obtain rfl := Option.some.inj ho
     have H : Fr 117 ([] ++ [(0, [], .slice gl.a 8 gl.c), (3, [], .pointer (some ⟨b3m, 0, none⟩)), (12, [], .int .i64 2)]) _ := Hb
     obtain ⟨X, hX⟩ : ∃ X, X = fpl [] := ⟨_, rfl⟩
     have hS : SH M X w [] w := by rw [hX]; exact hS0
     refine Stp.mono (o_evs [] (.int .i64 2) none [] H rfl (by kernel_rfl) (fun q e => by cases e)) ?_
     rintro v w2 ⟨rfl, hq⟩
     replace hS : SH M X w [] _ := hS.below hq.below
     rw [hX] at hS
     exact ⟨gL [], fun _ _ => rfl, hS.sel [] rfl⟩
    ·intro o ho a w yg169m M Hb hv hO hS0
     obtain rfl := Option.some.inj ho
     have H : Fr 117 ([(106, [], .int .i64 2)] ++ [(0, [], .slice gl.a 8 gl.c), (3, [], .pointer (some ⟨b3m, 0, none⟩)), (12, [], .int .i64 2)]) _ := (Hb).add (hv 8 (by decide) (by decide) 106 rfl)
     obtain ⟨X, hX⟩ : ∃ X, X = fpl [] := ⟨_, rfl⟩
     have hS : SH M X w [] w := by rw [hX]; exact hS0
     refine Stp.mono (o_evs [] (.int .i64 3) none [] H rfl (by kernel_rfl) (fun q e => by cases e)) ?_
     rintro v w2 ⟨rfl, hq⟩
     replace hS : SH M X w [] _ := hS.below hq.below
     rw [hX] at hS
     exact ⟨gL [], fun _ _ => rfl, hS.sel [] rfl⟩
    ·intro o ho a w yg169m M Hb hv hO hS0
     obtain rfl := Option.some.inj ho
     have H : Fr 117 ([(107, [], .int .i64 3), (105, [], .slice gl.a 8 gl.c)] ++ [(0, [], .slice gl.a 8 gl.c), (3, [], .pointer (some ⟨b3m, 0, none⟩)), (12, [], .int .i64 2)]) _ := ((Hb).add (hv 7 (by decide) (by decide) 105 rfl)).add (hv 9 (by decide) (by decide) 107 rfl)
     obtain ⟨X, hX⟩ : ∃ X, X = fpl [Ent.own 9 tS lit8 gl] := ⟨_, rfl⟩
     have hS : SH M X w [Ent.own 9 tS lit8 gl] w := by rw [hX]; exact hS0
     refine Stp.mono (o_evs [] (.pointer (some ⟨ab gl.a, ao gl.a + ((3 : Int)).toNat * 1, none⟩)) (some (fun _ => oka gl.a ∧ 0 ≤ (3 : Int) ∧ (3 : Int) < ln lit8)) [] H rfl (by kernel_rfl) (fun q e => by cases e; exact ((hS.osl 0 rfl).oki (show 0 ≤ (3 : Int) ∧ (3 : Int) < ln lit8 from by decide)))) ?_
     rintro v w2 ⟨rfl, hq⟩
     replace hS : SH M X w [Ent.own 9 tS lit8 gl] _ := hS.below hq.below
     rw [hX] at hS
     exact ⟨gL [], fun _ _ => rfl, hS.sel [0] rfl⟩
    ·intro o ho a w yg169m M Hb hv hO hS0
     obtain rfl := Option.some.inj ho
     have H : Fr 117 ([(108, [], .pointer (some ⟨ab gl.a, ao gl.a + ((3 : Int)).toNat * 1, none⟩))] ++ [(0, [], .slice gl.a 8 gl.c), (3, [], .pointer (some ⟨b3m, 0, none⟩)), (12, [], .int .i64 2)]) _ := (Hb).add (hv 10 (by decide) (by decide) 108 rfl)
     obtain ⟨X, hX⟩ : ∃ X, X = fpl [Ent.own 9 tS lit8 gl] := ⟨_, rfl⟩
     have hS : SH M X w [Ent.own 9 tS lit8 gl] w := by rw [hX]; exact hS0
     refine Stp.mono (o_evs [(.string ⟨⟨[10]⟩⟩)] (.string ⟨⟨[10]⟩⟩) (some (fun wz => V.at1 ⟨ab gl.a, ao gl.a + ((3 : Int)).toNat * 1, none⟩ (.string ⟨⟨[10]⟩⟩) wz)) [] H rfl (by kernel_rfl) (fun q e => by cases e; exact ((hS.osl 0 rfl).at1 (show 0 ≤ (3 : Int) ∧ (3 : Int) < ln lit8 from by decide) 0 rfl))) ?_
     rintro v w2 ⟨rfl, hq⟩
     replace hS : SH M X w [Ent.own 9 tS lit8 gl] _ := hS.below hq.below
     rw [hX] at hS
     exact ⟨gL [], fun _ _ => rfl, hS.sel [0] rfl⟩
    ·intro o ho a w yg169m M Hb hv hO hS0
     obtain rfl := Option.some.inj ho
     have H : Fr 117 ([] ++ [(0, [], .slice gl.a 8 gl.c), (3, [], .pointer (some ⟨b3m, 0, none⟩)), (12, [], .int .i64 2)]) _ := Hb
     obtain ⟨X, hX⟩ : ∃ X, X = fpl [Ent.own 9 tS lit8 gl] := ⟨_, rfl⟩
     have hS : SH M X w [Ent.own 9 tS lit8 gl] w := by rw [hX]; exact hS0
     refine Stp.mono (o_evs [] (.slice gl.a 8 gl.c) none [] H rfl (by kernel_rfl) (fun q e => by cases e)) ?_
     rintro v w2 ⟨rfl, hq⟩
     replace hS : SH M X w [Ent.own 9 tS lit8 gl] _ := hS.below hq.below
     rw [hX] at hS
     exact ⟨gL [], fun _ _ => rfl, hS.sel [0] rfl⟩
    ·intro o ho a w yg169m M Hb hv hO hS0
     obtain rfl := Option.some.inj ho
     have H : Fr 117 ([(110, [], .slice gl.a 8 gl.c)] ++ [(0, [], .slice gl.a 8 gl.c), (3, [], .pointer (some ⟨b3m, 0, none⟩)), (12, [], .int .i64 2)]) _ := (Hb).add (hv 12 (by decide) (by decide) 110 rfl)
     obtain ⟨X, hX⟩ : ∃ X, X = fpl [Ent.own 9 tS lit8 gl] := ⟨_, rfl⟩
     have hS : SH M X w [Ent.own 9 tS lit8 gl] w := by rw [hX]; exact hS0
     refine Stp.mono (o_evs [] (.int .i64 8) none [] H rfl (by kernel_rfl) (fun q e => by cases e)) ?_
     rintro v w2 ⟨rfl, hq⟩
     replace hS : SH M X w [Ent.own 9 tS lit8 gl] _ := hS.below hq.below
     rw [hX] at hS
     exact ⟨gL [], fun _ _ => rfl, hS.sel [0] rfl⟩
    ·intro o ho a w yg169m M Hb hv hO hS0
     obtain rfl := Option.some.inj ho
     have H : Fr 117 ([] ++ [(0, [], .slice gl.a 8 gl.c), (3, [], .pointer (some ⟨b3m, 0, none⟩)), (12, [], .int .i64 2)]) _ := Hb
     obtain ⟨X, hX⟩ : ∃ X, X = fpl [] := ⟨_, rfl⟩
     have hS : SH M X w [] w := by rw [hX]; exact hS0
     refine Stp.mono (o_evs [] (.int .i64 2) none [] H rfl (by kernel_rfl) (fun q e => by cases e)) ?_
     rintro v w2 ⟨rfl, hq⟩
     replace hS : SH M X w [] _ := hS.below hq.below
     rw [hX] at hS
     exact ⟨gL [], fun _ _ => rfl, hS.sel [] rfl⟩
    ·intro o ho a w yg169m M Hb hv hO hS0
     obtain rfl := Option.some.inj ho
     have H : Fr 117 ([(112, [], .int .i64 2), (111, [], .int .i64 8)] ++ [(0, [], .slice gl.a 8 gl.c), (3, [], .pointer (some ⟨b3m, 0, none⟩)), (12, [], .int .i64 2)]) _ := ((Hb).add (hv 13 (by decide) (by decide) 111 rfl)).add (hv 14 (by decide) (by decide) 112 rfl)
     obtain ⟨X, hX⟩ : ∃ X, X = fpl [] := ⟨_, rfl⟩
     have hS : SH M X w [] w := by rw [hX]; exact hS0
     refine Stp.mono (o_evs [] (.int .i64 6) none [] H rfl (by kernel_rfl) (fun q e => by cases e)) ?_
     rintro v w2 ⟨rfl, hq⟩
     replace hS : SH M X w [] _ := hS.below hq.below
     rw [hX] at hS
     exact ⟨gL [], fun _ _ => rfl, hS.sel [] rfl⟩
    ·intro o ho a w yg169m M Hb hv hO hS0
     obtain rfl := Option.some.inj ho
     have H : Fr 117 ([] ++ [(0, [], .slice gl.a 8 gl.c), (3, [], .pointer (some ⟨b3m, 0, none⟩)), (12, [], .int .i64 2)]) _ := Hb
     obtain ⟨X, hX⟩ : ∃ X, X = fpl [Ent.blk b163m [.string ⟨⟨[10]⟩⟩, .int .i64 8, .string ⟨⟨[]⟩⟩, .pointer none, .slice none 0 0], Ent.blk b164m [.string ⟨⟨[]⟩⟩, .int .i64 0, .string ⟨⟨[10]⟩⟩, .pointer (some ⟨b163m, 0, none⟩), .slice none 0 0], Ent.blk b146m [.pointer none, .pointer none, .pointer none, .pointer (some ⟨b164m, 0, none⟩)], Ent.mix .u8 b3m [.string ⟨⟨[]⟩⟩, .int .i64 0, .string ⟨⟨[]⟩⟩, .pointer none, .slice (some ⟨b146m, 0, none⟩) 4 4, .int .i64 4] gmap (256 : Int)] := ⟨_, rfl⟩
     have hS : SH M X w [Ent.blk b163m [.string ⟨⟨[10]⟩⟩, .int .i64 8, .string ⟨⟨[]⟩⟩, .pointer none, .slice none 0 0], Ent.blk b164m [.string ⟨⟨[]⟩⟩, .int .i64 0, .string ⟨⟨[10]⟩⟩, .pointer (some ⟨b163m, 0, none⟩), .slice none 0 0], Ent.blk b146m [.pointer none, .pointer none, .pointer none, .pointer (some ⟨b164m, 0, none⟩)], Ent.mix .u8 b3m [.string ⟨⟨[]⟩⟩, .int .i64 0, .string ⟨⟨[]⟩⟩, .pointer none, .slice (some ⟨b146m, 0, none⟩) 4 4, .int .i64 4] gmap (256 : Int)] w := by rw [hX]; exact hS0
     refine Stp.mono (o_evs [] (.pointer (some ⟨b3m, 0, none⟩)) none [] H rfl (by kernel_rfl) (fun q e => by cases e)) ?_
     rintro v w2 ⟨rfl, hq⟩
     replace hS : SH M X w [Ent.blk b163m [.string ⟨⟨[10]⟩⟩, .int .i64 8, .string ⟨⟨[]⟩⟩, .pointer none, .slice none 0 0], Ent.blk b164m [.string ⟨⟨[]⟩⟩, .int .i64 0, .string ⟨⟨[10]⟩⟩, .pointer (some ⟨b163m, 0, none⟩), .slice none 0 0], Ent.blk b146m [.pointer none, .pointer none, .pointer none, .pointer (some ⟨b164m, 0, none⟩)], Ent.mix .u8 b3m [.string ⟨⟨[]⟩⟩, .int .i64 0, .string ⟨⟨[]⟩⟩, .pointer none, .slice (some ⟨b146m, 0, none⟩) 4 4, .int .i64 4] gmap (256 : Int)] _ := hS.below hq.below
     rw [hX] at hS
     exact ⟨gL [], fun _ _ => rfl, hS.sel [0, 1, 2, 3] rfl⟩
    ·intro o ho a w yg169m M Hb hv hO hS0
     obtain rfl := Option.some.inj ho
     have H : Fr 117 ([(114, [], .pointer (some ⟨b3m, 0, none⟩)), (113, [], .int .i64 6), (109, [], .string ⟨⟨[10]⟩⟩), (104, [], .string ⟨⟨[13]⟩⟩), (100, [], .pointer (some ⟨b3m, 0, none⟩))] ++ [(0, [], .slice gl.a 8 gl.c), (3, [], .pointer (some ⟨b3m, 0, none⟩)), (12, [], .int .i64 2)]) _ := (((((Hb).add (hv 2 (by decide) (by decide) 100 rfl)).add (hv 6 (by decide) (by decide) 104 rfl)).add (hv 11 (by decide) (by decide) 109 rfl)).add (hv 15 (by decide) (by decide) 113 rfl)).add (hv 16 (by decide) (by decide) 114 rfl)
     obtain ⟨X, hX⟩ : ∃ X, X = fpl [Ent.blk b163m [.string ⟨⟨[10]⟩⟩, .int .i64 8, .string ⟨⟨[]⟩⟩, .pointer none, .slice none 0 0], Ent.blk b164m [.string ⟨⟨[]⟩⟩, .int .i64 0, .string ⟨⟨[10]⟩⟩, .pointer (some ⟨b163m, 0, none⟩), .slice none 0 0], Ent.blk b146m [.pointer none, .pointer none, .pointer none, .pointer (some ⟨b164m, 0, none⟩)], Ent.mix .u8 b3m [.string ⟨⟨[]⟩⟩, .int .i64 0, .string ⟨⟨[]⟩⟩, .pointer none, .slice (some ⟨b146m, 0, none⟩) 4 4, .int .i64 4] gmap (256 : Int)] := ⟨_, rfl⟩
     have hS : SH M X w [Ent.blk b163m [.string ⟨⟨[10]⟩⟩, .int .i64 8, .string ⟨⟨[]⟩⟩, .pointer none, .slice none 0 0], Ent.blk b164m [.string ⟨⟨[]⟩⟩, .int .i64 0, .string ⟨⟨[10]⟩⟩, .pointer (some ⟨b163m, 0, none⟩), .slice none 0 0], Ent.blk b146m [.pointer none, .pointer none, .pointer none, .pointer (some ⟨b164m, 0, none⟩)], Ent.mix .u8 b3m [.string ⟨⟨[]⟩⟩, .int .i64 0, .string ⟨⟨[]⟩⟩, .pointer none, .slice (some ⟨b146m, 0, none⟩) 4 4, .int .i64 4] gmap (256 : Int)] w := by rw [hX]; exact hS0
     have hd := hS.hand [0, 1, 2, 3] [] rfl rfl
     refine Stp.mono (o_callx H rfl rfl (strings_trieNode_add_cs4 _ _ hd)) ?_
     rintro v w2 hq
     obtain ⟨rfl, hq⟩ := hq
     replace hS : SH M X w [Ent.blk b164m [.string ⟨⟨[10]⟩⟩, .int .i64 6, .string ⟨⟨[10]⟩⟩, .pointer (some ⟨b163m, 0, none⟩), .slice none 0 0], Ent.blk b163m [.string ⟨⟨[10]⟩⟩, .int .i64 8, .string ⟨⟨[]⟩⟩, .pointer none, .slice none 0 0], Ent.blk b146m [.pointer none, .pointer none, .pointer none, .pointer (some ⟨b164m, 0, none⟩)], Ent.mix .u8 b3m [.string ⟨⟨[]⟩⟩, .int .i64 0, .string ⟨⟨[]⟩⟩, .pointer none, .slice (some ⟨b146m, 0, none⟩) 4 4, .int .i64 4] gmap (256 : Int)] _ := hS.join [0, 1, 2, 3] [] rfl rfl hq
     clear hq
     rw [hX] at hS
     exact ⟨gL [], fun _ _ => rfl, hS.sel [0, 1, 2, 3] rfl⟩
   have H172m : Fr 117 [(0, [], .slice gl.a 8 gl.c), (3, [], .pointer (some ⟨b3m, 0, none⟩)), (12, [], .int .i64 2)] _ := (FrG.keep (ks := [0, 3, 12]) H171m (by kernel_rfl))
   replace hS : SH M X w [Ent.blk b164m [.string ⟨⟨[10]⟩⟩, .int .i64 6, .string ⟨⟨[10]⟩⟩, .pointer (some ⟨b163m, 0, none⟩), .slice none 0 0], Ent.blk b163m [.string ⟨⟨[10]⟩⟩, .int .i64 8, .string ⟨⟨[]⟩⟩, .pointer none, .slice none 0 0], Ent.blk b146m [.pointer none, .pointer none, .pointer none, .pointer (some ⟨b164m, 0, none⟩)], Ent.mix .u8 b3m [.string ⟨⟨[]⟩⟩, .int .i64 0, .string ⟨⟨[]⟩⟩, .pointer none, .slice (some ⟨b146m, 0, none⟩) 4 4, .int .i64 4] gmap (256 : Int), Ent.own 9 tS lit8 gl] _ := hS
   clear hv H171m
   refine w_reg [] [0, 3, 12] [(0, [], .slice gl.a 8 gl.c), (3, [], .pointer (some ⟨b3m, 0, none⟩)), (12, [], .int .i64 4)] [] H172m (by kernel_rfl) trivial fun _ wd173m H174m hb => ?_
   clear H172m
   replace hS := hS.below hb
   clear hb
   refine lw_round ?_
   refine w_seq ?_
   refine s_reg [] [0, 3, 12, 95] [(0, [], .slice gl.a 8 gl.c), (3, [], .pointer (some ⟨b3m, 0, none⟩)), (12, [], .int .i64 4), (95, [], .bool true)] [] H174m (by kernel_rfl) trivial fun _ wd175m H176m hb => ?_
   clear H174m
   replace hS := hS.below hb
   clear hb
   refine w_if H176m rfl (fun _ => ?_) (fun hc => by cases hc)
   refine w_skip ?_
   refine w_seq ?_
   refine w_block ?_
   refine w_drawS (base := [(0, [], .slice gl.a 8 gl.c), (3, [], .pointer (some ⟨b3m, 0, none⟩)), (12, [], .int .i64 4)]) (L := [Ent.blk b164m [.string ⟨⟨[10]⟩⟩, .int .i64 6, .string ⟨⟨[10]⟩⟩, .pointer (some ⟨b163m, 0, none⟩), .slice none 0 0], Ent.blk b163m [.string ⟨⟨[10]⟩⟩, .int .i64 8, .string ⟨⟨[]⟩⟩, .pointer none, .slice none 0 0], Ent.blk b146m [.pointer none, .pointer none, .pointer none, .pointer (some ⟨b164m, 0, none⟩)], Ent.mix .u8 b3m [.string ⟨⟨[]⟩⟩, .int .i64 0, .string ⟨⟨[]⟩⟩, .pointer none, .slice (some ⟨b146m, 0, none⟩) 4 4, .int .i64 4] gmap (256 : Int), Ent.own 9 tS lit8 gl]) 18 5 (fun yg177m => [.pointer (some ⟨b3m, 0, none⟩), .pointer (some ⟨b3m, 0, none⟩), .pointer (some ⟨b3m, 0, none⟩), .slice gl.a 8 gl.c, .int .i64 4, .pointer (some ⟨ab gl.a, ao gl.a + ((4 : Int)).toNat * 1, none⟩), .string ⟨⟨[12]⟩⟩, .slice gl.a 8 gl.c, .int .i64 4, .int .i64 5, .pointer (some ⟨ab gl.a, ao gl.a + ((5 : Int)).toNat * 1, none⟩), .string ⟨⟨[10]⟩⟩, .slice gl.a 8 gl.c, .int .i64 8, .int .i64 4, .int .i64 4, .pointer (some ⟨b3m, 0, none⟩), .tuple ⟨[]⟩]) (fun yg177m => [[], [], [], [], [], [], [], [], [], [], [], [], [], [], [], [], [], [Ent.blk (ab (yg177m 17 0).a) [.string ⟨⟨[10]⟩⟩, .int .i64 4, .string ⟨⟨[]⟩⟩, .pointer none, .slice none 0 0], Ent.blk b146m [.pointer none, .pointer none, .pointer (some ⟨(ab (yg177m 17 0).a), 0, none⟩), .pointer (some ⟨b164m, 0, none⟩)]]]) [[18, 19, 20, 21], [18, 19, 20, 21], [18, 19, 20, 21], [22], [], [22], [22], [22], [], [], [22], [22], [22], [22], [], [], [18, 19, 20, 21], [18, 19, 20, 21]] [[], [], [], [], [], [], [], [], [], [], [], [], [], [], [], [], [], [20]] [[0], [0, 1], [0, 1, 2], [3], [4], [3, 4, 5], [3, 4, 5, 6], [7], [8], [8, 9], [7, 8, 9, 10], [7, 8, 9, 10, 11], [12], [12, 13], [14], [12, 13, 14, 15], [16], [0, 1, 2, 3, 4, 5, 6, 7, 8, 9, 10, 11, 12, 13, 14, 15, 16, 17]] [] (FrG.keep (ks := [0, 3, 12]) H176m (by kernel_rfl)) (fun _ _ h => by cases h) (by kernel_rfl) hS (by kernel_rfl) rfl rfl (by kernel_rfl) (by kernel_rfl) (by kernel_rfl) (gd_none (by kernel_rfl) _ _) ?hloc_yg177m ?hstep_yg177m fun _ wd179m yg177m H180m hv hS => ?hK_yg177m
   case hloc_yg177m => exact ⟨(fun _ _ _ _ => ⟨rfl, rfl⟩), (fun _ _ _ _ => ⟨rfl, rfl⟩), (fun _ _ _ _ => ⟨rfl, rfl⟩), (fun _ _ _ _ => ⟨rfl, rfl⟩), (fun _ _ _ _ => ⟨rfl, rfl⟩), (fun _ _ _ _ => ⟨rfl, rfl⟩), (fun _ _ _ _ => ⟨rfl, rfl⟩), (fun _ _ _ _ => ⟨rfl, rfl⟩), (fun _ _ _ _ => ⟨rfl, rfl⟩), (fun _ _ _ _ => ⟨rfl, rfl⟩), (fun _ _ _ _ => ⟨rfl, rfl⟩), (fun _ _ _ _ => ⟨rfl, rfl⟩), (fun _ _ _ _ => ⟨rfl, rfl⟩), (fun _ _ _ _ => ⟨rfl, rfl⟩), (fun _ _ _ _ => ⟨rfl, rfl⟩), (fun _ _ _ _ => ⟨rfl, rfl⟩), (fun _ _ _ _ => ⟨rfl, rfl⟩), (fun yg177m i g hi => by have h17 : updC yg177m i g 17 = yg177m 17 := updC_out hi rfl; exact ⟨(show (.tuple ⟨[]⟩ : Value) = .tuple ⟨[]⟩ by simp only []), (show ([Ent.blk (ab ((updC yg177m i g) 17 0).a) [.string ⟨⟨[10]⟩⟩, .int .i64 4, .string ⟨⟨[]⟩⟩, .pointer none, .slice none 0 0], Ent.blk b146m [.pointer none, .pointer none, .pointer (some ⟨(ab ((updC yg177m i g) 17 0).a), 0, none⟩), .pointer (some ⟨b164m, 0, none⟩)]] : List Ent) = [Ent.blk (ab (yg177m 17 0).a) [.string ⟨⟨[10]⟩⟩, .int .i64 4, .string ⟨⟨[]⟩⟩, .pointer none, .slice none 0 0], Ent.blk b146m [.pointer none, .pointer none, .pointer (some ⟨(ab (yg177m 17 0).a), 0, none⟩), .pointer (some ⟨b164m, 0, none⟩)]] by simp only [h17])⟩), trivial⟩
   case hstep_yg177m =>
    refine ⟨?_, ?_, ?_, ?_, ?_, ?_, ?_, ?_, ?_, ?_, ?_, ?_, ?_, ?_, ?_, ?_, ?_, ?_, trivial⟩
    ·intro o ho a w yg177m M Hb hv hO hS0
     obtain rfl := Option.some.inj ho
     have H : Fr 117 ([] ++ [(0, [], .slice gl.a 8 gl.c), (3, [], .pointer (some ⟨b3m, 0, none⟩)), (12, [], .int .i64 4)]) _ := Hb
     obtain ⟨X, hX⟩ : ∃ X, X = fpl [Ent.blk b164m [.string ⟨⟨[10]⟩⟩, .int .i64 6, .string ⟨⟨[10]⟩⟩, .pointer (some ⟨b163m, 0, none⟩), .slice none 0 0], Ent.blk b163m [.string ⟨⟨[10]⟩⟩, .int .i64 8, .string ⟨⟨[]⟩⟩, .pointer none, .slice none 0 0], Ent.blk b146m [.pointer none, .pointer none, .pointer none, .pointer (some ⟨b164m, 0, none⟩)], Ent.mix .u8 b3m [.string ⟨⟨[]⟩⟩, .int .i64 0, .string ⟨⟨[]⟩⟩, .pointer none, .slice (some ⟨b146m, 0, none⟩) 4 4, .int .i64 4] gmap (256 : Int)] := ⟨_, rfl⟩
     have hS : SH M X w [Ent.blk b164m [.string ⟨⟨[10]⟩⟩, .int .i64 6, .string ⟨⟨[10]⟩⟩, .pointer (some ⟨b163m, 0, none⟩), .slice none 0 0], Ent.blk b163m [.string ⟨⟨[10]⟩⟩, .int .i64 8, .string ⟨⟨[]⟩⟩, .pointer none, .slice none 0 0], Ent.blk b146m [.pointer none, .pointer none, .pointer none, .pointer (some ⟨b164m, 0, none⟩)], Ent.mix .u8 b3m [.string ⟨⟨[]⟩⟩, .int .i64 0, .string ⟨⟨[]⟩⟩, .pointer none, .slice (some ⟨b146m, 0, none⟩) 4 4, .int .i64 4] gmap (256 : Int)] w := by rw [hX]; exact hS0
     refine Stp.mono (o_evs [] (.pointer (some ⟨b3m, 0, none⟩)) none [] H rfl (by kernel_rfl) (fun q e => by cases e)) ?_
     rintro v w2 ⟨rfl, hq⟩
     replace hS : SH M X w [Ent.blk b164m [.string ⟨⟨[10]⟩⟩, .int .i64 6, .string ⟨⟨[10]⟩⟩, .pointer (some ⟨b163m, 0, none⟩), .slice none 0 0], Ent.blk b163m [.string ⟨⟨[10]⟩⟩, .int .i64 8, .string ⟨⟨[]⟩⟩, .pointer none, .slice none 0 0], Ent.blk b146m [.pointer none, .pointer none, .pointer none, .pointer (some ⟨b164m, 0, none⟩)], Ent.mix .u8 b3m [.string ⟨⟨[]⟩⟩, .int .i64 0, .string ⟨⟨[]⟩⟩, .pointer none, .slice (some ⟨b146m, 0, none⟩) 4 4, .int .i64 4] gmap (256 : Int)] _ := hS.below hq.below
     rw [hX] at hS
     exact ⟨gL [], fun _ _ => rfl, hS.sel [0, 1, 2, 3] rfl⟩
    ·intro o ho a w yg177m M Hb hv hO hS0
     obtain rfl := Option.some.inj ho
     have H : Fr 117 ([(98, [], .pointer (some ⟨b3m, 0, none⟩))] ++ [(0, [], .slice gl.a 8 gl.c), (3, [], .pointer (some ⟨b3m, 0, none⟩)), (12, [], .int .i64 4)]) _ := (Hb).add (hv 0 (by decide) (by decide) 98 rfl)
     obtain ⟨X, hX⟩ : ∃ X, X = fpl [Ent.blk b164m [.string ⟨⟨[10]⟩⟩, .int .i64 6, .string ⟨⟨[10]⟩⟩, .pointer (some ⟨b163m, 0, none⟩), .slice none 0 0], Ent.blk b163m [.string ⟨⟨[10]⟩⟩, .int .i64 8, .string ⟨⟨[]⟩⟩, .pointer none, .slice none 0 0], Ent.blk b146m [.pointer none, .pointer none, .pointer none, .pointer (some ⟨b164m, 0, none⟩)], Ent.mix .u8 b3m [.string ⟨⟨[]⟩⟩, .int .i64 0, .string ⟨⟨[]⟩⟩, .pointer none, .slice (some ⟨b146m, 0, none⟩) 4 4, .int .i64 4] gmap (256 : Int)] := ⟨_, rfl⟩
     have hS : SH M X w [Ent.blk b164m [.string ⟨⟨[10]⟩⟩, .int .i64 6, .string ⟨⟨[10]⟩⟩, .pointer (some ⟨b163m, 0, none⟩), .slice none 0 0], Ent.blk b163m [.string ⟨⟨[10]⟩⟩, .int .i64 8, .string ⟨⟨[]⟩⟩, .pointer none, .slice none 0 0], Ent.blk b146m [.pointer none, .pointer none, .pointer none, .pointer (some ⟨b164m, 0, none⟩)], Ent.mix .u8 b3m [.string ⟨⟨[]⟩⟩, .int .i64 0, .string ⟨⟨[]⟩⟩, .pointer none, .slice (some ⟨b146m, 0, none⟩) 4 4, .int .i64 4] gmap (256 : Int)] w := by rw [hX]; exact hS0
     refine Stp.mono (o_evs [] (.pointer (some ⟨b3m, 0, none⟩)) none [] H rfl (by kernel_rfl) (fun q e => by cases e)) ?_
     rintro v w2 ⟨rfl, hq⟩
     replace hS : SH M X w [Ent.blk b164m [.string ⟨⟨[10]⟩⟩, .int .i64 6, .string ⟨⟨[10]⟩⟩, .pointer (some ⟨b163m, 0, none⟩), .slice none 0 0], Ent.blk b163m [.string ⟨⟨[10]⟩⟩, .int .i64 8, .string ⟨⟨[]⟩⟩, .pointer none, .slice none 0 0], Ent.blk b146m [.pointer none, .pointer none, .pointer none, .pointer (some ⟨b164m, 0, none⟩)], Ent.mix .u8 b3m [.string ⟨⟨[]⟩⟩, .int .i64 0, .string ⟨⟨[]⟩⟩, .pointer none, .slice (some ⟨b146m, 0, none⟩) 4 4, .int .i64 4] gmap (256 : Int)] _ := hS.below hq.below
     rw [hX] at hS
     exact ⟨gL [], fun _ _ => rfl, hS.sel [0, 1, 2, 3] rfl⟩
    ·intro o ho a w yg177m M Hb hv hO hS0
     obtain rfl := Option.some.inj ho
     have H : Fr 117 ([(99, [], .pointer (some ⟨b3m, 0, none⟩))] ++ [(0, [], .slice gl.a 8 gl.c), (3, [], .pointer (some ⟨b3m, 0, none⟩)), (12, [], .int .i64 4)]) _ := (Hb).add (hv 1 (by decide) (by decide) 99 rfl)
     obtain ⟨X, hX⟩ : ∃ X, X = fpl [Ent.blk b164m [.string ⟨⟨[10]⟩⟩, .int .i64 6, .string ⟨⟨[10]⟩⟩, .pointer (some ⟨b163m, 0, none⟩), .slice none 0 0], Ent.blk b163m [.string ⟨⟨[10]⟩⟩, .int .i64 8, .string ⟨⟨[]⟩⟩, .pointer none, .slice none 0 0], Ent.blk b146m [.pointer none, .pointer none, .pointer none, .pointer (some ⟨b164m, 0, none⟩)], Ent.mix .u8 b3m [.string ⟨⟨[]⟩⟩, .int .i64 0, .string ⟨⟨[]⟩⟩, .pointer none, .slice (some ⟨b146m, 0, none⟩) 4 4, .int .i64 4] gmap (256 : Int)] := ⟨_, rfl⟩
     have hS : SH M X w [Ent.blk b164m [.string ⟨⟨[10]⟩⟩, .int .i64 6, .string ⟨⟨[10]⟩⟩, .pointer (some ⟨b163m, 0, none⟩), .slice none 0 0], Ent.blk b163m [.string ⟨⟨[10]⟩⟩, .int .i64 8, .string ⟨⟨[]⟩⟩, .pointer none, .slice none 0 0], Ent.blk b146m [.pointer none, .pointer none, .pointer none, .pointer (some ⟨b164m, 0, none⟩)], Ent.mix .u8 b3m [.string ⟨⟨[]⟩⟩, .int .i64 0, .string ⟨⟨[]⟩⟩, .pointer none, .slice (some ⟨b146m, 0, none⟩) 4 4, .int .i64 4] gmap (256 : Int)] w := by rw [hX]; exact hS0
     refine Stp.mono (o_evs [] (.pointer (some ⟨b3m, 0, none⟩)) none [] H rfl (by kernel_rfl) (fun q e => by cases e)) ?_
     rintro v w2 ⟨rfl, hq⟩
     replace hS : SH M X w [Ent.blk b164m [.string ⟨⟨[10]⟩⟩, .int .i64 6, .string ⟨⟨[10]⟩⟩, .pointer (some ⟨b163m, 0, none⟩), .slice none 0 0], Ent.blk b163m [.string ⟨⟨[10]⟩⟩, .int .i64 8, .string ⟨⟨[]⟩⟩, .pointer none, .slice none 0 0], Ent.blk b146m [.pointer none, .pointer none, .pointer none, .pointer (some ⟨b164m, 0, none⟩)], Ent.mix .u8 b3m [.string ⟨⟨[]⟩⟩, .int .i64 0, .string ⟨⟨[]⟩⟩, .pointer none, .slice (some ⟨b146m, 0, none⟩) 4 4, .int .i64 4] gmap (256 : Int)] _ := hS.below hq.below
     rw [hX] at hS
     exact ⟨gL [], fun _ _ => rfl, hS.sel [0, 1, 2, 3] rfl⟩
    ·intro o ho a w yg177m M Hb hv hO hS0
     obtain rfl := Option.some.inj ho
     have H : Fr 117 ([] ++ [(0, [], .slice gl.a 8 gl.c), (3, [], .pointer (some ⟨b3m, 0, none⟩)), (12, [], .int .i64 4)]) _ := Hb
     obtain ⟨X, hX⟩ : ∃ X, X = fpl [Ent.own 9 tS lit8 gl] := ⟨_, rfl⟩
     have hS : SH M X w [Ent.own 9 tS lit8 gl] w := by rw [hX]; exact hS0
     refine Stp.mono (o_evs [] (.slice gl.a 8 gl.c) none [] H rfl (by kernel_rfl) (fun q e => by cases e)) ?_
     rintro v w2 ⟨rfl, hq⟩
     replace hS : SH M X w [Ent.own 9 tS lit8 gl] _ := hS.below hq.below
     rw [hX] at hS
     exact ⟨gL [], fun _ _ => rfl, hS.sel [0] rfl⟩
    ·intro o ho a w yg177m M Hb hv hO hS0
     obtain rfl := Option.some.inj ho
     have H : Fr 117 ([] ++ [(0, [], .slice gl.a 8 gl.c), (3, [], .pointer (some ⟨b3m, 0, none⟩)), (12, [], .int .i64 4)]) _ := Hb
     obtain ⟨X, hX⟩ : ∃ X, X = fpl [] := ⟨_, rfl⟩
     have hS : SH M X w [] w := by rw [hX]; exact hS0
     refine Stp.mono (o_evs [] (.int .i64 4) none [] H rfl (by kernel_rfl) (fun q e => by cases e)) ?_
     rintro v w2 ⟨rfl, hq⟩
     replace hS : SH M X w [] _ := hS.below hq.below
     rw [hX] at hS
     exact ⟨gL [], fun _ _ => rfl, hS.sel [] rfl⟩
    ·intro o ho a w yg177m M Hb hv hO hS0
     obtain rfl := Option.some.inj ho
     have H : Fr 117 ([(102, [], .int .i64 4), (101, [], .slice gl.a 8 gl.c)] ++ [(0, [], .slice gl.a 8 gl.c), (3, [], .pointer (some ⟨b3m, 0, none⟩)), (12, [], .int .i64 4)]) _ := ((Hb).add (hv 3 (by decide) (by decide) 101 rfl)).add (hv 4 (by decide) (by decide) 102 rfl)
     obtain ⟨X, hX⟩ : ∃ X, X = fpl [Ent.own 9 tS lit8 gl] := ⟨_, rfl⟩
     have hS : SH M X w [Ent.own 9 tS lit8 gl] w := by rw [hX]; exact hS0
     refine Stp.mono (o_evs [] (.pointer (some ⟨ab gl.a, ao gl.a + ((4 : Int)).toNat * 1, none⟩)) (some (fun _ => oka gl.a ∧ 0 ≤ (4 : Int) ∧ (4 : Int) < ln lit8)) [] H rfl (by kernel_rfl) (fun q e => by cases e; exact ((hS.osl 0 rfl).oki (show 0 ≤ (4 : Int) ∧ (4 : Int) < ln lit8 from by decide)))) ?_
     rintro v w2 ⟨rfl, hq⟩
     replace hS : SH M X w [Ent.own 9 tS lit8 gl] _ := hS.below hq.below
     rw [hX] at hS
     exact ⟨gL [], fun _ _ => rfl, hS.sel [0] rfl⟩
    ·intro o ho a w yg177m M Hb hv hO hS0
     obtain rfl := Option.some.inj ho
     have H : Fr 117 ([(103, [], .pointer (some ⟨ab gl.a, ao gl.a + ((4 : Int)).toNat * 1, none⟩))] ++ [(0, [], .slice gl.a 8 gl.c), (3, [], .pointer (some ⟨b3m, 0, none⟩)), (12, [], .int .i64 4)]) _ := (Hb).add (hv 5 (by decide) (by decide) 103 rfl)
     obtain ⟨X, hX⟩ : ∃ X, X = fpl [Ent.own 9 tS lit8 gl] := ⟨_, rfl⟩
     have hS : SH M X w [Ent.own 9 tS lit8 gl] w := by rw [hX]; exact hS0
     refine Stp.mono (o_evs [(.string ⟨⟨[12]⟩⟩)] (.string ⟨⟨[12]⟩⟩) (some (fun wz => V.at1 ⟨ab gl.a, ao gl.a + ((4 : Int)).toNat * 1, none⟩ (.string ⟨⟨[12]⟩⟩) wz)) [] H rfl (by kernel_rfl) (fun q e => by cases e; exact ((hS.osl 0 rfl).at1 (show 0 ≤ (4 : Int) ∧ (4 : Int) < ln lit8 from by decide) 0 rfl))) ?_
     rintro v w2 ⟨rfl, hq⟩
     replace hS : SH M X w [Ent.own 9 tS lit8 gl] _ := hS.below hq.below
     rw [hX] at hS
     exact ⟨gL [], fun _ _ => rfl, hS.sel [0] rfl⟩
    ·intro o ho a w yg177m M Hb hv hO hS0
     obtain rfl := Option.some.inj ho
     have H : Fr 117 ([] ++ [(0, [], .slice gl.a 8 gl.c), (3, [], .pointer (some ⟨b3m, 0, none⟩)), (12, [], .int .i64 4)]) _ := Hb
     obtain ⟨X, hX⟩ : ∃ X, X = fpl [Ent.own 9 tS lit8 gl] := ⟨_, rfl⟩
     have hS : SH M X w [Ent.own 9 tS lit8 gl] w := by rw [hX]; exact hS0
     refine Stp.mono (o_evs [] (.slice gl.a 8 gl.c) none [] H rfl (by kernel_rfl) (fun q e => by cases e)) ?_
     rintro v w2 ⟨rfl, hq⟩
     replace hS : SH M X w [Ent.own 9 tS lit8 gl] _ := hS.below hq.below
     rw [hX] at hS
     exact ⟨gL [], fun _ _ => rfl, hS.sel [0] rfl⟩
    ·intro o ho a w yg177m M Hb hv hO hS0
     obtain rfl := Option.some.inj ho
     have H : Fr 117 ([] ++ [(0, [], .slice gl.a 8 gl.c), (3, [], .pointer (some ⟨b3m, 0, none⟩)), (12, [], .int .i64 4)]) _ := Hb
     obtain ⟨X, hX⟩ : ∃ X, X = fpl [] := ⟨_, rfl⟩
     have hS : SH M X w [] w := by rw [hX]; exact hS0
     refine Stp.mono (o_evs [] (.int .i64 4) none [] H rfl (by kernel_rfl) (fun q e => by cases e)) ?_
     rintro v w2 ⟨rfl, hq⟩
     replace hS : SH M X w [] _ := hS.below hq.below
     rw [hX] at hS
     exact ⟨gL [], fun _ _ => rfl, hS.sel [] rfl⟩
    ·intro o ho a w yg177m M Hb hv hO hS0
     obtain rfl := Option.some.inj ho
     have H : Fr 117 ([(106, [], .int .i64 4)] ++ [(0, [], .slice gl.a 8 gl.c), (3, [], .pointer (some ⟨b3m, 0, none⟩)), (12, [], .int .i64 4)]) _ := (Hb).add (hv 8 (by decide) (by decide) 106 rfl)
     obtain ⟨X, hX⟩ : ∃ X, X = fpl [] := ⟨_, rfl⟩
     have hS : SH M X w [] w := by rw [hX]; exact hS0
     refine Stp.mono (o_evs [] (.int .i64 5) none [] H rfl (by kernel_rfl) (fun q e => by cases e)) ?_
     rintro v w2 ⟨rfl, hq⟩
     replace hS : SH M X w [] _ := hS.below hq.below
     rw [hX] at hS
     exact ⟨gL [], fun _ _ => rfl, hS.sel [] rfl⟩
    ·intro o ho a w yg177m M Hb hv hO hS0
     obtain rfl := Option.some.inj ho
     have H : Fr 117 ([(107, [], .int .i64 5), (105, [], .slice gl.a 8 gl.c)] ++ [(0, [], .slice gl.a 8 gl.c), (3, [], .pointer (some ⟨b3m, 0, none⟩)), (12, [], .int .i64 4)]) _ := ((Hb).add (hv 7 (by decide) (by decide) 105 rfl)).add (hv 9 (by decide) (by decide) 107 rfl)
     obtain ⟨X, hX⟩ : ∃ X, X = fpl [Ent.own 9 tS lit8 gl] := ⟨_, rfl⟩
     have hS : SH M X w [Ent.own 9 tS lit8 gl] w := by rw [hX]; exact hS0
     refine Stp.mono (o_evs [] (.pointer (some ⟨ab gl.a, ao gl.a + ((5 : Int)).toNat * 1, none⟩)) (some (fun _ => oka gl.a ∧ 0 ≤ (5 : Int) ∧ (5 : Int) < ln lit8)) [] H rfl (by kernel_rfl) (fun q e => by cases e; exact ((hS.osl 0 rfl).oki (show 0 ≤ (5 : Int) ∧ (5 : Int) < ln lit8 from by decide)))) ?_
     rintro v w2 ⟨rfl, hq⟩
     replace hS : SH M X w [Ent.own 9 tS lit8 gl] _ := hS.below hq.below
     rw [hX] at hS
     exact ⟨gL [], fun _ _ => rfl, hS.sel [0] rfl⟩
    ·intro o ho a w yg177m M Hb hv hO hS0
     obtain rfl := Option.some.inj ho
     have H : Fr 117 ([(108, [], .pointer (some ⟨ab gl.a, ao gl.a + ((5 : Int)).toNat * 1, none⟩))] ++ [(0, [], .slice gl.a 8 gl.c), (3, [], .pointer (some ⟨b3m, 0, none⟩)), (12, [], .int .i64 4)]) _ := (Hb).add (hv 10 (by decide) (by decide) 108 rfl)
     obtain ⟨X, hX⟩ : ∃ X, X = fpl [Ent.own 9 tS lit8 gl] := ⟨_, rfl⟩
     have hS : SH M X w [Ent.own 9 tS lit8 gl] w := by rw [hX]; exact hS0
     refine Stp.mono (o_evs [(.string ⟨⟨[10]⟩⟩)] (.string ⟨⟨[10]⟩⟩) (some (fun wz => V.at1 ⟨ab gl.a, ao gl.a + ((5 : Int)).toNat * 1, none⟩ (.string ⟨⟨[10]⟩⟩) wz)) [] H rfl (by kernel_rfl) (fun q e => by cases e; exact ((hS.osl 0 rfl).at1 (show 0 ≤ (5 : Int) ∧ (5 : Int) < ln lit8 from by decide) 0 rfl))) ?_
     rintro v w2 ⟨rfl, hq⟩
     replace hS : SH M X w [Ent.own 9 tS lit8 gl] _ := hS.below hq.below
     rw [hX] at hS
     exact ⟨gL [], fun _ _ => rfl, hS.sel [0] rfl⟩
    ·intro o ho a w yg177m M Hb hv hO hS0
     obtain rfl := Option.some.inj ho
     have H : Fr 117 ([] ++ [(0, [], .slice gl.a 8 gl.c), (3, [], .pointer (some ⟨b3m, 0, none⟩)), (12, [], .int .i64 4)]) _ := Hb
     obtain ⟨X, hX⟩ : ∃ X, X = fpl [Ent.own 9 tS lit8 gl] := ⟨_, rfl⟩
     have hS : SH M X w [Ent.own 9 tS lit8 gl] w := by rw [hX]; exact hS0
     refine Stp.mono (o_evs [] (.slice gl.a 8 gl.c) none [] H rfl (by kernel_rfl) (fun q e => by cases e)) ?_
     rintro v w2 ⟨rfl, hq⟩
     replace hS : SH M X w [Ent.own 9 tS lit8 gl] _ := hS.below hq.below
     rw [hX] at hS
     exact ⟨gL [], fun _ _ => rfl, hS.sel [0] rfl⟩
    ·intro o ho a w yg177m M Hb hv hO hS0
     obtain rfl := Option.some.inj ho
     have H : Fr 117 ([(110, [], .slice gl.a 8 gl.c)] ++ [(0, [], .slice gl.a 8 gl.c), (3, [], .pointer (some ⟨b3m, 0, none⟩)), (12, [], .int .i64 4)]) _ := (Hb).add (hv 12 (by decide) (by decide) 110 rfl)
     obtain ⟨X, hX⟩ : ∃ X, X = fpl [Ent.own 9 tS lit8 gl] := ⟨_, rfl⟩
     have hS : SH M X w [Ent.own 9 tS lit8 gl] w := by rw [hX]; exact hS0
     refine Stp.mono (o_evs [] (.int .i64 8) none [] H rfl (by kernel_rfl) (fun q e => by cases e)) ?_
     rintro v w2 ⟨rfl, hq⟩
     replace hS : SH M X w [Ent.own 9 tS lit8 gl] _ := hS.below hq.below
     rw [hX] at hS
     exact ⟨gL [], fun _ _ => rfl, hS.sel [0] rfl⟩
    ·intro o ho a w yg177m M Hb hv hO hS0
     obtain rfl := Option.some.inj ho
     have H : Fr 117 ([] ++ [(0, [], .slice gl.a 8 gl.c), (3, [], .pointer (some ⟨b3m, 0, none⟩)), (12, [], .int .i64 4)]) _ := Hb
     obtain ⟨X, hX⟩ : ∃ X, X = fpl [] := ⟨_, rfl⟩
     have hS : SH M X w [] w := by rw [hX]; exact hS0
     refine Stp.mono (o_evs [] (.int .i64 4) none [] H rfl (by kernel_rfl) (fun q e => by cases e)) ?_
     rintro v w2 ⟨rfl, hq⟩
     replace hS : SH M X w [] _ := hS.below hq.below
     rw [hX] at hS
     exact ⟨gL [], fun _ _ => rfl, hS.sel [] rfl⟩
    ·intro o ho a w yg177m M Hb hv hO hS0
     obtain rfl := Option.some.inj ho
     have H : Fr 117 ([(112, [], .int .i64 4), (111, [], .int .i64 8)] ++ [(0, [], .slice gl.a 8 gl.c), (3, [], .pointer (some ⟨b3m, 0, none⟩)), (12, [], .int .i64 4)]) _ := ((Hb).add (hv 13 (by decide) (by decide) 111 rfl)).add (hv 14 (by decide) (by decide) 112 rfl)
     obtain ⟨X, hX⟩ : ∃ X, X = fpl [] := ⟨_, rfl⟩
     have hS : SH M X w [] w := by rw [hX]; exact hS0
     refine Stp.mono (o_evs [] (.int .i64 4) none [] H rfl (by kernel_rfl) (fun q e => by cases e)) ?_
     rintro v w2 ⟨rfl, hq⟩
     replace hS : SH M X w [] _ := hS.below hq.below
     rw [hX] at hS
     exact ⟨gL [], fun _ _ => rfl, hS.sel [] rfl⟩
    ·intro o ho a w yg177m M Hb hv hO hS0
     obtain rfl := Option.some.inj ho
     have H : Fr 117 ([] ++ [(0, [], .slice gl.a 8 gl.c), (3, [], .pointer (some ⟨b3m, 0, none⟩)), (12, [], .int .i64 4)]) _ := Hb
     obtain ⟨X, hX⟩ : ∃ X, X = fpl [Ent.blk b164m [.string ⟨⟨[10]⟩⟩, .int .i64 6, .string ⟨⟨[10]⟩⟩, .pointer (some ⟨b163m, 0, none⟩), .slice none 0 0], Ent.blk b163m [.string ⟨⟨[10]⟩⟩, .int .i64 8, .string ⟨⟨[]⟩⟩, .pointer none, .slice none 0 0], Ent.blk b146m [.pointer none, .pointer none, .pointer none, .pointer (some ⟨b164m, 0, none⟩)], Ent.mix .u8 b3m [.string ⟨⟨[]⟩⟩, .int .i64 0, .string ⟨⟨[]⟩⟩, .pointer none, .slice (some ⟨b146m, 0, none⟩) 4 4, .int .i64 4] gmap (256 : Int)] := ⟨_, rfl⟩
     have hS : SH M X w [Ent.blk b164m [.string ⟨⟨[10]⟩⟩, .int .i64 6, .string ⟨⟨[10]⟩⟩, .pointer (some ⟨b163m, 0, none⟩), .slice none 0 0], Ent.blk b163m [.string ⟨⟨[10]⟩⟩, .int .i64 8, .string ⟨⟨[]⟩⟩, .pointer none, .slice none 0 0], Ent.blk b146m [.pointer none, .pointer none, .pointer none, .pointer (some ⟨b164m, 0, none⟩)], Ent.mix .u8 b3m [.string ⟨⟨[]⟩⟩, .int .i64 0, .string ⟨⟨[]⟩⟩, .pointer none, .slice (some ⟨b146m, 0, none⟩) 4 4, .int .i64 4] gmap (256 : Int)] w := by rw [hX]; exact hS0
     refine Stp.mono (o_evs [] (.pointer (some ⟨b3m, 0, none⟩)) none [] H rfl (by kernel_rfl) (fun q e => by cases e)) ?_
     rintro v w2 ⟨rfl, hq⟩
     replace hS : SH M X w [Ent.blk b164m [.string ⟨⟨[10]⟩⟩, .int .i64 6, .string ⟨⟨[10]⟩⟩, .pointer (some ⟨b163m, 0, none⟩), .slice none 0 0], Ent.blk b163m [.string ⟨⟨[10]⟩⟩, .int .i64 8, .string ⟨⟨[]⟩⟩, .pointer none, .slice none 0 0], Ent.blk b146m [.pointer none, .pointer none, .pointer none, .pointer (some ⟨b164m, 0, none⟩)], Ent.mix .u8 b3m [.string ⟨⟨[]⟩⟩, .int .i64 0, .string ⟨⟨[]⟩⟩, .pointer none, .slice (some ⟨b146m, 0, none⟩) 4 4, .int .i64 4] gmap (256 : Int)] _ := hS.below hq.below
     rw [hX] at hS
     exact ⟨gL [], fun _ _ => rfl, hS.sel [0, 1, 2, 3] rfl⟩
    ·intro o ho a w yg177m M Hb hv hO hS0
     obtain rfl := Option.some.inj ho
     have H : Fr 117 ([(114, [], .pointer (some ⟨b3m, 0, none⟩)), (113, [], .int .i64 4), (109, [], .string ⟨⟨[10]⟩⟩), (104, [], .string ⟨⟨[12]⟩⟩), (100, [], .pointer (some ⟨b3m, 0, none⟩))] ++ [(0, [], .slice gl.a 8 gl.c), (3, [], .pointer (some ⟨b3m, 0, none⟩)), (12, [], .int .i64 4)]) _ := (((((Hb).add (hv 2 (by decide) (by decide) 100 rfl)).add (hv 6 (by decide) (by decide) 104 rfl)).add (hv 11 (by decide) (by decide) 109 rfl)).add (hv 15 (by decide) (by decide) 113 rfl)).add (hv 16 (by decide) (by decide) 114 rfl)
     obtain ⟨X, hX⟩ : ∃ X, X = fpl [Ent.blk b164m [.string ⟨⟨[10]⟩⟩, .int .i64 6, .string ⟨⟨[10]⟩⟩, .pointer (some ⟨b163m, 0, none⟩), .slice none 0 0], Ent.blk b163m [.string ⟨⟨[10]⟩⟩, .int .i64 8, .string ⟨⟨[]⟩⟩, .pointer none, .slice none 0 0], Ent.blk b146m [.pointer none, .pointer none, .pointer none, .pointer (some ⟨b164m, 0, none⟩)], Ent.mix .u8 b3m [.string ⟨⟨[]⟩⟩, .int .i64 0, .string ⟨⟨[]⟩⟩, .pointer none, .slice (some ⟨b146m, 0, none⟩) 4 4, .int .i64 4] gmap (256 : Int)] := ⟨_, rfl⟩
     have hS : SH M X w [Ent.blk b164m [.string ⟨⟨[10]⟩⟩, .int .i64 6, .string ⟨⟨[10]⟩⟩, .pointer (some ⟨b163m, 0, none⟩), .slice none 0 0], Ent.blk b163m [.string ⟨⟨[10]⟩⟩, .int .i64 8, .string ⟨⟨[]⟩⟩, .pointer none, .slice none 0 0], Ent.blk b146m [.pointer none, .pointer none, .pointer none, .pointer (some ⟨b164m, 0, none⟩)], Ent.mix .u8 b3m [.string ⟨⟨[]⟩⟩, .int .i64 0, .string ⟨⟨[]⟩⟩, .pointer none, .slice (some ⟨b146m, 0, none⟩) 4 4, .int .i64 4] gmap (256 : Int)] w := by rw [hX]; exact hS0
     have hd := hS.hand [0, 1, 2, 3] [] rfl rfl
     refine Stp.mono (o_callx H rfl rfl (strings_trieNode_add_cs6 _ _ hd)) ?_
     rintro v w2 hq
     obtain ⟨b178m, rfl, hq⟩ := hq
     replace hS : SH M X w [Ent.blk b178m [.string ⟨⟨[10]⟩⟩, .int .i64 4, .string ⟨⟨[]⟩⟩, .pointer none, .slice none 0 0], Ent.blk b146m [.pointer none, .pointer none, .pointer (some ⟨b178m, 0, none⟩), .pointer (some ⟨b164m, 0, none⟩)], Ent.blk b164m [.string ⟨⟨[10]⟩⟩, .int .i64 6, .string ⟨⟨[10]⟩⟩, .pointer (some ⟨b163m, 0, none⟩), .slice none 0 0], Ent.blk b163m [.string ⟨⟨[10]⟩⟩, .int .i64 8, .string ⟨⟨[]⟩⟩, .pointer none, .slice none 0 0], Ent.mix .u8 b3m [.string ⟨⟨[]⟩⟩, .int .i64 0, .string ⟨⟨[]⟩⟩, .pointer none, .slice (some ⟨b146m, 0, none⟩) 4 4, .int .i64 4] gmap (256 : Int)] _ := hS.join [0, 1, 2, 3] [] rfl rfl hq
     clear hq
     rw [hX] at hS
     exact ⟨gL [Gh.mk (some ⟨b178m, 0, none⟩) 0 fun _ _ => .nil], fun _ _ => rfl, hS.sel [0, 1, 2, 3, 4] rfl⟩
   have H181m : Fr 117 [(0, [], .slice gl.a 8 gl.c), (3, [], .pointer (some ⟨b3m, 0, none⟩)), (12, [], .int .i64 4)] _ := (FrG.keep (ks := [0, 3, 12]) H180m (by kernel_rfl))
   replace hS : SH M X w [Ent.blk (ab (yg177m 17 0).a) [.string ⟨⟨[10]⟩⟩, .int .i64 4, .string ⟨⟨[]⟩⟩, .pointer none, .slice none 0 0], Ent.blk b146m [.pointer none, .pointer none, .pointer (some ⟨(ab (yg177m 17 0).a), 0, none⟩), .pointer (some ⟨b164m, 0, none⟩)], Ent.blk b164m [.string ⟨⟨[10]⟩⟩, .int .i64 6, .string ⟨⟨[10]⟩⟩, .pointer (some ⟨b163m, 0, none⟩), .slice none 0 0], Ent.blk b163m [.string ⟨⟨[10]⟩⟩, .int .i64 8, .string ⟨⟨[]⟩⟩, .pointer none, .slice none 0 0], Ent.mix .u8 b3m [.string ⟨⟨[]⟩⟩, .int .i64 0, .string ⟨⟨[]⟩⟩, .pointer none, .slice (some ⟨b146m, 0, none⟩) 4 4, .int .i64 4] gmap (256 : Int), Ent.own 9 tS lit8 gl] _ := hS
   clear hv H180m
   generalize ab (yg177m 17 0).a = b182m at H181m hS
   refine w_reg [] [0, 3, 12] [(0, [], .slice gl.a 8 gl.c), (3, [], .pointer (some ⟨b3m, 0, none⟩)), (12, [], .int .i64 6)] [] H181m (by kernel_rfl) trivial fun _ wd183m H184m hb => ?_
   clear H181m
   replace hS := hS.below hb
   clear hb
   refine lw_round ?_
   refine w_seq ?_
   refine s_reg [] [0, 3, 12, 95] [(0, [], .slice gl.a 8 gl.c), (3, [], .pointer (some ⟨b3m, 0, none⟩)), (12, [], .int .i64 6), (95, [], .bool true)] [] H184m (by kernel_rfl) trivial fun _ wd185m H186m hb => ?_
   clear H184m
   replace hS := hS.below hb
   clear hb
   refine w_if H186m rfl (fun _ => ?_) (fun hc => by cases hc)
   refine w_skip ?_
   refine w_seq ?_
   refine w_block ?_
   refine w_drawS (base := [(0, [], .slice gl.a 8 gl.c), (3, [], .pointer (some ⟨b3m, 0, none⟩)), (12, [], .int .i64 6)]) (L := [Ent.blk b182m [.string ⟨⟨[10]⟩⟩, .int .i64 4, .string ⟨⟨[]⟩⟩, .pointer none, .slice none 0 0], Ent.blk b146m [.pointer none, .pointer none, .pointer (some ⟨b182m, 0, none⟩), .pointer (some ⟨b164m, 0, none⟩)], Ent.blk b164m [.string ⟨⟨[10]⟩⟩, .int .i64 6, .string ⟨⟨[10]⟩⟩, .pointer (some ⟨b163m, 0, none⟩), .slice none 0 0], Ent.blk b163m [.string ⟨⟨[10]⟩⟩, .int .i64 8, .string ⟨⟨[]⟩⟩, .pointer none, .slice none 0 0], Ent.mix .u8 b3m [.string ⟨⟨[]⟩⟩, .int .i64 0, .string ⟨⟨[]⟩⟩, .pointer none, .slice (some ⟨b146m, 0, none⟩) 4 4, .int .i64 4] gmap (256 : Int), Ent.own 9 tS lit8 gl]) 18 6 (fun yg187m => [.pointer (some ⟨b3m, 0, none⟩), .pointer (some ⟨b3m, 0, none⟩), .pointer (some ⟨b3m, 0, none⟩), .slice gl.a 8 gl.c, .int .i64 6, .pointer (some ⟨ab gl.a, ao gl.a + ((6 : Int)).toNat * 1, none⟩), .string ⟨⟨[0]⟩⟩, .slice gl.a 8 gl.c, .int .i64 6, .int .i64 7, .pointer (some ⟨ab gl.a, ao gl.a + ((7 : Int)).toNat * 1, none⟩), .string ⟨⟨[239, 191, 189]⟩⟩, .slice gl.a 8 gl.c, .int .i64 8, .int .i64 6, .int .i64 2, .pointer (some ⟨b3m, 0, none⟩), .tuple ⟨[]⟩]) (fun yg187m => [[], [], [], [], [], [], [], [], [], [], [], [], [], [], [], [], [], [Ent.blk (ab (yg187m 17 0).a) [.string ⟨⟨[239, 191, 189]⟩⟩, .int .i64 2, .string ⟨⟨[]⟩⟩, .pointer none, .slice none 0 0], Ent.blk b146m [.pointer (some ⟨(ab (yg187m 17 0).a), 0, none⟩), .pointer none, .pointer (some ⟨b182m, 0, none⟩), .pointer (some ⟨b164m, 0, none⟩)]]]) [[18, 19, 20, 21, 22], [18, 19, 20, 21, 22], [18, 19, 20, 21, 22], [23], [], [23], [23], [23], [], [], [23], [23], [23], [23], [], [], [18, 19, 20, 21, 22], [18, 19, 20, 21, 22]] [[], [], [], [], [], [], [], [], [], [], [], [], [], [], [], [], [], [19]] [[0], [0, 1], [0, 1, 2], [3], [4], [3, 4, 5], [3, 4, 5, 6], [7], [8], [8, 9], [7, 8, 9, 10], [7, 8, 9, 10, 11], [12], [12, 13], [14], [12, 13, 14, 15], [16], [0, 1, 2, 3, 4, 5, 6, 7, 8, 9, 10, 11, 12, 13, 14, 15, 16, 17]] [] (FrG.keep (ks := [0, 3, 12]) H186m (by kernel_rfl)) (fun _ _ h => by cases h) (by kernel_rfl) hS (by kernel_rfl) rfl rfl (by kernel_rfl) (by kernel_rfl) (by kernel_rfl) (gd_none (by kernel_rfl) _ _) ?hloc_yg187m ?hstep_yg187m fun _ wd189m yg187m H190m hv hS => ?hK_yg187m
   case hloc_yg187m => exact ⟨(fun _ _ _ _ => ⟨rfl, rfl⟩), (fun _ _ _ _ => ⟨rfl, rfl⟩), (fun _ _ _ _ => ⟨rfl, rfl⟩), (fun _ _ _ _ => ⟨rfl, rfl⟩), (fun _ _ _ _ => ⟨rfl, rfl⟩), (fun _ _ _ _ => ⟨rfl, rfl⟩), (fun _ _ _ _ => ⟨rfl, rfl⟩), (fun _ _ _ _ => ⟨rfl, rfl⟩), (fun _ _ _ _ => ⟨rfl, rfl⟩), (fun _ _ _ _ => ⟨rfl, rfl⟩), (fun _ _ _ _ => ⟨rfl, rfl⟩), (fun _ _ _ _ => ⟨rfl, rfl⟩), (fun _ _ _ _ => ⟨rfl, rfl⟩), (fun _ _ _ _ => ⟨rfl, rfl⟩), (fun _ _ _ _ => ⟨rfl, rfl⟩), (fun _ _ _ _ => ⟨rfl, rfl⟩), (fun _ _ _ _ => ⟨rfl, rfl⟩), (fun yg187m i g hi => by have h17 : updC yg187m i g 17 = yg187m 17 := updC_out hi rfl; exact ⟨(show (.tuple ⟨[]⟩ : Value) = .tuple ⟨[]⟩ by simp only []), (show ([Ent.blk (ab ((updC yg187m i g) 17 0).a) [.string ⟨⟨[239, 191, 189]⟩⟩, .int .i64 2, .string ⟨⟨[]⟩⟩, .pointer none, .slice none 0 0], Ent.blk b146m [.pointer (some ⟨(ab ((updC yg187m i g) 17 0).a), 0, none⟩), .pointer none, .pointer (some ⟨b182m, 0, none⟩), .pointer (some ⟨b164m, 0, none⟩)]] : List Ent) = [Ent.blk (ab (yg187m 17 0).a) [.string ⟨⟨[239, 191, 189]⟩⟩, .int .i64 2, .string ⟨⟨[]⟩⟩, .pointer none, .slice none 0 0], Ent.blk b146m [.pointer (some ⟨(ab (yg187m 17 0).a), 0, none⟩), .pointer none, .pointer (some ⟨b182m, 0, none⟩), .pointer (some ⟨b164m, 0, none⟩)]] by simp only [h17])⟩), trivial⟩
   case hstep_yg187m =>
    refine ⟨?_, ?_, ?_, ?_, ?_, ?_, ?_, ?_, ?_, ?_, ?_, ?_, ?_, ?_, ?_, ?_, ?_, ?_, trivial⟩
    ·intro o ho a w yg187m M Hb hv hO hS0
     obtain rfl := Option.some.inj ho
     have H : Fr 117 ([] ++ [(0, [], .slice gl.a 8 gl.c), (3, [], .pointer (some ⟨b3m, 0, none⟩)), (12, [], .int .i64 6)]) _ := Hb
     obtain ⟨X, hX⟩ : ∃ X, X = fpl [Ent.blk b182m [.string ⟨⟨[10]⟩⟩, .int .i64 4, .string ⟨⟨[]⟩⟩, .pointer none, .slice none 0 0], Ent.blk b146m [.pointer none, .pointer none, .pointer (some ⟨b182m, 0, none⟩), .pointer (some ⟨b164m, 0, none⟩)], Ent.blk b164m [.string ⟨⟨[10]⟩⟩, .int .i64 6, .string ⟨⟨[10]⟩⟩, .pointer (some ⟨b163m, 0, none⟩), .slice none 0 0], Ent.blk b163m [.string ⟨⟨[10]⟩⟩, .int .i64 8, .string ⟨⟨[]⟩⟩, .pointer none, .slice none 0 0], Ent.mix .u8 b3m [.string ⟨⟨[]⟩⟩, .int .i64 0, .string ⟨⟨[]⟩⟩, .pointer none, .slice (some ⟨b146m, 0, none⟩) 4 4, .int .i64 4] gmap (256 : Int)] := ⟨_, rfl⟩
     have hS : SH M X w [Ent.blk b182m [.string ⟨⟨[10]⟩⟩, .int .i64 4, .string ⟨⟨[]⟩⟩, .pointer none, .slice none 0 0], Ent.blk b146m [.pointer none, .pointer none, .pointer (some ⟨b182m, 0, none⟩), .pointer (some ⟨b164m, 0, none⟩)], Ent.blk b164m [.string ⟨⟨[10]⟩⟩, .int .i64 6, .string ⟨⟨[10]⟩⟩, .pointer (some ⟨b163m, 0, none⟩), .slice none 0 0], Ent.blk b163m [.string ⟨⟨[10]⟩⟩, .int .i64 8, .string ⟨⟨[]⟩⟩, .pointer none, .slice none 0 0], Ent.mix .u8 b3m [.string ⟨⟨[]⟩⟩, .int .i64 0, .string ⟨⟨[]⟩⟩, .pointer none, .slice (some ⟨b146m, 0, none⟩) 4 4, .int .i64 4] gmap (256 : Int)] w := by rw [hX]; exact hS0
     refine Stp.mono (o_evs [] (.pointer (some ⟨b3m, 0, none⟩)) none [] H rfl (by kernel_rfl) (fun q e => by cases e)) ?_
     rintro v w2 ⟨rfl, hq⟩
     replace hS : SH M X w [Ent.blk b182m [.string ⟨⟨[10]⟩⟩, .int .i64 4, .string ⟨⟨[]⟩⟩, .pointer none, .slice none 0 0], Ent.blk b146m [.pointer none, .pointer none, .pointer (some ⟨b182m, 0, none⟩), .pointer (some ⟨b164m, 0, none⟩)], Ent.blk b164m [.string ⟨⟨[10]⟩⟩, .int .i64 6, .string ⟨⟨[10]⟩⟩, .pointer (some ⟨b163m, 0, none⟩), .slice none 0 0], Ent.blk b163m [.string ⟨⟨[10]⟩⟩, .int .i64 8, .string ⟨⟨[]⟩⟩, .pointer none, .slice none 0 0], Ent.mix .u8 b3m [.string ⟨⟨[]⟩⟩, .int .i64 0, .string ⟨⟨[]⟩⟩, .pointer none, .slice (some ⟨b146m, 0, none⟩) 4 4, .int .i64 4] gmap (256 : Int)] _ := hS.below hq.below
     rw [hX] at hS
     exact ⟨gL [], fun _ _ => rfl, hS.sel [0, 1, 2, 3, 4] rfl⟩
    ·intro o ho a w yg187m M Hb hv hO hS0
     obtain rfl := Option.some.inj ho
     have H : Fr 117 ([(98, [], .pointer (some ⟨b3m, 0, none⟩))] ++ [(0, [], .slice gl.a 8 gl.c), (3, [], .pointer (some ⟨b3m, 0, none⟩)), (12, [], .int .i64 6)]) _ := (Hb).add (hv 0 (by decide) (by decide) 98 rfl)
     obtain ⟨X, hX⟩ : ∃ X, X = fpl [Ent.blk b182m [.string ⟨⟨[10]⟩⟩, .int .i64 4, .string ⟨⟨[]⟩⟩, .pointer none, .slice none 0 0], Ent.blk b146m [.pointer none, .pointer none, .pointer (some ⟨b182m, 0, none⟩), .pointer (some ⟨b164m, 0, none⟩)], Ent.blk b164m [.string ⟨⟨[10]⟩⟩, .int .i64 6, .string ⟨⟨[10]⟩⟩, .pointer (some ⟨b163m, 0, none⟩), .slice none 0 0], Ent.blk b163m [.string ⟨⟨[10]⟩⟩, .int .i64 8, .string ⟨⟨[]⟩⟩, .pointer none, .slice none 0 0], Ent.mix .u8 b3m [.string ⟨⟨[]⟩⟩, .int .i64 0, .string ⟨⟨[]⟩⟩, .pointer none, .slice (some ⟨b146m, 0, none⟩) 4 4, .int .i64 4] gmap (256 : Int)] := ⟨_, rfl⟩
     have hS : SH M X w [Ent.blk b182m [.string ⟨⟨[10]⟩⟩, .int .i64 4, .string ⟨⟨[]⟩⟩, .pointer none, .slice none 0 0], Ent.blk b146m [.pointer none, .pointer none, .pointer (some ⟨b182m, 0, none⟩), .pointer (some ⟨b164m, 0, none⟩)], Ent.blk b164m [.string ⟨⟨[10]⟩⟩, .int .i64 6, .string ⟨⟨[10]⟩⟩, .pointer (some ⟨b163m, 0, none⟩), .slice none 0 0], Ent.blk b163m [.string ⟨⟨[10]⟩⟩, .int .i64 8, .string ⟨⟨[]⟩⟩, .pointer none, .slice none 0 0], Ent.mix .u8 b3m [.string ⟨⟨[]⟩⟩, .int .i64 0, .string ⟨⟨[]⟩⟩, .pointer none, .slice (some ⟨b146m, 0, none⟩) 4 4, .int .i64 4] gmap (256 : Int)] w := by rw [hX]; exact hS0
     refine Stp.mono (o_evs [] (.pointer (some ⟨b3m, 0, none⟩)) none [] H rfl (by kernel_rfl) (fun q e => by cases e)) ?_
     rintro v w2 ⟨rfl, hq⟩
     replace hS : SH M X w [Ent.blk b182m [.string ⟨⟨[10]⟩⟩, .int .i64 4, .string ⟨⟨[]⟩⟩, .pointer none, .slice none 0 0], Ent.blk b146m [.pointer none, .pointer none, .pointer (some ⟨b182m, 0, none⟩), .pointer (some ⟨b164m, 0, none⟩)], Ent.blk b164m [.string ⟨⟨[10]⟩⟩, .int .i64 6, .string ⟨⟨[10]⟩⟩, .pointer (some ⟨b163m, 0, none⟩), .slice none 0 0], Ent.blk b163m [.string ⟨⟨[10]⟩⟩, .int .i64 8, .string ⟨⟨[]⟩⟩, .pointer none, .slice none 0 0], Ent.mix .u8 b3m [.string ⟨⟨[]⟩⟩, .int .i64 0, .string ⟨⟨[]⟩⟩, .pointer none, .slice (some ⟨b146m, 0, none⟩) 4 4, .int .i64 4] gmap (256 : Int)] _ := hS.below hq.below
     rw [hX] at hS
     exact ⟨gL [], fun _ _ => rfl, hS.sel [0, 1, 2, 3, 4] rfl⟩
    ·intro o ho a w yg187m M Hb hv hO hS0
     obtain rfl := Option.some.inj ho
     have H : Fr 117 ([(99, [], .pointer (some ⟨b3m, 0, none⟩))] ++ [(0, [], .slice gl.a 8 gl.c), (3, [], .pointer (some ⟨b3m, 0, none⟩)), (12, [], .int .i64 6)]) _ := (Hb).add (hv 1 (by decide) (by decide) 99 rfl)
     obtain ⟨X, hX⟩ : ∃ X, X = fpl [Ent.blk b182m [.string ⟨⟨[10]⟩⟩, .int .i64 4, .string ⟨⟨[]⟩⟩, .pointer none, .slice none 0 0], Ent.blk b146m [.pointer none, .pointer none, .pointer (some ⟨b182m, 0, none⟩), .pointer (some ⟨b164m, 0, none⟩)], Ent.blk b164m [.string ⟨⟨[10]⟩⟩, .int .i64 6, .string ⟨⟨[10]⟩⟩, .pointer (some ⟨b163m, 0, none⟩), .slice none 0 0], Ent.blk b163m [.string ⟨⟨[10]⟩⟩, .int .i64 8, .string ⟨⟨[]⟩⟩, .pointer none, .slice none 0 0], Ent.mix .u8 b3m [.string ⟨⟨[]⟩⟩, .int .i64 0, .string ⟨⟨[]⟩⟩, .pointer none, .slice (some ⟨b146m, 0, none⟩) 4 4, .int .i64 4] gmap (256 : Int)] := ⟨_, rfl⟩
     have hS : SH M X w [Ent.blk b182m [.string ⟨⟨[10]⟩⟩, .int .i64 4, .string ⟨⟨[]⟩⟩, .pointer none, .slice none 0 0], Ent.blk b146m [.pointer none, .pointer none, .pointer (some ⟨b182m, 0, none⟩), .pointer (some ⟨b164m, 0, none⟩)], Ent.blk b164m [.string ⟨⟨[10]⟩⟩, .int .i64 6, .string ⟨⟨[10]⟩⟩, .pointer (some ⟨b163m, 0, none⟩), .slice none 0 0], Ent.blk b163m [.string ⟨⟨[10]⟩⟩, .int .i64 8, .string ⟨⟨[]⟩⟩, .pointer none, .slice none 0 0], Ent.mix .u8 b3m [.string ⟨⟨[]⟩⟩, .int .i64 0, .string ⟨⟨[]⟩⟩, .pointer none, .slice (some ⟨b146m, 0, none⟩) 4 4, .int .i64 4] gmap (256 : Int)] w := by rw [hX]; exact hS0
     refine Stp.mono (o_evs [] (.pointer (some ⟨b3m, 0, none⟩)) none [] H rfl (by kernel_rfl) (fun q e => by cases e)) ?_
     rintro v w2 ⟨rfl, hq⟩
     replace hS : SH M X w [Ent.blk b182m [.string ⟨⟨[10]⟩⟩, .int .i64 4, .string ⟨⟨[]⟩⟩, .pointer none, .slice none 0 0], Ent.blk b146m [.pointer none, .pointer none, .pointer (some ⟨b182m, 0, none⟩), .pointer (some ⟨b164m, 0, none⟩)], Ent.blk b164m [.string ⟨⟨[10]⟩⟩, .int .i64 6, .string ⟨⟨[10]⟩⟩, .pointer (some ⟨b163m, 0, none⟩), .slice none 0 0], Ent.blk b163m [.string ⟨⟨[10]⟩⟩, .int .i64 8, .string ⟨⟨[]⟩⟩, .pointer none, .slice none 0 0], Ent.mix .u8 b3m [.string ⟨⟨[]⟩⟩, .int .i64 0, .string ⟨⟨[]⟩⟩, .pointer none, .slice (some ⟨b146m, 0, none⟩) 4 4, .int .i64 4] gmap (256 : Int)] _ := hS.below hq.below
     rw [hX] at hS
     exact ⟨gL [], fun _ _ => rfl, hS.sel [0, 1, 2, 3, 4] rfl⟩
    ·intro o ho a w yg187m M Hb hv hO hS0
     obtain rfl := Option.some.inj ho
     have H : Fr 117 ([] ++ [(0, [], .slice gl.a 8 gl.c), (3, [], .pointer (some ⟨b3m, 0, none⟩)), (12, [], .int .i64 6)]) _ := Hb
     obtain ⟨X, hX⟩ : ∃ X, X = fpl [Ent.own 9 tS lit8 gl] := ⟨_, rfl⟩
     have hS : SH M X w [Ent.own 9 tS lit8 gl] w := by rw [hX]; exact hS0
     refine Stp.mono (o_evs [] (.slice gl.a 8 gl.c) none [] H rfl (by kernel_rfl) (fun q e => by cases e)) ?_
     rintro v w2 ⟨rfl, hq⟩
     replace hS : SH M X w [Ent.own 9 tS lit8 gl] _ := hS.below hq.below
     rw [hX] at hS
     exact ⟨gL [], fun _ _ => rfl, hS.sel [0] rfl⟩
    ·intro o ho a w yg187m M Hb hv hO hS0
     obtain rfl := Option.some.inj ho
     have H : Fr 117 ([] ++ [(0, [], .slice gl.a 8 gl.c), (3, [], .pointer (some ⟨b3m, 0, none⟩)), (12, [], .int .i64 6)]) _ := Hb
     obtain ⟨X, hX⟩ : ∃ X, X = fpl [] := ⟨_, rfl⟩
     have hS : SH M X w [] w := by rw [hX]; exact hS0
     refine Stp.mono (o_evs [] (.int .i64 6) none [] H rfl (by kernel_rfl) (fun q e => by cases e)) ?_
     rintro v w2 ⟨rfl, hq⟩
     replace hS : SH M X w [] _ := hS.below hq.below
     rw [hX] at hS
     exact ⟨gL [], fun _ _ => rfl, hS.sel [] rfl⟩
    ·intro o ho a w yg187m M Hb hv hO hS0
     obtain rfl := Option.some.inj ho
     have H : Fr 117 ([(102, [], .int .i64 6), (101, [], .slice gl.a 8 gl.c)] ++ [(0, [], .slice gl.a 8 gl.c), (3, [], .pointer (some ⟨b3m, 0, none⟩)), (12, [], .int .i64 6)]) _ := ((Hb).add (hv 3 (by decide) (by decide) 101 rfl)).add (hv 4 (by decide) (by decide) 102 rfl)
     obtain ⟨X, hX⟩ : ∃ X, X = fpl [Ent.own 9 tS lit8 gl] := ⟨_, rfl⟩
     have hS : SH M X w [Ent.own 9 tS lit8 gl] w := by rw [hX]; exact hS0
     refine Stp.mono (o_evs [] (.pointer (some ⟨ab gl.a, ao gl.a + ((6 : Int)).toNat * 1, none⟩)) (some (fun _ => oka gl.a ∧ 0 ≤ (6 : Int) ∧ (6 : Int) < ln lit8)) [] H rfl (by kernel_rfl) (fun q e => by cases e; exact ((hS.osl 0 rfl).oki (show 0 ≤ (6 : Int) ∧ (6 : Int) < ln lit8 from by decide)))) ?_
     rintro v w2 ⟨rfl, hq⟩
     replace hS : SH M X w [Ent.own 9 tS lit8 gl] _ := hS.below hq.below
     rw [hX] at hS
     exact ⟨gL [], fun _ _ => rfl, hS.sel [0] rfl⟩
    ·intro o ho a w yg187m M Hb hv hO hS0
     obtain rfl := Option.some.inj ho
     have H : Fr 117 ([(103, [], .pointer (some ⟨ab gl.a, ao gl.a + ((6 : Int)).toNat * 1, none⟩))] ++ [(0, [], .slice gl.a 8 gl.c), (3, [], .pointer (some ⟨b3m, 0, none⟩)), (12, [], .int .i64 6)]) _ := (Hb).add (hv 5 (by decide) (by decide) 103 rfl)
     obtain ⟨X, hX⟩ : ∃ X, X = fpl [Ent.own 9 tS lit8 gl] := ⟨_, rfl⟩
     have hS : SH M X w [Ent.own 9 tS lit8 gl] w := by rw [hX]; exact hS0
     refine Stp.mono (o_evs [(.string ⟨⟨[0]⟩⟩)] (.string ⟨⟨[0]⟩⟩) (some (fun wz => V.at1 ⟨ab gl.a, ao gl.a + ((6 : Int)).toNat * 1, none⟩ (.string ⟨⟨[0]⟩⟩) wz)) [] H rfl (by kernel_rfl) (fun q e => by cases e; exact ((hS.osl 0 rfl).at1 (show 0 ≤ (6 : Int) ∧ (6 : Int) < ln lit8 from by decide) 0 rfl))) ?_
     rintro v w2 ⟨rfl, hq⟩
     replace hS : SH M X w [Ent.own 9 tS lit8 gl] _ := hS.below hq.below
     rw [hX] at hS
     exact ⟨gL [], fun _ _ => rfl, hS.sel [0] rfl⟩
    ·intro o ho a w yg187m M Hb hv hO hS0
     obtain rfl := Option.some.inj ho
     have H : Fr 117 ([] ++ [(0, [], .slice gl.a 8 gl.c), (3, [], .pointer (some ⟨b3m, 0, none⟩)), (12, [], .int .i64 6)]) _ := Hb
     obtain ⟨X, hX⟩ : ∃ X, X = fpl [Ent.own 9 tS lit8 gl] := ⟨_, rfl⟩
     have hS : SH M X w [Ent.own 9 tS lit8 gl] w := by rw [hX]; exact hS0
     refine Stp.mono (o_evs [] (.slice gl.a 8 gl.c) none [] H rfl (by kernel_rfl) (fun q e => by cases e)) ?_
     rintro v w2 ⟨rfl, hq⟩
     replace hS : SH M X w [Ent.own 9 tS lit8 gl] _ := hS.below hq.below
     rw [hX] at hS
     exact ⟨gL [], fun _ _ => rfl, hS.sel [0] rfl⟩
    ·intro o ho a w yg187m M Hb hv hO hS0
     obtain rfl := Option.some.inj ho
     have H : Fr 117 ([] ++ [(0, [], .slice gl.a 8 gl.c), (3, [], .pointer (some ⟨b3m, 0, none⟩)), (12, [], .int .i64 6)]) _ := Hb
     obtain ⟨X, hX⟩ : ∃ X, X = fpl [] := ⟨_, rfl⟩
     have hS : SH M X w [] w := by rw [hX]; exact hS0
     refine Stp.mono (o_evs [] (.int .i64 6) none [] H rfl (by kernel_rfl) (fun q e => by cases e)) ?_
     rintro v w2 ⟨rfl, hq⟩
     replace hS : SH M X w [] _ := hS.below hq.below
     rw [hX] at hS
     exact ⟨gL [], fun _ _ => rfl, hS.sel [] rfl⟩
    ·intro o ho a w yg187m M Hb hv hO hS0
     obtain rfl := Option.some.inj ho
     have H : Fr 117 ([(106, [], .int .i64 6)] ++ [(0, [], .slice gl.a 8 gl.c), (3, [], .pointer (some ⟨b3m, 0, none⟩)), (12, [], .int .i64 6)]) _ := (Hb).add (hv 8 (by decide) (by decide) 106 rfl)
     obtain ⟨X, hX⟩ : ∃ X, X = fpl [] := ⟨_, rfl⟩
     have hS : SH M X w [] w := by rw [hX]; exact hS0
     refine Stp.mono (o_evs [] (.int .i64 7) none [] H rfl (by kernel_rfl) (fun q e => by cases e)) ?_
     rintro v w2 ⟨rfl, hq⟩
     replace hS : SH M X w [] _ := hS.below hq.below
     rw [hX] at hS
     exact ⟨gL [], fun _ _ => rfl, hS.sel [] rfl⟩
    ·intro o ho a w yg187m M Hb hv hO hS0
     obtain rfl := Option.some.inj ho
     have H : Fr 117 ([(107, [], .int .i64 7), (105, [], .slice gl.a 8 gl.c)] ++ [(0, [], .slice gl.a 8 gl.c), (3, [], .pointer (some ⟨b3m, 0, none⟩)), (12, [], .int .i64 6)]) _ := ((Hb).add (hv 7 (by decide) (by decide) 105 rfl)).add (hv 9 (by decide) (by decide) 107 rfl)
     obtain ⟨X, hX⟩ : ∃ X, X = fpl [Ent.own 9 tS lit8 gl] := ⟨_, rfl⟩
     have hS : SH M X w [Ent.own 9 tS lit8 gl] w := by rw [hX]; exact hS0
     refine Stp.mono (o_evs [] (.pointer (some ⟨ab gl.a, ao gl.a + ((7 : Int)).toNat * 1, none⟩)) (some (fun _ => oka gl.a ∧ 0 ≤ (7 : Int) ∧ (7 : Int) < ln lit8)) [] H rfl (by kernel_rfl) (fun q e => by cases e; exact ((hS.osl 0 rfl).oki (show 0 ≤ (7 : Int) ∧ (7 : Int) < ln lit8 from by decide)))) ?_
     rintro v w2 ⟨rfl, hq⟩
     replace hS : SH M X w [Ent.own 9 tS lit8 gl] _ := hS.below hq.below
     rw [hX] at hS
     exact ⟨gL [], fun _ _ => rfl, hS.sel [0] rfl⟩
    ·intro o ho a w yg187m M Hb hv hO hS0
     obtain rfl := Option.some.inj ho
     have H : Fr 117 ([(108, [], .pointer (some ⟨ab gl.a, ao gl.a + ((7 : Int)).toNat * 1, none⟩))] ++ [(0, [], .slice gl.a 8 gl.c), (3, [], .pointer (some ⟨b3m, 0, none⟩)), (12, [], .int .i64 6)]) _ := (Hb).add (hv 10 (by decide) (by decide) 108 rfl)
     obtain ⟨X, hX⟩ : ∃ X, X = fpl [Ent.own 9 tS lit8 gl] := ⟨_, rfl⟩
     have hS : SH M X w [Ent.own 9 tS lit8 gl] w := by rw [hX]; exact hS0
     refine Stp.mono (o_evs [(.string ⟨⟨[239, 191, 189]⟩⟩)] (.string ⟨⟨[239, 191, 189]⟩⟩) (some (fun wz => V.at1 ⟨ab gl.a, ao gl.a + ((7 : Int)).toNat * 1, none⟩ (.string ⟨⟨[239, 191, 189]⟩⟩) wz)) [] H rfl (by kernel_rfl) (fun q e => by cases e; exact ((hS.osl 0 rfl).at1 (show 0 ≤ (7 : Int) ∧ (7 : Int) < ln lit8 from by decide) 0 rfl))) ?_
     rintro v w2 ⟨rfl, hq⟩
     replace hS : SH M X w [Ent.own 9 tS lit8 gl] _ := hS.below hq.below
     rw [hX] at hS
     exact ⟨gL [], fun _ _ => rfl, hS.sel [0] rfl⟩
    ·intro o ho a w yg187m M Hb hv hO hS0
     obtain rfl := Option.some.inj ho
     have H : Fr 117 ([] ++ [(0, [], .slice gl.a 8 gl.c), (3, [], .pointer (some ⟨b3m, 0, none⟩)), (12, [], .int .i64 6)]) _ := Hb
     obtain ⟨X, hX⟩ : ∃ X, X = fpl [Ent.own 9 tS lit8 gl] := ⟨_, rfl⟩
     have hS : SH M X w [Ent.own 9 tS lit8 gl] w := by rw [hX]; exact hS0
     refine Stp.mono (o_evs [] (.slice gl.a 8 gl.c) none [] H rfl (by kernel_rfl) (fun q e => by cases e)) ?_
     rintro v w2 ⟨rfl, hq⟩
     replace hS : SH M X w [Ent.own 9 tS lit8 gl] _ := hS.below hq.below
     rw [hX] at hS
     exact ⟨gL [], fun _ _ => rfl, hS.sel [0] rfl⟩
    ·intro o ho a w yg187m M Hb hv hO hS0
     obtain rfl := Option.some.inj ho
     have H : Fr 117 ([(110, [], .slice gl.a 8 gl.c)] ++ [(0, [], .slice gl.a 8 gl.c), (3, [], .pointer (some ⟨b3m, 0, none⟩)), (12, [], .int .i64 6)]) _ := (Hb).add (hv 12 (by decide) (by decide) 110 rfl)
     obtain ⟨X, hX⟩ : ∃ X, X = fpl [Ent.own 9 tS lit8 gl] := ⟨_, rfl⟩
     have hS : SH M X w [Ent.own 9 tS lit8 gl] w := by rw [hX]; exact hS0
     refine Stp.mono (o_evs [] (.int .i64 8) none [] H rfl (by kernel_rfl) (fun q e => by cases e)) ?_
     rintro v w2 ⟨rfl, hq⟩
     replace hS : SH M X w [Ent.own 9 tS lit8 gl] _ := hS.below hq.below
     rw [hX] at hS
     exact ⟨gL [], fun _ _ => rfl, hS.sel [0] rfl⟩
    ·intro o ho a w yg187m M Hb hv hO hS0
     obtain rfl := Option.some.inj ho
     have H : Fr 117 ([] ++ [(0, [], .slice gl.a 8 gl.c), (3, [], .pointer (some ⟨b3m, 0, none⟩)), (12, [], .int .i64 6)]) _ := Hb
     obtain ⟨X, hX⟩ : ∃ X, X = fpl [] := ⟨_, rfl⟩
     have hS : SH M X w [] w := by rw [hX]; exact hS0
     refine Stp.mono (o_evs [] (.int .i64 6) none [] H rfl (by kernel_rfl) (fun q e => by cases e)) ?_
     rintro v w2 ⟨rfl, hq⟩
     replace hS : SH M X w [] _ := hS.below hq.below
     rw [hX] at hS
     exact ⟨gL [], fun _ _ => rfl, hS.sel [] rfl⟩
    ·intro o ho a w yg187m M Hb hv hO hS0
     obtain rfl := Option.some.inj ho
     have H : Fr 117 ([(112, [], .int .i64 6), (111, [], .int .i64 8)] ++ [(0, [], .slice gl.a 8 gl.c), (3, [], .pointer (some ⟨b3m, 0, none⟩)), (12, [], .int .i64 6)]) _ := ((Hb).add (hv 13 (by decide) (by decide) 111 rfl)).add (hv 14 (by decide) (by decide) 112 rfl)
     obtain ⟨X, hX⟩ : ∃ X, X = fpl [] := ⟨_, rfl⟩
     have hS : SH M X w [] w := by rw [hX]; exact hS0
     refine Stp.mono (o_evs [] (.int .i64 2) none [] H rfl (by kernel_rfl) (fun q e => by cases e)) ?_
     rintro v w2 ⟨rfl, hq⟩
     replace hS : SH M X w [] _ := hS.below hq.below
     rw [hX] at hS
     exact ⟨gL [], fun _ _ => rfl, hS.sel [] rfl⟩
    ·intro o ho a w yg187m M Hb hv hO hS0
     obtain rfl := Option.some.inj ho
     have H : Fr 117 ([] ++ [(0, [], .slice gl.a 8 gl.c), (3, [], .pointer (some ⟨b3m, 0, none⟩)), (12, [], .int .i64 6)]) _ := Hb
     obtain ⟨X, hX⟩ : ∃ X, X = fpl [Ent.blk b182m [.string ⟨⟨[10]⟩⟩, .int .i64 4, .string ⟨⟨[]⟩⟩, .pointer none, .slice none 0 0], Ent.blk b146m [.pointer none, .pointer none, .pointer (some ⟨b182m, 0, none⟩), .pointer (some ⟨b164m, 0, none⟩)], Ent.blk b164m [.string ⟨⟨[10]⟩⟩, .int .i64 6, .string ⟨⟨[10]⟩⟩, .pointer (some ⟨b163m, 0, none⟩), .slice none 0 0], Ent.blk b163m [.string ⟨⟨[10]⟩⟩, .int .i64 8, .string ⟨⟨[]⟩⟩, .pointer none, .slice none 0 0], Ent.mix .u8 b3m [.string ⟨⟨[]⟩⟩, .int .i64 0, .string ⟨⟨[]⟩⟩, .pointer none, .slice (some ⟨b146m, 0, none⟩) 4 4, .int .i64 4] gmap (256 : Int)] := ⟨_, rfl⟩
     have hS : SH M X w [Ent.blk b182m [.string ⟨⟨[10]⟩⟩, .int .i64 4, .string ⟨⟨[]⟩⟩, .pointer none, .slice none 0 0], Ent.blk b146m [.pointer none, .pointer none, .pointer (some ⟨b182m, 0, none⟩), .pointer (some ⟨b164m, 0, none⟩)], Ent.blk b164m [.string ⟨⟨[10]⟩⟩, .int .i64 6, .string ⟨⟨[10]⟩⟩, .pointer (some ⟨b163m, 0, none⟩), .slice none 0 0], Ent.blk b163m [.string ⟨⟨[10]⟩⟩, .int .i64 8, .string ⟨⟨[]⟩⟩, .pointer none, .slice none 0 0], Ent.mix .u8 b3m [.string ⟨⟨[]⟩⟩, .int .i64 0, .string ⟨⟨[]⟩⟩, .pointer none, .slice (some ⟨b146m, 0, none⟩) 4 4, .int .i64 4] gmap (256 : Int)] w := by rw [hX]; exact hS0
     refine Stp.mono (o_evs [] (.pointer (some ⟨b3m, 0, none⟩)) none [] H rfl (by kernel_rfl) (fun q e => by cases e)) ?_
     rintro v w2 ⟨rfl, hq⟩
     replace hS : SH M X w [Ent.blk b182m [.string ⟨⟨[10]⟩⟩, .int .i64 4, .string ⟨⟨[]⟩⟩, .pointer none, .slice none 0 0], Ent.blk b146m [.pointer none, .pointer none, .pointer (some ⟨b182m, 0, none⟩), .pointer (some ⟨b164m, 0, none⟩)], Ent.blk b164m [.string ⟨⟨[10]⟩⟩, .int .i64 6, .string ⟨⟨[10]⟩⟩, .pointer (some ⟨b163m, 0, none⟩), .slice none 0 0], Ent.blk b163m [.string ⟨⟨[10]⟩⟩, .int .i64 8, .string ⟨⟨[]⟩⟩, .pointer none, .slice none 0 0], Ent.mix .u8 b3m [.string ⟨⟨[]⟩⟩, .int .i64 0, .string ⟨⟨[]⟩⟩, .pointer none, .slice (some ⟨b146m, 0, none⟩) 4 4, .int .i64 4] gmap (256 : Int)] _ := hS.below hq.below
     rw [hX] at hS
     exact ⟨gL [], fun _ _ => rfl, hS.sel [0, 1, 2, 3, 4] rfl⟩
    ·intro o ho a w yg187m M Hb hv hO hS0
     obtain rfl := Option.some.inj ho
     have H : Fr 117 ([(114, [], .pointer (some ⟨b3m, 0, none⟩)), (113, [], .int .i64 2), (109, [], .string ⟨⟨[239, 191, 189]⟩⟩), (104, [], .string ⟨⟨[0]⟩⟩), (100, [], .pointer (some ⟨b3m, 0, none⟩))] ++ [(0, [], .slice gl.a 8 gl.c), (3, [], .pointer (some ⟨b3m, 0, none⟩)), (12, [], .int .i64 6)]) _ := (((((Hb).add (hv 2 (by decide) (by decide) 100 rfl)).add (hv 6 (by decide) (by decide) 104 rfl)).add (hv 11 (by decide) (by decide) 109 rfl)).add (hv 15 (by decide) (by decide) 113 rfl)).add (hv 16 (by decide) (by decide) 114 rfl)
     obtain ⟨X, hX⟩ : ∃ X, X = fpl [Ent.blk b182m [.string ⟨⟨[10]⟩⟩, .int .i64 4, .string ⟨⟨[]⟩⟩, .pointer none, .slice none 0 0], Ent.blk b146m [.pointer none, .pointer none, .pointer (some ⟨b182m, 0, none⟩), .pointer (some ⟨b164m, 0, none⟩)], Ent.blk b164m [.string ⟨⟨[10]⟩⟩, .int .i64 6, .string ⟨⟨[10]⟩⟩, .pointer (some ⟨b163m, 0, none⟩), .slice none 0 0], Ent.blk b163m [.string ⟨⟨[10]⟩⟩, .int .i64 8, .string ⟨⟨[]⟩⟩, .pointer none, .slice none 0 0], Ent.mix .u8 b3m [.string ⟨⟨[]⟩⟩, .int .i64 0, .string ⟨⟨[]⟩⟩, .pointer none, .slice (some ⟨b146m, 0, none⟩) 4 4, .int .i64 4] gmap (256 : Int)] := ⟨_, rfl⟩
     have hS : SH M X w [Ent.blk b182m [.string ⟨⟨[10]⟩⟩, .int .i64 4, .string ⟨⟨[]⟩⟩, .pointer none, .slice none 0 0], Ent.blk b146m [.pointer none, .pointer none, .pointer (some ⟨b182m, 0, none⟩), .pointer (some ⟨b164m, 0, none⟩)], Ent.blk b164m [.string ⟨⟨[10]⟩⟩, .int .i64 6, .string ⟨⟨[10]⟩⟩, .pointer (some ⟨b163m, 0, none⟩), .slice none 0 0], Ent.blk b163m [.string ⟨⟨[10]⟩⟩, .int .i64 8, .string ⟨⟨[]⟩⟩, .pointer none, .slice none 0 0], Ent.mix .u8 b3m [.string ⟨⟨[]⟩⟩, .int .i64 0, .string ⟨⟨[]⟩⟩, .pointer none, .slice (some ⟨b146m, 0, none⟩) 4 4, .int .i64 4] gmap (256 : Int)] w := by rw [hX]; exact hS0
     have hd := hS.hand [0, 1, 2, 3, 4] [] rfl rfl
     refine Stp.mono (o_callx H rfl rfl (strings_trieNode_add_cs8 _ _ hd)) ?_
     rintro v w2 hq
     obtain ⟨b188m, rfl, hq⟩ := hq
     replace hS : SH M X w [Ent.blk b188m [.string ⟨⟨[239, 191, 189]⟩⟩, .int .i64 2, .string ⟨⟨[]⟩⟩, .pointer none, .slice none 0 0], Ent.blk b146m [.pointer (some ⟨b188m, 0, none⟩), .pointer none, .pointer (some ⟨b182m, 0, none⟩), .pointer (some ⟨b164m, 0, none⟩)], Ent.blk b182m [.string ⟨⟨[10]⟩⟩, .int .i64 4, .string ⟨⟨[]⟩⟩, .pointer none, .slice none 0 0], Ent.blk b164m [.string ⟨⟨[10]⟩⟩, .int .i64 6, .string ⟨⟨[10]⟩⟩, .pointer (some ⟨b163m, 0, none⟩), .slice none 0 0], Ent.blk b163m [.string ⟨⟨[10]⟩⟩, .int .i64 8, .string ⟨⟨[]⟩⟩, .pointer none, .slice none 0 0], Ent.mix .u8 b3m [.string ⟨⟨[]⟩⟩, .int .i64 0, .string ⟨⟨[]⟩⟩, .pointer none, .slice (some ⟨b146m, 0, none⟩) 4 4, .int .i64 4] gmap (256 : Int)] _ := hS.join [0, 1, 2, 3, 4] [] rfl rfl hq
     clear hq
     rw [hX] at hS
     exact ⟨gL [Gh.mk (some ⟨b188m, 0, none⟩) 0 fun _ _ => .nil], fun _ _ => rfl, hS.sel [0, 1, 2, 3, 4, 5] rfl⟩
   have H191m : Fr 117 [(0, [], .slice gl.a 8 gl.c), (3, [], .pointer (some ⟨b3m, 0, none⟩)), (12, [], .int .i64 6)] _ := (FrG.keep (ks := [0, 3, 12]) H190m (by kernel_rfl))
   replace hS : SH M X w [Ent.blk (ab (yg187m 17 0).a) [.string ⟨⟨[239, 191, 189]⟩⟩, .int .i64 2, .string ⟨⟨[]⟩⟩, .pointer none, .slice none 0 0], Ent.blk b146m [.pointer (some ⟨(ab (yg187m 17 0).a), 0, none⟩), .pointer none, .pointer (some ⟨b182m, 0, none⟩), .pointer (some ⟨b164m, 0, none⟩)], Ent.blk b182m [.string ⟨⟨[10]⟩⟩, .int .i64 4, .string ⟨⟨[]⟩⟩, .pointer none, .slice none 0 0], Ent.blk b164m [.string ⟨⟨[10]⟩⟩, .int .i64 6, .string ⟨⟨[10]⟩⟩, .pointer (some ⟨b163m, 0, none⟩), .slice none 0 0], Ent.blk b163m [.string ⟨⟨[10]⟩⟩, .int .i64 8, .string ⟨⟨[]⟩⟩, .pointer none, .slice none 0 0], Ent.mix .u8 b3m [.string ⟨⟨[]⟩⟩, .int .i64 0, .string ⟨⟨[]⟩⟩, .pointer none, .slice (some ⟨b146m, 0, none⟩) 4 4, .int .i64 4] gmap (256 : Int), Ent.own 9 tS lit8 gl] _ := hS
   clear hv H190m
   generalize ab (yg187m 17 0).a = b192m at H191m hS
   refine w_reg [] [0, 3, 12] [(0, [], .slice gl.a 8 gl.c), (3, [], .pointer (some ⟨b3m, 0, none⟩)), (12, [], .int .i64 8)] [] H191m (by kernel_rfl) trivial fun _ wd193m H194m hb => ?_
   clear H191m
   replace hS := hS.below hb
   clear hb
   refine lw_round ?_
   refine w_seq ?_
   refine s_reg [] [0, 3, 12, 95] [(0, [], .slice gl.a 8 gl.c), (3, [], .pointer (some ⟨b3m, 0, none⟩)), (12, [], .int .i64 8), (95, [], .bool false)] [] H194m (by kernel_rfl) trivial fun _ wd195m H196m hb => ?_
   clear H194m
   replace hS := hS.below hb
   clear hb
   refine w_if H196m rfl (fun hc => by cases hc) (fun _ => ?_)
   refine w_exit rfl ?_
   refine s_reg [] [2] [(2, [], .pointer (some ⟨b3m, 0, none⟩))] [] H196m (by kernel_rfl) trivial fun _ wd197m H198m hb => ?_
   clear H196m
   replace hS := hS.below hb
   clear hb
   refine w_ret ?_
   exact retR1 H198m rfl rfl ⟨_, rfl, b3m, b146m, b163m, b164m, b182m, b192m, rfl, (hS.sel [0, 1, 2, 3, 4, 5, 6] rfl)⟩

theorem strings_Replacer_build_cs {rb : Nat} {gl : Gh} (M : Av) (w : World) (hS : S0 M [Ent.blk rb [.int .u32 0, .int .i32 1, .int .u32 0, .nilIface, .slice gl.a 8 gl.c], Ent.own 9 tS lit8 gl] w) : DoesX Try.prog 44 ⟨[.pointer (some ⟨rb, 0, none⟩)]⟩ w (fun v w' => ∃ (b26l : Nat) (b27l : Nat) (b28l : Nat) (b29l : Nat) (b30l : Nat) (b31l : Nat), v = .iface 83 (.pointer (some ⟨b26l, 0, none⟩)) ∧ SH M (fpl [Ent.blk rb [.int .u32 0, .int .i32 1, .int .u32 0, .nilIface, .slice gl.a 8 gl.c], Ent.own 9 tS lit8 gl]) w [Ent.blk b31l [.string ⟨⟨[239, 191, 189]⟩⟩, .int .i64 2, .string ⟨⟨[]⟩⟩, .pointer none, .slice none 0 0], Ent.blk b27l [.pointer (some ⟨b31l, 0, none⟩), .pointer none, .pointer (some ⟨b30l, 0, none⟩), .pointer (some ⟨b29l, 0, none⟩)], Ent.blk b30l [.string ⟨⟨[10]⟩⟩, .int .i64 4, .string ⟨⟨[]⟩⟩, .pointer none, .slice none 0 0], Ent.blk b29l [.string ⟨⟨[10]⟩⟩, .int .i64 6, .string ⟨⟨[10]⟩⟩, .pointer (some ⟨b28l, 0, none⟩), .slice none 0 0], Ent.blk b28l [.string ⟨⟨[10]⟩⟩, .int .i64 8, .string ⟨⟨[]⟩⟩, .pointer none, .slice none 0 0], Ent.mix .u8 b26l [.string ⟨⟨[]⟩⟩, .int .i64 0, .string ⟨⟨[]⟩⟩, .pointer none, .slice (some ⟨b27l, 0, none⟩) 4 4, .int .i64 4] gmap (256 : Int), Ent.own 9 tS lit8 gl, Ent.blk rb [.int .u32 0, .int .i32 1, .int .u32 0, .nilIface, .slice gl.a 8 gl.c]] w') := by
 refine ⟨Try.call44 _, ?_⟩
 have hS0 : SH M (fpl [Ent.blk rb [.int .u32 0, .int .i32 1, .int .u32 0, .nilIface, .slice gl.a 8 gl.c], Ent.own 9 tS lit8 gl]) w [Ent.blk rb [.int .u32 0, .int .i32 1, .int .u32 0, .nilIface, .slice gl.a 8 gl.c], Ent.own 9 tS lit8 gl] w := hS
 generalize hX : fpl [Ent.blk rb [.int .u32 0, .int .i32 1, .int .u32 0, .nilIface, .slice gl.a 8 gl.c], Ent.own 9 tS lit8 gl] = X at hS0 ⊢
 clear hS hX
 have hS := hS0
 clear hS0
 refine calls_entryP Try.func44 rfl Try.ntmps44 rfl fun _ H => ?_
 refine s_reg [] [0] [(0, [], .pointer (some ⟨rb, 0, none⟩))] [] H (by kernel_rfl) trivial fun _ wd1l H2l hb => ?_
 clear H
 replace hS := hS.below hb
 clear hb
 refine s_reg [(.slice gl.a 8 gl.c)] [3] [(3, [], .slice gl.a 8 gl.c)] [fun wz => V.at1 ⟨rb, 4, none⟩ (.slice gl.a 8 gl.c) wz] H2l (by kernel_rfl) ⟨((hS.bk 0 rfl).at1 rfl), trivial⟩ fun _ wd3l H4l hb => ?_
 clear H2l
 replace hS := hS.below hb
 clear hb
 refine w_seq ?_
 refine w_seq ?_
 refine wl_start ?_
 refine wl_batch 0 4 [] [3, 22] [(3, [], .slice gl.a 8 gl.c), (22, [], .bool false)] [] H4l (by decide) (by kernel_rfl) trivial fun _ wd5l H6l hb => ?_
 clear H4l
 replace hS := hS.below hb
 clear hb
 refine m_skipG 22 [23, 3, 22] [(23, [], undef), (3, [], .slice gl.a 8 gl.c), (22, [], .bool false)] H6l rfl rfl rfl rfl rfl rfl fun _ H7l => ?_
 clear H6l
 refine m_skipG 22 [24, 3, 22] [(24, [], undef), (3, [], .slice gl.a 8 gl.c), (22, [], .bool false)] H7l rfl rfl rfl rfl rfl rfl fun _ H8l => ?_
 clear H7l
 refine m_skipG 22 [25, 3, 22] [(25, [], undef), (3, [], .slice gl.a 8 gl.c), (22, [], .bool false)] H8l rfl rfl rfl rfl rfl rfl fun _ H9l => ?_
 clear H8l
 refine m_skipG 22 [26, 3, 22] [(26, [], undef), (3, [], .slice gl.a 8 gl.c), (22, [], .bool false)] H9l rfl rfl rfl rfl rfl rfl fun _ H10l => ?_
 clear H9l
 refine m_skipG 22 [27, 3, 22] [(27, [], undef), (3, [], .slice gl.a 8 gl.c), (22, [], .bool false)] H10l rfl rfl rfl rfl rfl rfl fun _ H11l => ?_
 clear H10l
 refine wl_batch 9 10 [] [3, 28] [(3, [], .slice gl.a 8 gl.c), (28, [], .bool false)] [] H11l (by decide) (by kernel_rfl) trivial fun _ wd12l H13l hb => ?_
 clear H11l
 replace hS := hS.below hb
 clear hb
 refine wl_end rfl ?_
 refine w_if H13l rfl (fun hc => by cases hc) (fun _ => ?_)
 refine w_skip ?_
 refine s_reg [] [3, 4] [(3, [], .slice gl.a 8 gl.c), (4, [], .bool true)] [] H13l (by kernel_rfl) trivial fun _ wd14l H15l hb => ?_
 clear H13l
 replace hS := hS.below hb
 clear hb
 refine w_seq ?_
 refine s_reg [] [3, 4, 5] [(3, [], .slice gl.a 8 gl.c), (4, [], .bool true), (5, [], .int .i64 0)] [] H15l (by kernel_rfl) trivial fun _ wd16l H17l hb => ?_
 clear H15l
 replace hS := hS.below hb
 clear hb
 refine w_block ?_
 refine w_loopU ?_
 refine lw_round ?_
 refine w_seq ?_
 refine s_reg [] [3, 4, 5, 40] [(3, [], .slice gl.a 8 gl.c), (4, [], .bool true), (5, [], .int .i64 0), (40, [], .bool true)] [] H17l (by kernel_rfl) trivial fun _ wd18l H19l hb => ?_
 clear H17l
 replace hS := hS.below hb
 clear hb
 refine w_if H19l rfl (fun _ => ?_) (fun hc => by cases hc)
 refine w_skip ?_
 refine w_seq ?_
 refine w_block ?_
 refine w_seq ?_
 refine s_reg [(.string ⟨⟨[13, 10]⟩⟩)] [3, 4, 5, 48] [(3, [], .slice gl.a 8 gl.c), (4, [], .bool true), (5, [], .int .i64 0), (48, [], .bool true)] [fun _ => oka gl.a ∧ 0 ≤ (0 : Int) ∧ (0 : Int) < ln lit8, fun wz => V.at1 ⟨ab gl.a, ao gl.a + ((0 : Int)).toNat * 1, none⟩ (.string ⟨⟨[13, 10]⟩⟩) wz] H19l (by kernel_rfl) ⟨((hS.osl 1 rfl).oki (show 0 ≤ (0 : Int) ∧ (0 : Int) < ln lit8 from by decide)), ((hS.osl 1 rfl).at1 (show 0 ≤ (0 : Int) ∧ (0 : Int) < ln lit8 from by decide) 0 rfl), trivial⟩ fun _ wd20l H21l hb => ?_
 clear H19l
 replace hS := hS.below hb
 clear hb
 refine w_if H21l rfl (fun _ => ?_) (fun hc => by cases hc)
 refine w_seq ?_
 refine wl_start ?_
 refine wl_batch 0 1 [] [49] [(49, [], .slice gl.a 8 gl.c)] [] H21l (by decide) (by kernel_rfl) trivial fun _ wd22l H23l hb => ?_
 clear H21l
 replace hS := hS.below hb
 clear hb
 have hd := hS.hand [1] [0] rfl rfl
 refine m_stp [50] [] H23l rfl rfl rfl rfl (o_callx H23l rfl rfl (strings_makeGenericReplacer_cs _ _ hd)) (fun _ => rfl) fun _ wd24l v H25l hq => ?_
 clear H23l hd
 obtain ⟨b26l, b27l, b28l, b29l, b30l, b31l, rfl, hq⟩ := hq
 replace hS : SH M X w [Ent.blk b31l [.string ⟨⟨[239, 191, 189]⟩⟩, .int .i64 2, .string ⟨⟨[]⟩⟩, .pointer none, .slice none 0 0], Ent.blk b27l [.pointer (some ⟨b31l, 0, none⟩), .pointer none, .pointer (some ⟨b30l, 0, none⟩), .pointer (some ⟨b29l, 0, none⟩)], Ent.blk b30l [.string ⟨⟨[10]⟩⟩, .int .i64 4, .string ⟨⟨[]⟩⟩, .pointer none, .slice none 0 0], Ent.blk b29l [.string ⟨⟨[10]⟩⟩, .int .i64 6, .string ⟨⟨[10]⟩⟩, .pointer (some ⟨b28l, 0, none⟩), .slice none 0 0], Ent.blk b28l [.string ⟨⟨[10]⟩⟩, .int .i64 8, .string ⟨⟨[]⟩⟩, .pointer none, .slice none 0 0], Ent.mix .u8 b26l [.string ⟨⟨[]⟩⟩, .int .i64 0, .string ⟨⟨[]⟩⟩, .pointer none, .slice (some ⟨b27l, 0, none⟩) 4 4, .int .i64 4] gmap (256 : Int), Ent.own 9 tS lit8 gl, Ent.blk rb [.int .u32 0, .int .i32 1, .int .u32 0, .nilIface, .slice gl.a 8 gl.c]] _ := hS.join [1] [0] rfl rfl hq
 clear hq
 refine wl_batch 2 4 [] [2] [(2, [], .iface 83 (.pointer (some ⟨b26l, 0, none⟩)))] [] H25l (by decide) (by kernel_rfl) trivial fun _ wd32l H33l hb => ?_
 clear H25l
 replace hS := hS.below hb
 clear hb
 refine wl_end rfl ?_
 refine w_ret ?_
 exact retR1 H33l rfl rfl ⟨_, rfl, b26l, b27l, b28l, b29l, b30l, b31l, rfl, (hS.sel [0, 1, 2, 3, 4, 5, 6, 7] rfl)⟩

theorem bo {rb : Nat} {gl : Gh} (M : Av) (w : World) (hS : S0 M [Ent.blk rb [.int .u32 0, .int .i32 1, .int .u32 0, .nilIface, .slice gl.a 8 gl.c], Ent.own 9 tS lit8 gl] w) : DoesX Try.prog 36 ⟨[.pointer (some ⟨rb, 0, none⟩)]⟩ w (fun v w' => ∃ (b5k : Nat) (b6k : Nat) (b7k : Nat) (b8k : Nat) (b9k : Nat) (b10k : Nat), v = .tuple ⟨[]⟩ ∧ SH M (fpl [Ent.blk rb [.int .u32 0, .int .i32 1, .int .u32 0, .nilIface, .slice gl.a 8 gl.c], Ent.own 9 tS lit8 gl]) w [Ent.blk rb [.int .u32 0, .int .i32 1, .int .u32 0, .iface 83 (.pointer (some ⟨b5k, 0, none⟩)), .slice none 0 0], Ent.blk b10k [.string ⟨⟨[239, 191, 189]⟩⟩, .int .i64 2, .string ⟨⟨[]⟩⟩, .pointer none, .slice none 0 0], Ent.blk b6k [.pointer (some ⟨b10k, 0, none⟩), .pointer none, .pointer (some ⟨b9k, 0, none⟩), .pointer (some ⟨b8k, 0, none⟩)], Ent.blk b9k [.string ⟨⟨[10]⟩⟩, .int .i64 4, .string ⟨⟨[]⟩⟩, .pointer none, .slice none 0 0], Ent.blk b8k [.string ⟨⟨[10]⟩⟩, .int .i64 6, .string ⟨⟨[10]⟩⟩, .pointer (some ⟨b7k, 0, none⟩), .slice none 0 0], Ent.blk b7k [.string ⟨⟨[10]⟩⟩, .int .i64 8, .string ⟨⟨[]⟩⟩, .pointer none, .slice none 0 0], Ent.mix .u8 b5k [.string ⟨⟨[]⟩⟩, .int .i64 0, .string ⟨⟨[]⟩⟩, .pointer none, .slice (some ⟨b6k, 0, none⟩) 4 4, .int .i64 4] gmap (256 : Int), Ent.own 9 tS lit8 gl] w') := by
 refine ⟨Try.call36 _, ?_⟩
 have hS0 : SH M (fpl [Ent.blk rb [.int .u32 0, .int .i32 1, .int .u32 0, .nilIface, .slice gl.a 8 gl.c], Ent.own 9 tS lit8 gl]) w [Ent.blk rb [.int .u32 0, .int .i32 1, .int .u32 0, .nilIface, .slice gl.a 8 gl.c], Ent.own 9 tS lit8 gl] w := hS
 generalize hX : fpl [Ent.blk rb [.int .u32 0, .int .i32 1, .int .u32 0, .nilIface, .slice gl.a 8 gl.c], Ent.own 9 tS lit8 gl] = X at hS0 ⊢
 clear hS hX
 have hS := hS0
 clear hS0
 refine calls_entryP Try.func36 rfl Try.ntmps36 rfl fun _ H => ?_
 refine w_seq ?_
 refine wl_start ?_
 refine wl_batch 0 2 [] [0, 2, 3] [(0, [], .pointer (some ⟨rb, 0, none⟩)), (2, [], .pointer (some ⟨rb, 0, none⟩)), (3, [], .pointer (some ⟨rb, 0, none⟩))] [] H (by decide) (by kernel_rfl) trivial fun _ wd1k H2k hb => ?_
 clear H
 replace hS := hS.below hb
 clear hb
 have hd := hS.hand [0, 1] [] rfl rfl
 refine m_stp [4, 0, 2] [(0, [], .pointer (some ⟨rb, 0, none⟩)), (2, [], .pointer (some ⟨rb, 0, none⟩))] H2k rfl rfl rfl rfl (o_callx H2k rfl rfl (strings_Replacer_build_cs _ _ hd)) (fun _ => rfl) fun _ wd3k v H4k hq => ?_
 clear H2k hd
 obtain ⟨b5k, b6k, b7k, b8k, b9k, b10k, rfl, hq⟩ := hq
 replace hS : SH M X w [Ent.blk b10k [.string ⟨⟨[239, 191, 189]⟩⟩, .int .i64 2, .string ⟨⟨[]⟩⟩, .pointer none, .slice none 0 0], Ent.blk b6k [.pointer (some ⟨b10k, 0, none⟩), .pointer none, .pointer (some ⟨b9k, 0, none⟩), .pointer (some ⟨b8k, 0, none⟩)], Ent.blk b9k [.string ⟨⟨[10]⟩⟩, .int .i64 4, .string ⟨⟨[]⟩⟩, .pointer none, .slice none 0 0], Ent.blk b8k [.string ⟨⟨[10]⟩⟩, .int .i64 6, .string ⟨⟨[10]⟩⟩, .pointer (some ⟨b7k, 0, none⟩), .slice none 0 0], Ent.blk b7k [.string ⟨⟨[10]⟩⟩, .int .i64 8, .string ⟨⟨[]⟩⟩, .pointer none, .slice none 0 0], Ent.mix .u8 b5k [.string ⟨⟨[]⟩⟩, .int .i64 0, .string ⟨⟨[]⟩⟩, .pointer none, .slice (some ⟨b6k, 0, none⟩) 4 4, .int .i64 4] gmap (256 : Int), Ent.own 9 tS lit8 gl, Ent.blk rb [.int .u32 0, .int .i32 1, .int .u32 0, .nilIface, .slice gl.a 8 gl.c]] _ := hS.join [0, 1] [] rfl rfl hq
 clear hq
 refine wl_batch 3 5 [] [0, 4, 6] [(0, [], .pointer (some ⟨rb, 0, none⟩)), (4, [], .iface 83 (.pointer (some ⟨b5k, 0, none⟩))), (6, [], .pointer (some ⟨rb, 3, none⟩))] [] H4k (by decide) (by kernel_rfl) trivial fun _ wd11k H12k hb => ?_
 clear H4k
 replace hS := hS.below hb
 clear hb
 have hd := hS.hand [7] [0, 1, 2, 3, 4, 5, 6] rfl rfl
 refine m_stp0 [0] [(0, [], .pointer (some ⟨rb, 0, none⟩))] H12k rfl rfl rfl (o_store [.int .u32 0, .int .i32 1, .int .u32 0, .iface 83 (.pointer (some ⟨b5k, 0, none⟩)), .slice gl.a 8 gl.c] H12k hd rfl rfl (by kernel_rfl) rfl rfl rfl) rfl fun _ wd13k H14k hq => ?_
 clear H12k hd
 obtain ⟨_, hq⟩ := hq
 replace hS : SH M X w [Ent.blk rb [.int .u32 0, .int .i32 1, .int .u32 0, .iface 83 (.pointer (some ⟨b5k, 0, none⟩)), .slice gl.a 8 gl.c], Ent.blk b10k [.string ⟨⟨[239, 191, 189]⟩⟩, .int .i64 2, .string ⟨⟨[]⟩⟩, .pointer none, .slice none 0 0], Ent.blk b6k [.pointer (some ⟨b10k, 0, none⟩), .pointer none, .pointer (some ⟨b9k, 0, none⟩), .pointer (some ⟨b8k, 0, none⟩)], Ent.blk b9k [.string ⟨⟨[10]⟩⟩, .int .i64 4, .string ⟨⟨[]⟩⟩, .pointer none, .slice none 0 0], Ent.blk b8k [.string ⟨⟨[10]⟩⟩, .int .i64 6, .string ⟨⟨[10]⟩⟩, .pointer (some ⟨b7k, 0, none⟩), .slice none 0 0], Ent.blk b7k [.string ⟨⟨[10]⟩⟩, .int .i64 8, .string ⟨⟨[]⟩⟩, .pointer none, .slice none 0 0], Ent.mix .u8 b5k [.string ⟨⟨[]⟩⟩, .int .i64 0, .string ⟨⟨[]⟩⟩, .pointer none, .slice (some ⟨b6k, 0, none⟩) 4 4, .int .i64 4] gmap (256 : Int), Ent.own 9 tS lit8 gl] _ := hS.join [7] [0, 1, 2, 3, 4, 5, 6] rfl rfl hq
 clear hq
 refine wl_end rfl ?_
 refine wl_start ?_
 refine wl_batch 0 3 [] [9] [(9, [], .pointer (some ⟨rb, 4, none⟩))] [] H14k (by decide) (by kernel_rfl) trivial fun _ wd15k H16k hb => ?_
 clear H14k
 replace hS := hS.below hb
 clear hb
 have hd := hS.hand [0] [1, 2, 3, 4, 5, 6, 7] rfl rfl
 refine m_stp0 [] [] H16k rfl rfl rfl (o_store [.int .u32 0, .int .i32 1, .int .u32 0, .iface 83 (.pointer (some ⟨b5k, 0, none⟩)), .slice none 0 0] H16k hd rfl rfl (by kernel_rfl) rfl rfl rfl) rfl fun _ wd17k H18k hq => ?_
 clear H16k hd
 obtain ⟨_, hq⟩ := hq
 replace hS : SH M X w [Ent.blk rb [.int .u32 0, .int .i32 1, .int .u32 0, .iface 83 (.pointer (some ⟨b5k, 0, none⟩)), .slice none 0 0], Ent.blk b10k [.string ⟨⟨[239, 191, 189]⟩⟩, .int .i64 2, .string ⟨⟨[]⟩⟩, .pointer none, .slice none 0 0], Ent.blk b6k [.pointer (some ⟨b10k, 0, none⟩), .pointer none, .pointer (some ⟨b9k, 0, none⟩), .pointer (some ⟨b8k, 0, none⟩)], Ent.blk b9k [.string ⟨⟨[10]⟩⟩, .int .i64 4, .string ⟨⟨[]⟩⟩, .pointer none, .slice none 0 0], Ent.blk b8k [.string ⟨⟨[10]⟩⟩, .int .i64 6, .string ⟨⟨[10]⟩⟩, .pointer (some ⟨b7k, 0, none⟩), .slice none 0 0], Ent.blk b7k [.string ⟨⟨[10]⟩⟩, .int .i64 8, .string ⟨⟨[]⟩⟩, .pointer none, .slice none 0 0], Ent.mix .u8 b5k [.string ⟨⟨[]⟩⟩, .int .i64 0, .string ⟨⟨[]⟩⟩, .pointer none, .slice (some ⟨b6k, 0, none⟩) 4 4, .int .i64 4] gmap (256 : Int), Ent.own 9 tS lit8 gl] _ := hS.join [0] [1, 2, 3, 4, 5, 6, 7] rfl rfl hq
 clear hq
 refine wl_end rfl ?_
 try dsimp only
 exact retR0 H18k rfl ⟨_, rfl, b5k, b6k, b7k, b8k, b9k, b10k, rfl, (hS.sel [0, 1, 2, 3, 4, 5, 6, 7] rfl)⟩

def stringslite_HasPrefix (s : Str) (prefix_ : Str) : Option (Bool) :=
  chk ((decide ((ln prefix_) ≤ (ln s))) = true → 0 ≤ (ln prefix_) ∧ (ln prefix_) ≤ ln s) <|
  lt (cond (decide ((ln prefix_) ≤ (ln s))) ((sub s 0 (ln prefix_)) == prefix_) false) fun x4 =>
  some x4
theorem stringslite_HasPrefix_w  (M : Av) (s : Str) (prefix_ : Str) (r : Bool) (hm : stringslite_HasPrefix s prefix_ = some r) (w : World) (hS : S0 M [] w) : Calls Try.prog 87 ⟨[.string ⟨⟨s⟩⟩, .string ⟨⟨prefix_⟩⟩]⟩ w (fun e w' => ∃ v, e = .returned v ∧ v = .bool r ∧ SH M (fpl []) w [] w') := by
 rw [stringslite_HasPrefix] at hm
 have hS0 : SH M (fpl []) w [] w := hS
 generalize hX : fpl [] = X at hS0 ⊢
 clear hS hX
 have hS := hS0
 clear hS0
 refine calls_entryP Try.func87 rfl Try.ntmps87 rfl fun _ H => ?_
 refine s_reg [] [0, 1] [(0, [], .string ⟨⟨s⟩⟩), (1, [], .string ⟨⟨prefix_⟩⟩)] [] H (by kernel_rfl) trivial fun _ wd1 H2 hb => ?_
 clear H
 replace hS := hS.below hb
 clear hb
 obtain ⟨ho3, hm⟩ := chkE hm
 obtain ⟨x4, hx4, hm⟩ := letE hm
 refine s_reg [] [4] [(4, [], .bool x4)] [fun _ => ((decide ((ln prefix_) ≤ (ln s))) = true ∧ True → 0 ≤ (ln prefix_) ∧ (ln prefix_) ≤ ln s)] H2 (by subst hx4; kernel_rfl) ⟨fun hg => (ho3 hg.1), trivial⟩ fun _ wd5 H6 hb => ?_
 clear H2
 replace hS := hS.below hb
 clear hb
 refine w_ret ?_
 obtain rfl := someE hm
 exact retR1 H6 rfl rfl ⟨_, rfl, rfl, (hS.sel [] rfl)⟩
theorem stringslite_HasPrefix_ok  (s : Str) (prefix_ : Str) (r : Bool) (hm : stringslite_HasPrefix s prefix_ = some r) : Ret Try.prog 87 ⟨[.string ⟨⟨s⟩⟩, .string ⟨⟨prefix_⟩⟩]⟩ (.bool r) := retP_of (Try.call87 _) (fun w h => stringslite_HasPrefix_w F0   s prefix_ r hm w h)

def strings_HasPrefix (s : Str) (prefix_ : Str) : Option (Bool) :=
  Option.bind (stringslite_HasPrefix s prefix_) fun y3 =>
  some y3
theorem strings_HasPrefix_w  (M : Av) (s : Str) (prefix_ : Str) (r : Bool) (hm : strings_HasPrefix s prefix_ = some r) (w : World) (hS : S0 M [] w) : Calls Try.prog 78 ⟨[.string ⟨⟨s⟩⟩, .string ⟨⟨prefix_⟩⟩]⟩ w (fun e w' => ∃ v, e = .returned v ∧ v = .bool r ∧ SH M (fpl []) w [] w') := by
 rw [strings_HasPrefix] at hm
 have hS0 : SH M (fpl []) w [] w := hS
 generalize hX : fpl [] = X at hS0 ⊢
 clear hS hX
 have hS := hS0
 clear hS0
 refine calls_entryP Try.func78 rfl Try.ntmps78 rfl fun _ H => ?_
 refine s_reg [] [0, 1] [(0, [], .string ⟨⟨s⟩⟩), (1, [], .string ⟨⟨prefix_⟩⟩)] [] H (by kernel_rfl) trivial fun _ wd1 H2 hb => ?_
 clear H
 replace hS := hS.below hb
 clear hb
 obtain ⟨y3, hy3, hm⟩ := bindE hm
 refine s_reg [(.bool y3)] [4] [(4, [], .bool y3)] [fun wz => RetB Try.prog 87 ⟨[.string ⟨⟨s⟩⟩, .string ⟨⟨prefix_⟩⟩]⟩ (.bool y3) wz] H2 (by kernel_rfl) ⟨((stringslite_HasPrefix_ok _ _ _ hy3).b), trivial⟩ fun _ wd4 H5 hb => ?_
 clear H2
 replace hS := hS.below hb
 clear hb
 refine w_ret ?_
 obtain rfl := someE hm
 exact retR1 H5 rfl rfl ⟨_, rfl, rfl, (hS.sel [] rfl)⟩
theorem strings_HasPrefix_ok  (s : Str) (prefix_ : Str) (r : Bool) (hm : strings_HasPrefix s prefix_ = some r) : Ret Try.prog 78 ⟨[.string ⟨⟨s⟩⟩, .string ⟨⟨prefix_⟩⟩]⟩ (.bool r) := retP_of (Try.call78 _) (fun w h => strings_HasPrefix_w F0   s prefix_ r hm w h)

def strings_genericReplacer_lookup (s : Str) : Option (Str × Int × Bool) :=
  cond (s == []) (
  some ([], 0, false)) (
  chk (0 ≤ (0 : Int) ∧ (0 : Int) < ln s) <|
  cond (decide ((bat s 0) = 13)) (
  chk (0 ≤ (1 : Int) ∧ (1 : Int) ≤ ln s) <|
  cond ((sub s 1 (ln s)) == []) (
  some ([10], 1, true)) (
  Option.bind (strings_HasPrefix (sub s 1 (ln s)) [10]) fun y63 =>
  cond y63 (
  chk (0 ≤ (1 : Int) ∧ (1 : Int) ≤ ln (sub s 1 (ln s))) <|
  lt (sub (sub s 1 (ln s)) 1 (ln (sub s 1 (ln s)))) fun x69 =>
  cond (x69 == []) (
  some ([10], 2, true)) (
  some ([10], 2, true))) (
  some ([10], 1, true)))) (
  cond (decide ((bat s 0) = 12)) (
  chk (0 ≤ (1 : Int) ∧ (1 : Int) ≤ ln s) <|
  cond ((sub s 1 (ln s)) == []) (
  some ([10], 1, true)) (
  some ([10], 1, true))) (
  cond (decide ((bat s 0) = 10)) (
  chk (0 ≤ (1 : Int) ∧ (1 : Int) ≤ ln s) <|
  some ([], 0, false)) (
  cond (decide ((bat s 0) = 0)) (
  chk (0 ≤ (1 : Int) ∧ (1 : Int) ≤ ln s) <|
  cond ((sub s 1 (ln s)) == []) (
  some ([239, 191, 189], 1, true)) (
  some ([239, 191, 189], 1, true))) (
  some ([], 0, false))))))
end Go.Proofs.Ytihckkbhieblkaa
