/-
  What the Go functions compute, as Lean functions, and that a call returns just that. Printed by a program.
-/
import Derived.Test.YtpgflfjmjppmeaaGreatDoorRows
import Derived.Test.YtpgflfjmjppmeaaGreatDoorX
import Derived.Test.YtpgflfjmjppmeaaGreatDoorMP
import Derived.Test.YtpgflfjmjppmeaaGreatDoorCO
import Derived.Test.YtpgflfjmjppmeaaGreatDoorM
import Derived.Test.YtpgflfjmjppmeaaGreatDoorW27mc
set_option linter.unusedVariables false
set_option maxRecDepth 20000
set_option maxHeartbeats 4000000
namespace Go.Proofs.YtpgflfjmjppmeaaGreatDoor
open Go.V Go.RowKit

theorem law27_alive_w  (M : Av) (m : Nat)  (r : Bool) (hm : law27_alive m = some r) (w : World) (hS : S0 M [gE0] w) : Calls Tryz.prog 15 ⟨[]⟩ w (fun e w' => ∃ v, e = .returned v ∧ v = vB r ∧ SH M (fpl [gE0]) w [] w') := by
 rw [law27_alive] at hm
 have hS0 : SH M (fpl [gE0]) w [gE0] w := hS
 generalize hX : fpl [gE0] = X at hS0 ⊢
 clear hS hX
 have hS := hS0
 clear hS0
 refine calls_entryP Tryz.func15 rfl Tryz.ntmps15 rfl fun _ H => ?_
 refine s_reg [] [] [] [] H (by kernel_rfl) trivial fun _ _ H2 hb => ?_
 replace hS := hS.below hb
 clear H hb
 obtain ⟨z3, hz, hm⟩ := bindE hm
 refine w_cut (fun a' w' => Fr 36 [(0, [], vB z3)] a' ∧ SH M X w [gE0] w') ?_ ?_
 ·replace hm := hz
  apply wl_start
  obtain ⟨y4, hy4, hm⟩ := bindE hm
  have hd := hS.hand [] [0] rfl rfl
  refine m_stp [1] [] H2 rfl rfl rfl rfl (o_callx H2 rfl rfl (law27_decl_ok m _ _ _ hy4 _ _ hd)) (fun _ => rfl) fun _ _ v H8 hq => ?_
  clear H2 hd
  obtain ⟨g5, rfl, hq⟩ := hq
  replace hS : SH M X w [eI tyValue y4.Value g5, gE0] _ := hS.join [] [0] rfl rfl hq
  clear hq
  have hd := hS.hand [] [0, 1] rfl rfl
  refine m_stp [2, 1] [(1, [], vG [vS y4.Name, vL g5 y4.Value, vB y4.Important])] H8 rfl rfl rfl rfl (o_lit (T := tS) (E := 9) (zv := vN) [vS [109, 97, 114, 103, 105, 110, 45, 116, 111, 112], vS [49, 112, 120], vS [109, 97, 114, 103, 105, 110, 45, 114, 105, 103, 104, 116], vS [97, 117, 116, 111], vS [109, 97, 114, 103, 105, 110, 45, 98, 111, 116, 116, 111, 109], vS [49, 112, 120], vS [109, 97, 114, 103, 105, 110, 45, 108, 101, 102, 116], vS [97, 117, 116, 111]] kL2 [gL [], gL [], gL [], gL [], gL [], gL [], gL [], gL []] _ H8 hd rfl (by kernel_rfl) (by kernel_rfl) (by kernel_rfl) (by kernel_rfl) (by kernel_rfl) (by kernel_rfl) (by kernel_rfl) rfl (InnL.cons trivial (InnL.cons trivial (InnL.cons trivial (InnL.cons trivial (InnL.cons trivial (InnL.cons trivial (InnL.cons trivial (InnL.cons trivial InnL.nil))))))))) (fun _ => rfl) fun _ _ v H12 hq => ?_
  clear H8 hd
  obtain ⟨g9, rfl, hq⟩ := hq
  replace hS : SH M X w [eO 9 tS kL2 g9, eI tyValue y4.Value g5, gE0] _ := hS.join [] [0, 1] rfl rfl hq
  clear hq
  obtain ⟨y13, hy13, hm⟩ := bindE hm
  obtain ⟨x14, hx14, hm⟩ := letE hm
  refine wl_batch 2 4 [(vB y13)] [4] [(4, [], vB x14)] [rB 21 [vG [vS y4.Name, vL g5 y4.Value, vB y4.Important], vN, vK g9 8] (vB y13)] H12 (by decide) (by subst hx14; kernel_rfl) ⟨(law27_is_ok (g_d__0 := g5) (g_want := g9) m _ _ _ _ hy13 _ (s0im (s0im (s0im s0nil (hS.im 2 rfl)) (hS.osl 0 rfl)) (hS.im 1 rfl))), trivial⟩ fun _ _ H16 hb => ?_
  replace hS := hS.below hb
  clear H12 hb
  cases x14
  case false =>
   replace hm := bF rfl hm
   refine m_skipG 4 [5, 4] (fS [5, 4] [undef, vF]) H16 rfl rfl rfl rfl rfl rfl fun _ H188 => ?_
   clear H16
   refine m_skipG 4 [6, 4, 5] (fS [6, 4, 5] [undef, vF, undef]) H188 rfl rfl rfl rfl rfl rfl fun _ H189 => ?_
   clear H188
   refine m_skipG 4 [7, 4] (fS [7, 4] [undef, vF]) H189 rfl rfl rfl rfl rfl rfl fun _ H190 => ?_
   clear H189
   refine wl_batch 7 9 [] [9] [(9, [], vF)] [] H190 (by decide) (by kernel_rfl) trivial fun _ _ H192 hb => ?_
   replace hS := hS.below hb
   clear H190 hb
   refine m_skipG 9 [10, 9] (fS [10, 9] [undef, vF]) H192 rfl rfl rfl rfl rfl rfl fun _ H193 => ?_
   clear H192
   refine m_skipG 9 [11, 9, 10] (fS [11, 9, 10] [undef, vF, undef]) H193 rfl rfl rfl rfl rfl rfl fun _ H194 => ?_
   clear H193
   refine m_skipG 9 [12, 9] (fS [12, 9] [undef, vF]) H194 rfl rfl rfl rfl rfl rfl fun _ H195 => ?_
   clear H194
   refine wl_batch 12 14 [] [14] [(14, [], vF)] [] H195 (by decide) (by kernel_rfl) trivial fun _ _ H197 hb => ?_
   replace hS := hS.below hb
   clear H195 hb
   refine m_skipG 14 [15, 14] (fS [15, 14] [undef, vF]) H197 rfl rfl rfl rfl rfl rfl fun _ H198 => ?_
   clear H197
   refine m_skipG 14 [16, 14, 15] (fS [16, 14, 15] [undef, vF, undef]) H198 rfl rfl rfl rfl rfl rfl fun _ H199 => ?_
   clear H198
   refine m_skipG 14 [17, 14] (fS [17, 14] [undef, vF]) H199 rfl rfl rfl rfl rfl rfl fun _ H200 => ?_
   clear H199
   refine wl_batch 17 19 [] [19] [(19, [], vF)] [] H200 (by decide) (by kernel_rfl) trivial fun _ _ H202 hb => ?_
   replace hS := hS.below hb
   clear H200 hb
   refine m_skipG 19 [20, 19] (fS [20, 19] [undef, vF]) H202 rfl rfl rfl rfl rfl rfl fun _ H203 => ?_
   clear H202
   refine m_skipG 19 [21, 19] (fS [21, 19] [undef, vF]) H203 rfl rfl rfl rfl rfl rfl fun _ H204 => ?_
   clear H203
   refine wl_batch 21 23 [] [23] [(23, [], vF)] [] H204 (by decide) (by kernel_rfl) trivial fun _ _ H206 hb => ?_
   replace hS := hS.below hb
   clear H204 hb
   refine m_skipG 23 [24, 23] (fS [24, 23] [undef, vF]) H206 rfl rfl rfl rfl rfl rfl fun _ H207 => ?_
   clear H206
   refine m_skipG 23 [25, 23] (fS [25, 23] [undef, vF]) H207 rfl rfl rfl rfl rfl rfl fun _ H208 => ?_
   clear H207
   refine wl_batch 25 27 [] [27] [(27, [], vF)] [] H208 (by decide) (by kernel_rfl) trivial fun _ _ H210 hb => ?_
   replace hS := hS.below hb
   clear H208 hb
   refine m_skipG 27 [28, 27] (fS [28, 27] [undef, vF]) H210 rfl rfl rfl rfl rfl rfl fun _ H211 => ?_
   clear H210
   refine m_skipG 27 [29, 27] (fS [29, 27] [undef, vF]) H211 rfl rfl rfl rfl rfl rfl fun _ H212 => ?_
   clear H211
   refine wl_batch 29 31 [] [31] [(31, [], vF)] [] H212 (by decide) (by kernel_rfl) trivial fun _ _ H214 hb => ?_
   replace hS := hS.below hb
   clear H212 hb
   refine m_skipG 31 [32, 31] (fS [32, 31] [undef, vF]) H214 rfl rfl rfl rfl rfl rfl fun _ H215 => ?_
   clear H214
   refine m_skipG 31 [33, 31, 32] (fS [33, 31, 32] [undef, vF, undef]) H215 rfl rfl rfl rfl rfl rfl fun _ H216 => ?_
   clear H215
   refine m_skipG 31 [34, 31] (fS [34, 31] [undef, vF]) H216 rfl rfl rfl rfl rfl rfl fun _ H217 => ?_
   clear H216
   refine wl_batch 34 36 [] [0] [(0, [], vF)] [] H217 (by decide) (by kernel_rfl) trivial fun _ _ H219 hb => ?_
   replace hS := hS.below hb
   clear H217 hb
   apply wl_end rfl
   replace hS : SH M X w [gE0] _ := hS.sel [2] rfl
   obtain rfl := someE hm
   exact ⟨FrG.keep (ks := [0]) H219 (by kernel_rfl), hS⟩
  replace hm := bT rfl hm
  obtain ⟨y17, hy17, hm⟩ := bindE hm
  have hd := hS.hand [] [0, 1, 2] rfl rfl
  refine m_stpG 4 [5, 4] [(4, [], vT)] H16 rfl rfl rfl rfl (o_callx H16 rfl rfl (law27_decl_ok m _ _ _ hy17 _ _ hd)) (fun _ => rfl) fun _ _ v H21 hq => ?_
  clear H16 hd
  obtain ⟨g18, rfl, hq⟩ := hq
  replace hS : SH M X w [eI tyValue y17.Value g18, eO 9 tS kL2 g9, eI tyValue y4.Value g5, gE0] _ := hS.join [] [0, 1, 2] rfl rfl hq
  clear hq
  have hd := hS.hand [] [0, 1, 2, 3] rfl rfl
  refine m_stpG 4 [6, 4, 5] (fS [4, 5] [vT, vG [vS y17.Name, vL g18 y17.Value, vB y17.Important]]) H21 rfl rfl rfl rfl (o_lit (T := tS) (E := 9) (zv := vN) [vS [109, 97, 114, 103, 105, 110, 45, 116, 111, 112], vS [49, 112, 120, 32, 118, 97, 114, 40, 45, 45, 97, 41], vS [109, 97, 114, 103, 105, 110, 45, 114, 105, 103, 104, 116], vS [49, 112, 120, 32, 118, 97, 114, 40, 45, 45, 97, 41], vS [109, 97, 114, 103, 105, 110, 45, 98, 111, 116, 116, 111, 109], vS [49, 112, 120, 32, 118, 97, 114, 40, 45, 45, 97, 41], vS [109, 97, 114, 103, 105, 110, 45, 108, 101, 102, 116], vS [49, 112, 120, 32, 118, 97, 114, 40, 45, 45, 97, 41]] kL4 [gL [], gL [], gL [], gL [], gL [], gL [], gL [], gL []] _ H21 hd rfl (by kernel_rfl) (by kernel_rfl) (by kernel_rfl) (by kernel_rfl) (by kernel_rfl) (by kernel_rfl) (by kernel_rfl) rfl (InnL.cons trivial (InnL.cons trivial (InnL.cons trivial (InnL.cons trivial (InnL.cons trivial (InnL.cons trivial (InnL.cons trivial (InnL.cons trivial InnL.nil))))))))) (fun _ => rfl) fun _ _ v H25 hq => ?_
  clear H21 hd
  obtain ⟨g22, rfl, hq⟩ := hq
  replace hS : SH M X w [eO 9 tS kL4 g22, eI tyValue y17.Value g18, eO 9 tS kL2 g9, eI tyValue y4.Value g5, gE0] _ := hS.join [] [0, 1, 2, 3] rfl rfl hq
  clear hq
  obtain ⟨y26, hy26, hm⟩ := bindE hm
  obtain ⟨x27, hx27, hm⟩ := letE hm
  refine wl_batch 6 9 [(vB y26)] [9] [(9, [], vB x27)] [fun wz => (true = true ∧ True → RetB Tryz.prog 21 ⟨[vG [vS y17.Name, vL g18 y17.Value, vB y17.Important], vS [109, 97, 114, 103, 105, 110], vK g22 8]⟩ (vB y26) wz)] H25 (by decide) (by subst hx27; kernel_rfl) ⟨fun hg => law27_is_ok (g_d__0 := g18) (g_want := g22) m _ _ _ _ hy26 _ (s0im (s0im (s0im s0nil (hS.im 4 rfl)) (hS.osl 0 rfl)) (hS.im 1 rfl)), trivial⟩ fun _ _ H29 hb => ?_
  replace hS := hS.below hb
  clear H25 hb
  cases x27
  case false =>
   replace hm := bF rfl hm
   refine m_skipG 9 [10, 9] (fS [10, 9] [undef, vF]) H29 rfl rfl rfl rfl rfl rfl fun _ H161 => ?_
   clear H29
   refine m_skipG 9 [11, 9, 10] (fS [11, 9, 10] [undef, vF, undef]) H161 rfl rfl rfl rfl rfl rfl fun _ H162 => ?_
   clear H161
   refine m_skipG 9 [12, 9] (fS [12, 9] [undef, vF]) H162 rfl rfl rfl rfl rfl rfl fun _ H163 => ?_
   clear H162
   refine wl_batch 12 14 [] [14] [(14, [], vF)] [] H163 (by decide) (by kernel_rfl) trivial fun _ _ H165 hb => ?_
   replace hS := hS.below hb
   clear H163 hb
   refine m_skipG 14 [15, 14] (fS [15, 14] [undef, vF]) H165 rfl rfl rfl rfl rfl rfl fun _ H166 => ?_
   clear H165
   refine m_skipG 14 [16, 14, 15] (fS [16, 14, 15] [undef, vF, undef]) H166 rfl rfl rfl rfl rfl rfl fun _ H167 => ?_
   clear H166
   refine m_skipG 14 [17, 14] (fS [17, 14] [undef, vF]) H167 rfl rfl rfl rfl rfl rfl fun _ H168 => ?_
   clear H167
   refine wl_batch 17 19 [] [19] [(19, [], vF)] [] H168 (by decide) (by kernel_rfl) trivial fun _ _ H170 hb => ?_
   replace hS := hS.below hb
   clear H168 hb
   refine m_skipG 19 [20, 19] (fS [20, 19] [undef, vF]) H170 rfl rfl rfl rfl rfl rfl fun _ H171 => ?_
   clear H170
   refine m_skipG 19 [21, 19] (fS [21, 19] [undef, vF]) H171 rfl rfl rfl rfl rfl rfl fun _ H172 => ?_
   clear H171
   refine wl_batch 21 23 [] [23] [(23, [], vF)] [] H172 (by decide) (by kernel_rfl) trivial fun _ _ H174 hb => ?_
   replace hS := hS.below hb
   clear H172 hb
   refine m_skipG 23 [24, 23] (fS [24, 23] [undef, vF]) H174 rfl rfl rfl rfl rfl rfl fun _ H175 => ?_
   clear H174
   refine m_skipG 23 [25, 23] (fS [25, 23] [undef, vF]) H175 rfl rfl rfl rfl rfl rfl fun _ H176 => ?_
   clear H175
   refine wl_batch 25 27 [] [27] [(27, [], vF)] [] H176 (by decide) (by kernel_rfl) trivial fun _ _ H178 hb => ?_
   replace hS := hS.below hb
   clear H176 hb
   refine m_skipG 27 [28, 27] (fS [28, 27] [undef, vF]) H178 rfl rfl rfl rfl rfl rfl fun _ H179 => ?_
   clear H178
   refine m_skipG 27 [29, 27] (fS [29, 27] [undef, vF]) H179 rfl rfl rfl rfl rfl rfl fun _ H180 => ?_
   clear H179
   refine wl_batch 29 31 [] [31] [(31, [], vF)] [] H180 (by decide) (by kernel_rfl) trivial fun _ _ H182 hb => ?_
   replace hS := hS.below hb
   clear H180 hb
   refine m_skipG 31 [32, 31] (fS [32, 31] [undef, vF]) H182 rfl rfl rfl rfl rfl rfl fun _ H183 => ?_
   clear H182
   refine m_skipG 31 [33, 31, 32] (fS [33, 31, 32] [undef, vF, undef]) H183 rfl rfl rfl rfl rfl rfl fun _ H184 => ?_
   clear H183
   refine m_skipG 31 [34, 31] (fS [34, 31] [undef, vF]) H184 rfl rfl rfl rfl rfl rfl fun _ H185 => ?_
   clear H184
   refine wl_batch 34 36 [] [0] [(0, [], vF)] [] H185 (by decide) (by kernel_rfl) trivial fun _ _ H187 hb => ?_
   replace hS := hS.below hb
   clear H185 hb
   apply wl_end rfl
   replace hS : SH M X w [gE0] _ := hS.sel [4] rfl
   obtain rfl := someE hm
   exact ⟨FrG.keep (ks := [0]) H187 (by kernel_rfl), hS⟩
  replace hm := bT rfl hm
  obtain ⟨y30, hy30, hm⟩ := bindE hm
  have hd := hS.hand [] [0, 1, 2, 3, 4] rfl rfl
  refine m_stpG 9 [10, 9] [(9, [], vT)] H29 rfl rfl rfl rfl (o_callx H29 rfl rfl (law27_decl_ok m _ _ _ hy30 _ _ hd)) (fun _ => rfl) fun _ _ v H34 hq => ?_
  clear H29 hd
  obtain ⟨g31, rfl, hq⟩ := hq
  replace hS : SH M X w [eI tyValue y30.Value g31, eO 9 tS kL4 g22, eI tyValue y17.Value g18, eO 9 tS kL2 g9, eI tyValue y4.Value g5, gE0] _ := hS.join [] [0, 1, 2, 3, 4] rfl rfl hq
  clear hq
  have hd := hS.hand [] [0, 1, 2, 3, 4, 5] rfl rfl
  refine m_stpG 9 [11, 9, 10] (fS [9, 10] [vT, vG [vS y30.Name, vL g31 y30.Value, vB y30.Important]]) H34 rfl rfl rfl rfl (o_lit (T := tS) (E := 9) (zv := vN) [vS [98, 111, 114, 100, 101, 114, 45, 99, 111, 108, 111, 114], vS [82, 69, 68]] kL6 [gL [], gL []] _ H34 hd rfl (by kernel_rfl) (by kernel_rfl) (by kernel_rfl) (by kernel_rfl) (by kernel_rfl) (by kernel_rfl) (by kernel_rfl) rfl (InnL.cons trivial (InnL.cons trivial InnL.nil))) (fun _ => rfl) fun _ _ v H38 hq => ?_
  clear H34 hd
  obtain ⟨g35, rfl, hq⟩ := hq
  replace hS : SH M X w [eO 9 tS kL6 g35, eI tyValue y30.Value g31, eO 9 tS kL4 g22, eI tyValue y17.Value g18, eO 9 tS kL2 g9, eI tyValue y4.Value g5, gE0] _ := hS.join [] [0, 1, 2, 3, 4, 5] rfl rfl hq
  clear hq
  obtain ⟨y39, hy39, hm⟩ := bindE hm
  obtain ⟨x40, hx40, hm⟩ := letE hm
  refine wl_batch 11 14 [(vB y39)] [14] [(14, [], vB x40)] [fun wz => (true = true ∧ True → RetB Tryz.prog 21 ⟨[vG [vS y30.Name, vL g31 y30.Value, vB y30.Important], vN, vK g35 2]⟩ (vB y39) wz)] H38 (by decide) (by subst hx40; kernel_rfl) ⟨fun hg => law27_is_ok (g_d__0 := g31) (g_want := g35) m _ _ _ _ hy39 _ (s0im (s0im (s0im s0nil (hS.im 6 rfl)) (hS.osl 0 rfl)) (hS.im 1 rfl)), trivial⟩ fun _ _ H42 hb => ?_
  replace hS := hS.below hb
  clear H38 hb
  cases x40
  case false =>
   replace hm := bF rfl hm
   refine m_skipG 14 [15, 14] (fS [15, 14] [undef, vF]) H42 rfl rfl rfl rfl rfl rfl fun _ H139 => ?_
   clear H42
   refine m_skipG 14 [16, 14, 15] (fS [16, 14, 15] [undef, vF, undef]) H139 rfl rfl rfl rfl rfl rfl fun _ H140 => ?_
   clear H139
   refine m_skipG 14 [17, 14] (fS [17, 14] [undef, vF]) H140 rfl rfl rfl rfl rfl rfl fun _ H141 => ?_
   clear H140
   refine wl_batch 17 19 [] [19] [(19, [], vF)] [] H141 (by decide) (by kernel_rfl) trivial fun _ _ H143 hb => ?_
   replace hS := hS.below hb
   clear H141 hb
   refine m_skipG 19 [20, 19] (fS [20, 19] [undef, vF]) H143 rfl rfl rfl rfl rfl rfl fun _ H144 => ?_
   clear H143
   refine m_skipG 19 [21, 19] (fS [21, 19] [undef, vF]) H144 rfl rfl rfl rfl rfl rfl fun _ H145 => ?_
   clear H144
   refine wl_batch 21 23 [] [23] [(23, [], vF)] [] H145 (by decide) (by kernel_rfl) trivial fun _ _ H147 hb => ?_
   replace hS := hS.below hb
   clear H145 hb
   refine m_skipG 23 [24, 23] (fS [24, 23] [undef, vF]) H147 rfl rfl rfl rfl rfl rfl fun _ H148 => ?_
   clear H147
   refine m_skipG 23 [25, 23] (fS [25, 23] [undef, vF]) H148 rfl rfl rfl rfl rfl rfl fun _ H149 => ?_
   clear H148
   refine wl_batch 25 27 [] [27] [(27, [], vF)] [] H149 (by decide) (by kernel_rfl) trivial fun _ _ H151 hb => ?_
   replace hS := hS.below hb
   clear H149 hb
   refine m_skipG 27 [28, 27] (fS [28, 27] [undef, vF]) H151 rfl rfl rfl rfl rfl rfl fun _ H152 => ?_
   clear H151
   refine m_skipG 27 [29, 27] (fS [29, 27] [undef, vF]) H152 rfl rfl rfl rfl rfl rfl fun _ H153 => ?_
   clear H152
   refine wl_batch 29 31 [] [31] [(31, [], vF)] [] H153 (by decide) (by kernel_rfl) trivial fun _ _ H155 hb => ?_
   replace hS := hS.below hb
   clear H153 hb
   refine m_skipG 31 [32, 31] (fS [32, 31] [undef, vF]) H155 rfl rfl rfl rfl rfl rfl fun _ H156 => ?_
   clear H155
   refine m_skipG 31 [33, 31, 32] (fS [33, 31, 32] [undef, vF, undef]) H156 rfl rfl rfl rfl rfl rfl fun _ H157 => ?_
   clear H156
   refine m_skipG 31 [34, 31] (fS [34, 31] [undef, vF]) H157 rfl rfl rfl rfl rfl rfl fun _ H158 => ?_
   clear H157
   refine wl_batch 34 36 [] [0] [(0, [], vF)] [] H158 (by decide) (by kernel_rfl) trivial fun _ _ H160 hb => ?_
   replace hS := hS.below hb
   clear H158 hb
   apply wl_end rfl
   replace hS : SH M X w [gE0] _ := hS.sel [6] rfl
   obtain rfl := someE hm
   exact ⟨FrG.keep (ks := [0]) H160 (by kernel_rfl), hS⟩
  replace hm := bT rfl hm
  obtain ⟨y43, hy43, hm⟩ := bindE hm
  have hd := hS.hand [] [0, 1, 2, 3, 4, 5, 6] rfl rfl
  refine m_stpG 14 [15, 14] [(14, [], vT)] H42 rfl rfl rfl rfl (o_callx H42 rfl rfl (law27_decl_ok m _ _ _ hy43 _ _ hd)) (fun _ => rfl) fun _ _ v H47 hq => ?_
  clear H42 hd
  obtain ⟨g44, rfl, hq⟩ := hq
  replace hS : SH M X w [eI tyValue y43.Value g44, eO 9 tS kL6 g35, eI tyValue y30.Value g31, eO 9 tS kL4 g22, eI tyValue y17.Value g18, eO 9 tS kL2 g9, eI tyValue y4.Value g5, gE0] _ := hS.join [] [0, 1, 2, 3, 4, 5, 6] rfl rfl hq
  clear hq
  have hd := hS.hand [] [0, 1, 2, 3, 4, 5, 6, 7] rfl rfl
  refine m_stpG 14 [16, 14, 15] (fS [14, 15] [vT, vG [vS y43.Name, vL g44 y43.Value, vB y43.Important]]) H47 rfl rfl rfl rfl (o_lit (T := tS) (E := 9) (zv := vN) [vS [111, 117, 116, 108, 105, 110, 101, 45, 99, 111, 108, 111, 114], vS [117, 110, 115, 101, 116]] kL9 [gL [], gL []] _ H47 hd rfl (by kernel_rfl) (by kernel_rfl) (by kernel_rfl) (by kernel_rfl) (by kernel_rfl) (by kernel_rfl) (by kernel_rfl) rfl (InnL.cons trivial (InnL.cons trivial InnL.nil))) (fun _ => rfl) fun _ _ v H51 hq => ?_
  clear H47 hd
  obtain ⟨g48, rfl, hq⟩ := hq
  replace hS : SH M X w [eO 9 tS kL9 g48, eI tyValue y43.Value g44, eO 9 tS kL6 g35, eI tyValue y30.Value g31, eO 9 tS kL4 g22, eI tyValue y17.Value g18, eO 9 tS kL2 g9, eI tyValue y4.Value g5, gE0] _ := hS.join [] [0, 1, 2, 3, 4, 5, 6, 7] rfl rfl hq
  clear hq
  obtain ⟨y52, hy52, hm⟩ := bindE hm
  obtain ⟨x53, hx53, hm⟩ := letE hm
  refine wl_batch 16 19 [(vB y52)] [19] [(19, [], vB x53)] [fun wz => (true = true ∧ True → RetB Tryz.prog 21 ⟨[vG [vS y43.Name, vL g44 y43.Value, vB y43.Important], vN, vK g48 2]⟩ (vB y52) wz)] H51 (by decide) (by subst hx53; kernel_rfl) ⟨fun hg => law27_is_ok (g_d__0 := g44) (g_want := g48) m _ _ _ _ hy52 _ (s0im (s0im (s0im s0nil (hS.im 8 rfl)) (hS.osl 0 rfl)) (hS.im 1 rfl)), trivial⟩ fun _ _ H55 hb => ?_
  replace hS := hS.below hb
  clear H51 hb
  cases x53
  case false =>
   replace hm := bF rfl hm
   refine m_skipG 19 [20, 19] (fS [20, 19] [undef, vF]) H55 rfl rfl rfl rfl rfl rfl fun _ H122 => ?_
   clear H55
   refine m_skipG 19 [21, 19] (fS [21, 19] [undef, vF]) H122 rfl rfl rfl rfl rfl rfl fun _ H123 => ?_
   clear H122
   refine wl_batch 21 23 [] [23] [(23, [], vF)] [] H123 (by decide) (by kernel_rfl) trivial fun _ _ H125 hb => ?_
   replace hS := hS.below hb
   clear H123 hb
   refine m_skipG 23 [24, 23] (fS [24, 23] [undef, vF]) H125 rfl rfl rfl rfl rfl rfl fun _ H126 => ?_
   clear H125
   refine m_skipG 23 [25, 23] (fS [25, 23] [undef, vF]) H126 rfl rfl rfl rfl rfl rfl fun _ H127 => ?_
   clear H126
   refine wl_batch 25 27 [] [27] [(27, [], vF)] [] H127 (by decide) (by kernel_rfl) trivial fun _ _ H129 hb => ?_
   replace hS := hS.below hb
   clear H127 hb
   refine m_skipG 27 [28, 27] (fS [28, 27] [undef, vF]) H129 rfl rfl rfl rfl rfl rfl fun _ H130 => ?_
   clear H129
   refine m_skipG 27 [29, 27] (fS [29, 27] [undef, vF]) H130 rfl rfl rfl rfl rfl rfl fun _ H131 => ?_
   clear H130
   refine wl_batch 29 31 [] [31] [(31, [], vF)] [] H131 (by decide) (by kernel_rfl) trivial fun _ _ H133 hb => ?_
   replace hS := hS.below hb
   clear H131 hb
   refine m_skipG 31 [32, 31] (fS [32, 31] [undef, vF]) H133 rfl rfl rfl rfl rfl rfl fun _ H134 => ?_
   clear H133
   refine m_skipG 31 [33, 31, 32] (fS [33, 31, 32] [undef, vF, undef]) H134 rfl rfl rfl rfl rfl rfl fun _ H135 => ?_
   clear H134
   refine m_skipG 31 [34, 31] (fS [34, 31] [undef, vF]) H135 rfl rfl rfl rfl rfl rfl fun _ H136 => ?_
   clear H135
   refine wl_batch 34 36 [] [0] [(0, [], vF)] [] H136 (by decide) (by kernel_rfl) trivial fun _ _ H138 hb => ?_
   replace hS := hS.below hb
   clear H136 hb
   apply wl_end rfl
   replace hS : SH M X w [gE0] _ := hS.sel [8] rfl
   obtain rfl := someE hm
   exact ⟨FrG.keep (ks := [0]) H138 (by kernel_rfl), hS⟩
  replace hm := bT rfl hm
  obtain ⟨y56, hy56, hm⟩ := bindE hm
  have hd := hS.hand [] [0, 1, 2, 3, 4, 5, 6, 7, 8] rfl rfl
  refine m_stpG 19 [20, 19] [(19, [], vT)] H55 rfl rfl rfl rfl (o_callx H55 rfl rfl (law27_decl_ok m _ _ _ hy56 _ _ hd)) (fun _ => rfl) fun _ _ v H60 hq => ?_
  clear H55 hd
  obtain ⟨g57, rfl, hq⟩ := hq
  replace hS : SH M X w [eI tyValue y56.Value g57, eO 9 tS kL9 g48, eI tyValue y43.Value g44, eO 9 tS kL6 g35, eI tyValue y30.Value g31, eO 9 tS kL4 g22, eI tyValue y17.Value g18, eO 9 tS kL2 g9, eI tyValue y4.Value g5, gE0] _ := hS.join [] [0, 1, 2, 3, 4, 5, 6, 7, 8] rfl rfl hq
  clear hq
  obtain ⟨y61, hy61, hm⟩ := bindE hm
  obtain ⟨x62, hx62, hm⟩ := letE hm
  refine wl_batch 20 23 [(vB y61)] [23] [(23, [], vB x62)] [fun wz => (true = true ∧ True → RetB Tryz.prog 23 ⟨[vG [vS y56.Name, vL g57 y56.Value, vB y56.Important], vI 12]⟩ (vB y61) wz)] H60 (by decide) (by subst hx62; kernel_rfl) ⟨fun hg => law27_none_ok (g_d__0 := g57) m _ _ _ hy61 _ (s0im (s0im s0nil (hS.im 9 rfl)) (hS.im 0 rfl)), trivial⟩ fun _ _ H64 hb => ?_
  replace hS := hS.below hb
  clear H60 hb
  cases x62
  case false =>
   replace hm := bF rfl hm
   refine m_skipG 23 [24, 23] (fS [24, 23] [undef, vF]) H64 rfl rfl rfl rfl rfl rfl fun _ H109 => ?_
   clear H64
   refine m_skipG 23 [25, 23] (fS [25, 23] [undef, vF]) H109 rfl rfl rfl rfl rfl rfl fun _ H110 => ?_
   clear H109
   refine wl_batch 25 27 [] [27] [(27, [], vF)] [] H110 (by decide) (by kernel_rfl) trivial fun _ _ H112 hb => ?_
   replace hS := hS.below hb
   clear H110 hb
   refine m_skipG 27 [28, 27] (fS [28, 27] [undef, vF]) H112 rfl rfl rfl rfl rfl rfl fun _ H113 => ?_
   clear H112
   refine m_skipG 27 [29, 27] (fS [29, 27] [undef, vF]) H113 rfl rfl rfl rfl rfl rfl fun _ H114 => ?_
   clear H113
   refine wl_batch 29 31 [] [31] [(31, [], vF)] [] H114 (by decide) (by kernel_rfl) trivial fun _ _ H116 hb => ?_
   replace hS := hS.below hb
   clear H114 hb
   refine m_skipG 31 [32, 31] (fS [32, 31] [undef, vF]) H116 rfl rfl rfl rfl rfl rfl fun _ H117 => ?_
   clear H116
   refine m_skipG 31 [33, 31, 32] (fS [33, 31, 32] [undef, vF, undef]) H117 rfl rfl rfl rfl rfl rfl fun _ H118 => ?_
   clear H117
   refine m_skipG 31 [34, 31] (fS [34, 31] [undef, vF]) H118 rfl rfl rfl rfl rfl rfl fun _ H119 => ?_
   clear H118
   refine wl_batch 34 36 [] [0] [(0, [], vF)] [] H119 (by decide) (by kernel_rfl) trivial fun _ _ H121 hb => ?_
   replace hS := hS.below hb
   clear H119 hb
   apply wl_end rfl
   replace hS : SH M X w [gE0] _ := hS.sel [9] rfl
   obtain rfl := someE hm
   exact ⟨FrG.keep (ks := [0]) H121 (by kernel_rfl), hS⟩
  replace hm := bT rfl hm
  obtain ⟨y65, hy65, hm⟩ := bindE hm
  have hd := hS.hand [] [0, 1, 2, 3, 4, 5, 6, 7, 8, 9] rfl rfl
  refine m_stpG 23 [24, 23] [(23, [], vT)] H64 rfl rfl rfl rfl (o_callx H64 rfl rfl (law27_decl_ok m _ _ _ hy65 _ _ hd)) (fun _ => rfl) fun _ _ v H69 hq => ?_
  clear H64 hd
  obtain ⟨g66, rfl, hq⟩ := hq
  replace hS : SH M X w [eI tyValue y65.Value g66, eI tyValue y56.Value g57, eO 9 tS kL9 g48, eI tyValue y43.Value g44, eO 9 tS kL6 g35, eI tyValue y30.Value g31, eO 9 tS kL4 g22, eI tyValue y17.Value g18, eO 9 tS kL2 g9, eI tyValue y4.Value g5, gE0] _ := hS.join [] [0, 1, 2, 3, 4, 5, 6, 7, 8, 9] rfl rfl hq
  clear hq
  obtain ⟨y70, hy70, hm⟩ := bindE hm
  obtain ⟨x71, hx71, hm⟩ := letE hm
  refine wl_batch 24 27 [(vB y70)] [27] [(27, [], vB x71)] [fun wz => (true = true ∧ True → RetB Tryz.prog 23 ⟨[vG [vS y65.Name, vL g66 y65.Value, vB y65.Important], vI 12]⟩ (vB y70) wz)] H69 (by decide) (by subst hx71; kernel_rfl) ⟨fun hg => law27_none_ok (g_d__0 := g66) m _ _ _ hy70 _ (s0im (s0im s0nil (hS.im 10 rfl)) (hS.im 0 rfl)), trivial⟩ fun _ _ H73 hb => ?_
  replace hS := hS.below hb
  clear H69 hb
  cases x71
  case false =>
   replace hm := bF rfl hm
   refine m_skipG 27 [28, 27] (fS [28, 27] [undef, vF]) H73 rfl rfl rfl rfl rfl rfl fun _ H100 => ?_
   clear H73
   refine m_skipG 27 [29, 27] (fS [29, 27] [undef, vF]) H100 rfl rfl rfl rfl rfl rfl fun _ H101 => ?_
   clear H100
   refine wl_batch 29 31 [] [31] [(31, [], vF)] [] H101 (by decide) (by kernel_rfl) trivial fun _ _ H103 hb => ?_
   replace hS := hS.below hb
   clear H101 hb
   refine m_skipG 31 [32, 31] (fS [32, 31] [undef, vF]) H103 rfl rfl rfl rfl rfl rfl fun _ H104 => ?_
   clear H103
   refine m_skipG 31 [33, 31, 32] (fS [33, 31, 32] [undef, vF, undef]) H104 rfl rfl rfl rfl rfl rfl fun _ H105 => ?_
   clear H104
   refine m_skipG 31 [34, 31] (fS [34, 31] [undef, vF]) H105 rfl rfl rfl rfl rfl rfl fun _ H106 => ?_
   clear H105
   refine wl_batch 34 36 [] [0] [(0, [], vF)] [] H106 (by decide) (by kernel_rfl) trivial fun _ _ H108 hb => ?_
   replace hS := hS.below hb
   clear H106 hb
   apply wl_end rfl
   replace hS : SH M X w [gE0] _ := hS.sel [10] rfl
   obtain rfl := someE hm
   exact ⟨FrG.keep (ks := [0]) H108 (by kernel_rfl), hS⟩
  replace hm := bT rfl hm
  obtain ⟨y74, hy74, hm⟩ := bindE hm
  have hd := hS.hand [] [0, 1, 2, 3, 4, 5, 6, 7, 8, 9, 10] rfl rfl
  refine m_stpG 27 [28, 27] [(27, [], vT)] H73 rfl rfl rfl rfl (o_callx H73 rfl rfl (law27_decl_ok m _ _ _ hy74 _ _ hd)) (fun _ => rfl) fun _ _ v H78 hq => ?_
  clear H73 hd
  obtain ⟨g75, rfl, hq⟩ := hq
  replace hS : SH M X w [eI tyValue y74.Value g75, eI tyValue y65.Value g66, eI tyValue y56.Value g57, eO 9 tS kL9 g48, eI tyValue y43.Value g44, eO 9 tS kL6 g35, eI tyValue y30.Value g31, eO 9 tS kL4 g22, eI tyValue y17.Value g18, eO 9 tS kL2 g9, eI tyValue y4.Value g5, gE0] _ := hS.join [] [0, 1, 2, 3, 4, 5, 6, 7, 8, 9, 10] rfl rfl hq
  clear hq
  obtain ⟨y79, hy79, hm⟩ := bindE hm
  obtain ⟨x80, hx80, hm⟩ := letE hm
  refine wl_batch 28 31 [(vB y79)] [31] [(31, [], vB x80)] [fun wz => (true = true ∧ True → RetB Tryz.prog 23 ⟨[vG [vS y74.Name, vL g75 y74.Value, vB y74.Important], vI 12]⟩ (vB y79) wz)] H78 (by decide) (by subst hx80; kernel_rfl) ⟨fun hg => law27_none_ok (g_d__0 := g75) m _ _ _ hy79 _ (s0im (s0im s0nil (hS.im 11 rfl)) (hS.im 0 rfl)), trivial⟩ fun _ _ H82 hb => ?_
  replace hS := hS.below hb
  clear H78 hb
  cases x80
  case false =>
   replace hm := bF rfl hm
   refine m_skipG 31 [32, 31] (fS [32, 31] [undef, vF]) H82 rfl rfl rfl rfl rfl rfl fun _ H95 => ?_
   clear H82
   refine m_skipG 31 [33, 31, 32] (fS [33, 31, 32] [undef, vF, undef]) H95 rfl rfl rfl rfl rfl rfl fun _ H96 => ?_
   clear H95
   refine m_skipG 31 [34, 31] (fS [34, 31] [undef, vF]) H96 rfl rfl rfl rfl rfl rfl fun _ H97 => ?_
   clear H96
   refine wl_batch 34 36 [] [0] [(0, [], vF)] [] H97 (by decide) (by kernel_rfl) trivial fun _ _ H99 hb => ?_
   replace hS := hS.below hb
   clear H97 hb
   apply wl_end rfl
   replace hS : SH M X w [gE0] _ := hS.sel [11] rfl
   obtain rfl := someE hm
   exact ⟨FrG.keep (ks := [0]) H99 (by kernel_rfl), hS⟩
  replace hm := bT rfl hm
  obtain ⟨y83, hy83, hm⟩ := bindE hm
  have hd := hS.hand [] [0, 1, 2, 3, 4, 5, 6, 7, 8, 9, 10, 11] rfl rfl
  refine m_stpG 31 [32, 31] [(31, [], vT)] H82 rfl rfl rfl rfl (o_callx H82 rfl rfl (law27_decl_ok m _ _ _ hy83 _ _ hd)) (fun _ => rfl) fun _ _ v H87 hq => ?_
  clear H82 hd
  obtain ⟨g84, rfl, hq⟩ := hq
  replace hS : SH M X w [eI tyValue y83.Value g84, eI tyValue y74.Value g75, eI tyValue y65.Value g66, eI tyValue y56.Value g57, eO 9 tS kL9 g48, eI tyValue y43.Value g44, eO 9 tS kL6 g35, eI tyValue y30.Value g31, eO 9 tS kL4 g22, eI tyValue y17.Value g18, eO 9 tS kL2 g9, eI tyValue y4.Value g5, gE0] _ := hS.join [] [0, 1, 2, 3, 4, 5, 6, 7, 8, 9, 10, 11] rfl rfl hq
  clear hq
  have hd := hS.hand [] [0, 1, 2, 3, 4, 5, 6, 7, 8, 9, 10, 11, 12] rfl rfl
  refine m_stpG 31 [33, 31, 32] (fS [31, 32] [vT, vG [vS y83.Name, vL g84 y83.Value, vB y83.Important]]) H87 rfl rfl rfl rfl (o_lit (T := tS) (E := 9) (zv := vN) [vS [45, 45, 120], vN] ([[45, 45, 120], []] : List Str) [gL [], gL []] _ H87 hd rfl (by kernel_rfl) (by kernel_rfl) (by kernel_rfl) (by kernel_rfl) (by kernel_rfl) (by kernel_rfl) (by kernel_rfl) rfl (InnL.cons trivial (InnL.cons trivial InnL.nil))) (fun _ => rfl) fun _ _ v H91 hq => ?_
  clear H87 hd
  obtain ⟨g88, rfl, hq⟩ := hq
  replace hS : SH M X w [eO 9 tS ([[45, 45, 120], []] : List Str) g88, eI tyValue y83.Value g84, eI tyValue y74.Value g75, eI tyValue y65.Value g66, eI tyValue y56.Value g57, eO 9 tS kL9 g48, eI tyValue y43.Value g44, eO 9 tS kL6 g35, eI tyValue y30.Value g31, eO 9 tS kL4 g22, eI tyValue y17.Value g18, eO 9 tS kL2 g9, eI tyValue y4.Value g5, gE0] _ := hS.join [] [0, 1, 2, 3, 4, 5, 6, 7, 8, 9, 10, 11, 12] rfl rfl hq
  clear hq
  obtain ⟨y92, hy92, hm⟩ := bindE hm
  refine wl_batch 33 36 [(vB y92)] [0] [(0, [], vB y92)] [fun wz => (true = true ∧ True → RetB Tryz.prog 21 ⟨[vG [vS y83.Name, vL g84 y83.Value, vB y83.Important], vN, vK g88 2]⟩ (vB y92) wz)] H91 (by decide) (by kernel_rfl) ⟨fun hg => law27_is_ok (g_d__0 := g84) (g_want := g88) m _ _ _ _ hy92 _ (s0im (s0im (s0im s0nil (hS.im 13 rfl)) (hS.osl 0 rfl)) (hS.im 1 rfl)), trivial⟩ fun _ _ H94 hb => ?_
  replace hS := hS.below hb
  clear H91 hb
  apply wl_end rfl
  replace hS : SH M X w [gE0] _ := hS.sel [13] rfl
  obtain rfl := someE hm
  exact ⟨FrG.keep (ks := [0]) H94 (by kernel_rfl), hS⟩
 ·rintro _ _ ⟨H, hS⟩
  apply w_ret
  obtain rfl := someE hm
  exact retR1 H rfl rfl ⟨_, rfl, rfl, (hS.sel [] rfl)⟩
theorem law27_alive_ok  (m : Nat)  (r : Bool) (hm : law27_alive m = some r) (w : World) (hL : S0 F0 [gE0] w ∧ fpl [gE0] = []) : RetB Tryz.prog 15 ⟨[]⟩ (vB r) w := retB_of hL (Tryz.call15 _) (fun w' h => law27_alive_w F0 m    r hm w' h)

theorem law27_ShortMargins_w  (M : Av) (m : Nat) (n_ : TA4_int64) (many : Int) (r : Bool) (hm : law27_ShortMargins m n_ many = some r) (w : World) (hS : S0 M [gE0] w) : Calls Tryz.prog 5 ⟨[vG [vI n_.e0, vI n_.e1, vI n_.e2, vI n_.e3], vI many]⟩ w (fun e w' => ∃ v, e = .returned v ∧ v = vB r ∧ SH M (fpl [gE0]) w [] w') := by
 rw [law27_ShortMargins] at hm
 have hS0 : SH M (fpl [gE0]) w [gE0] w := hS
 generalize hX : fpl [gE0] = X at hS0 ⊢
 clear hS hX
 have hS := hS0
 clear hS0
 refine calls_entryP Tryz.func5 rfl Tryz.ntmps5 rfl fun _ H => ?_
 apply w_seq
 apply wl_start
 have hd := hS.hand [] [0] rfl rfl
 refine m_stp [2, 1] [(1, [], vI many)] H rfl rfl rfl rfl (o_boxR .i64 [n_.e0, n_.e1, n_.e2, n_.e3] H hd rfl rfl) (fun _ => rfl) fun _ _ v H3 hq => ?_
 clear H hd
 obtain ⟨b1, rfl, hq⟩ := hq
 replace hS : SH M X w [Ent.row .i64 b1 [n_.e0, n_.e1, n_.e2, n_.e3] (4 : Int), gE0] _ := hS.join [] [0] rfl rfl hq
 clear hq
 refine wl_batch 1 2 [] [1, 2] (fS [1, 2] [vI many, vP b1]) [] H3 (by decide) (by kernel_rfl) trivial fun _ _ H5 hb => ?_
 replace hS := hS.below hb
 clear H3 hb
 apply wl_end rfl
 obtain ⟨y6, hy6, hm⟩ := bindE hm
 refine s_reg [(vB y6)] [1, 2, 5] (fS [1, 2, 5] [vI many, vP b1, vB y6]) [rB 15 [] (vB y6)] H5 (by kernel_rfl) ⟨(law27_alive_ok 300 _ hy6 _ (s0im s0nil (hS.im 1 rfl))), trivial⟩ fun _ _ H8 hb => ?_
 replace hS := hS.below hb
 clear H5 hb
 apply w_seq
 obtain ⟨x9, hx9, hm⟩ := letE hm
 refine s_reg [] [1, 2, 5, 24] (fS [1, 2, 5, 24] [vI many, vP b1, vB y6, vB (cond x9 true (!y6))]) [] H8 (by subst hx9; kernel_rfl) trivial fun _ _ H11 hb => ?_
 replace hS := hS.below hb
 clear H8 hb
 refine w_if H11 rfl (fun hc => ?c127) (fun hc => ?_)
 case c127 =>
  replace hm := bT hc hm
  refine s_reg [] [4] [(4, [], vB y6)] [] H11 (by kernel_rfl) trivial fun _ _ H13 hb => ?_
  replace hS := hS.below hb
  clear H11 hb
  replace hS : SH M X w [gE0] _ := hS.sel [1] rfl
  apply w_ret
  obtain rfl := someE hm
  exact retR1 H13 rfl rfl ⟨_, rfl, rfl, (hS.sel [] rfl)⟩
 replace hm := bF hc hm
 apply w_skip
 refine s_reg [] [1, 2, 5, 6] (fS [1, 2, 5, 6] [vI many, vP b1, vB y6, vO]) [] H11 (by kernel_rfl) trivial fun _ _ H15 hb => ?_
 replace hS := hS.below hb
 clear H11 hb
 obtain ⟨z16, hz, hm_z16⟩ := bindE hm
 refine w_cut (fun a' w' => ∃ s_z16 : List TValue, z16 = Sum.inr s_z16 ∧ ∃ (g69 : Gh), Fr 106 (fS [1, 2, 5, 6] [vI many, vP b1, vB y6, vL g69 s_z16]) a' ∧ SH M X w [eO 51 tyValue s_z16 g69, Ent.row .i64 b1 [n_.e0, n_.e1, n_.e2, n_.e3] (4 : Int), gE0] w') ?_ ?_
 ·replace hm := hz
  refine s_reg [] [1, 2, 5, 6, 7] (fS [1, 2, 5, 6, 7] [vI many, vP b1, vB y6, vO, vI 0]) [] H15 (by kernel_rfl) trivial fun _ _ H18 hb => ?_
  replace hS := hS.below hb
  clear H15 hb
  apply w_block
  replace hS : SH M X w [eO 51 tyValue ([] : List TValue) (.nil), Ent.row .i64 b1 [n_.e0, n_.e1, n_.e2, n_.e3] (4 : Int), gE0] _ := hS.addNil 51 tyValue
  refine w_loop (fun kk a' w' => ∃ (v20 : List TValue) (v22 : Int) (g21 : Gh), law27_ShortMargins_L1 m n_ many y6 kk v20 v22 = some _ ∧ Fr 106 (fS [1, 2, 5, 6, 7] [vI many, vP b1, vB y6, vL g21 v20, vI v22]) a' ∧ SH M X w [eO 51 tyValue v20 g21, Ent.row .i64 b1 [n_.e0, n_.e1, n_.e2, n_.e3] (4 : Int), gE0] w') ⟨_, ([] : List TValue), 0, Gh.nil, hm, FrG.keep (ks := [1, 2, 5, 6, 7]) H18 (by kernel_rfl), hS⟩ ?_
  clear hm H18 hS
  rintro kk _ _ ⟨v20, v22, g21, hm, H, hS⟩
  cases kk with
  | zero => exact noneE hm
  | succ kk =>
   rw [law27_ShortMargins_L1] at hm
   apply w_seq
   refine s_reg [] [1, 2, 5, 6, 7, 28] (fS [1, 2, 5, 6, 7, 28] [vI many, vP b1, vB y6, vL g21 v20, vI v22, vB (decide (v22 < many))]) [] H (by kernel_rfl) trivial fun _ _ H24 hb => ?_
   replace hS := hS.below hb
   clear H hb
   refine w_if H24 rfl (fun hc => ?_) (fun hc => ?c67)
   case c67 =>
    replace hm := bF hc hm
    apply w_exit rfl
    obtain rfl := someE hm
    exact ⟨_, rfl, g21, FrG.keep (ks := [1, 2, 5, 6]) H24 (by kernel_rfl), hS⟩
   replace hm := bT hc hm
   apply w_skip
   apply w_seq
   apply w_block
   apply w_seq
   obtain ⟨ho25, hm⟩ := chkE hm
   obtain ⟨x26, hx26, hm⟩ := letE hm
   obtain ⟨x27, hx27, hm⟩ := letE hm
   refine s_reg [(vI (gi [n_.e0, n_.e1, n_.e2, n_.e3] v22)), (vI (gi [n_.e0, n_.e1, n_.e2, n_.e3] v22))] [1, 2, 5, 6, 7, 40] (fS [1, 2, 5, 6, 7, 40] [vI many, vP b1, vB y6, vL g21 v20, vI v22, vB x27]) [fun _ => 0 ≤ v22 ∧ v22 < (4 : Int), fun wz => V.at1 ⟨b1, 0 + (v22).toNat * 1, none⟩ (vI (gi [n_.e0, n_.e1, n_.e2, n_.e3] v22)) wz, fun _ => (x26 = false ∧ True → 0 ≤ v22 ∧ v22 < (4 : Int)), fun wz => (x26 = false ∧ True → V.at1 ⟨b1, 0 + (v22).toNat * 1, none⟩ (vI (gi [n_.e0, n_.e1, n_.e2, n_.e3] v22)) wz)] H24 (by subst hx26 hx27; kernel_rfl) ⟨ho25, (Rw.ixn (hS.rw 1 rfl) ho25), fun hg => ho25, fun hg => (Rw.ixn (hS.rw 1 rfl) ho25), trivial⟩ fun _ _ H29 hb => ?_
   replace hS := hS.below hb
   clear H24 hb
   refine w_if H29 rfl (fun hc => ?c66) (fun hc => ?_)
   case c66 =>
    replace hm := bT hc hm
    refine s_reg [] [4] [(4, [], vB y6)] [] H29 (by kernel_rfl) trivial fun _ _ H31 hb => ?_
    replace hS := hS.below hb
    clear H29 hb
    apply w_ret
    obtain rfl := someE hm
    have hm := hm_z16
    obtain rfl := someE hm
    exact retR1 H31 rfl rfl ⟨_, rfl, rfl, (hS.sel [] rfl)⟩
   replace hm := bF hc hm
   apply w_skip
   obtain ⟨z32, hz, hm⟩ := bindE hm
   refine w_cut (fun a' w' => ∃ (g49 : Gh), Fr 106 (fS [1, 2, 5, 7, 6] [vI many, vP b1, vB y6, vI v22, vL g49 z32]) a' ∧ SH M X w [eO 51 tyValue z32 g49, Ent.row .i64 b1 [n_.e0, n_.e1, n_.e2, n_.e3] (4 : Int), gE0] w') ?_ ?_
   ·replace hm := hz
    refine s_reg [] [1, 2, 5, 6, 7, 43] (fS [1, 2, 5, 6, 7, 43] [vI many, vP b1, vB y6, vL g21 v20, vI v22, vB (decide (0 < v22))]) [] H29 (by kernel_rfl) trivial fun _ _ H34 hb => ?_
    replace hS := hS.below hb
    clear H29 hb
    refine w_if H34 rfl (fun hc => ?_) (fun hc => ?c48)
    case c48 =>
     replace hm := bF hc hm
     apply w_skip
     obtain rfl := someE hm
     exact ⟨g21, FrG.keep (ks := [1, 2, 5, 7, 6]) H34 (by kernel_rfl), hS⟩
    replace hm := bT hc hm
    apply wl_start
    refine wl_batch 0 3 [] [1, 2, 5, 7, 44, 46] (fS [1, 2, 5, 7, 44, 46] [vI many, vP b1, vB y6, vI v22, vL g21 v20, vG [vU 13, vN, vI 0, vN, vF, vO]]) [] H34 (by decide) (by kernel_rfl) trivial fun _ _ H36 hb => ?_
    replace hS := hS.below hb
    clear H34 hb
    have hd := hS.hand [] [0, 1, 2] rfl rfl
    refine m_stp [47, 1, 2, 5, 7, 44] (fS [1, 2, 5, 7, 44] [vI many, vP b1, vB y6, vI v22, vL g21 v20]) H36 rfl rfl rfl rfl (o_lit (T := tyValue) (E := 51) (zv := vG [vU 0, vN, vI 0, vN, vF, vO]) [vU 13, vN, vI 0, vN, vF, vO] ([(TValue.mk (TToken.mk 13 [] 0 [] false) [])] : List TValue) [gL [Gh.nil]] _ H36 hd rfl (by kernel_rfl) (by kernel_rfl) (by kernel_rfl) (by kernel_rfl) (by kernel_rfl) (by kernel_rfl) (by kernel_rfl) rfl (InnL.cons (tyValue_mk SlG.nil) InnL.nil)) (fun _ => rfl) fun _ _ v H40 hq => ?_
    clear H36 hd
    obtain ⟨g37, rfl, hq⟩ := hq
    replace hS : SH M X w [eO 51 tyValue ([(TValue.mk (TToken.mk 13 [] 0 [] false) [])] : List TValue) g37, eO 51 tyValue v20 g21, Ent.row .i64 b1 [n_.e0, n_.e1, n_.e2, n_.e3] (4 : Int), gE0] _ := hS.join [] [0, 1, 2] rfl rfl hq
    clear hq
    obtain ⟨ho41, hm⟩ := chkE hm
    obtain ⟨q42, hq42, hm⟩ := letE hm
    have hd := hS.hand [1, 0] [2, 3] rfl rfl
    refine m_stp [48, 1, 2, 5, 7] (fS [1, 2, 5, 7] [vI many, vP b1, vB y6, vI v22]) H40 rfl rfl rfl rfl (o_app2 (T := tyValue) (zv := vG [vU 0, vN, vI 0, vN, vF, vO]) (g1 := g21) (g2 := g37) (l1 := v20) (l2 := ([(TValue.mk (TToken.mk 13 [] 0 [] false) [])] : List TValue)) q42 hq42.symm H40 hd rfl rfl rfl rfl rfl rfl rfl (by kernel_rfl) (by kernel_rfl) rfl rfl ho41) (fun _ => rfl) fun _ _ v H44 hq => ?_
    clear H40 hd
    obtain ⟨g45, rfl, hq⟩ := hq
    replace hS : SH M X w [eO 51 tyValue q42 g45, eO 51 tyValue ([(TValue.mk (TToken.mk 13 [] 0 [] false) [])] : List TValue) g37, Ent.row .i64 b1 [n_.e0, n_.e1, n_.e2, n_.e3] (4 : Int), gE0] _ := hS.join [1, 0] [2, 3] rfl rfl hq
    clear hq
    refine wl_batch 5 6 [] [1, 2, 5, 6, 7] (fS [1, 2, 5, 6, 7] [vI many, vP b1, vB y6, vL g45 q42, vI v22]) [] H44 (by decide) (by kernel_rfl) trivial fun _ _ H47 hb => ?_
    replace hS := hS.below hb
    clear H44 hb
    apply wl_end rfl
    replace hS : SH M X w [eO 51 tyValue q42 g45, Ent.row .i64 b1 [n_.e0, n_.e1, n_.e2, n_.e3] (4 : Int), gE0] _ := hS.sel [0, 2, 3] rfl
    obtain rfl := someE hm
    exact ⟨g45, FrG.keep (ks := [1, 2, 5, 7, 6]) H47 (by kernel_rfl), hS⟩
   ·rintro _ _ ⟨g49, H, hS⟩
    apply wl_start
    refine wl_batch 0 6 [(vI (gi [n_.e0, n_.e1, n_.e2, n_.e3] v22))] [1, 2, 5, 7, 49, 54] (fS [1, 2, 5, 7, 49, 54] [vI many, vP b1, vB y6, vI v22, vL g49 z32, vG [vU 12, vN, vI (gi [n_.e0, n_.e1, n_.e2, n_.e3] v22), vS [112, 120], vF, vO]]) [fun _ => 0 ≤ v22 ∧ v22 < (4 : Int), fun wz => V.at1 ⟨b1, 0 + (v22).toNat * 1, none⟩ (vI (gi [n_.e0, n_.e1, n_.e2, n_.e3] v22)) wz] H (by decide) (by kernel_rfl) ⟨ho25, (Rw.ixn (hS.rw 1 rfl) ho25), trivial⟩ fun _ _ H51 hb => ?_
    replace hS := hS.below hb
    clear H hb
    have hd := hS.hand [] [0, 1, 2] rfl rfl
    refine m_stp [55, 1, 2, 5, 7, 49] (fS [1, 2, 5, 7, 49] [vI many, vP b1, vB y6, vI v22, vL g49 z32]) H51 rfl rfl rfl rfl (o_lit (T := tyValue) (E := 51) (zv := vG [vU 0, vN, vI 0, vN, vF, vO]) [vU 12, vN, vI (gi [n_.e0, n_.e1, n_.e2, n_.e3] v22), vS [112, 120], vF, vO] ([(TValue.mk (TToken.mk 12 [] (gi [n_.e0, n_.e1, n_.e2, n_.e3] v22) [112, 120] false) [])] : List TValue) [gL [Gh.nil]] _ H51 hd rfl (by kernel_rfl) (by kernel_rfl) (by kernel_rfl) (by kernel_rfl) (by kernel_rfl) (by kernel_rfl) (by kernel_rfl) rfl (InnL.cons (tyValue_mk SlG.nil) InnL.nil)) (fun _ => rfl) fun _ _ v H55 hq => ?_
    clear H51 hd
    obtain ⟨g52, rfl, hq⟩ := hq
    replace hS : SH M X w [eO 51 tyValue ([(TValue.mk (TToken.mk 12 [] (gi [n_.e0, n_.e1, n_.e2, n_.e3] v22) [112, 120] false) [])] : List TValue) g52, eO 51 tyValue z32 g49, Ent.row .i64 b1 [n_.e0, n_.e1, n_.e2, n_.e3] (4 : Int), gE0] _ := hS.join [] [0, 1, 2] rfl rfl hq
    clear hq
    obtain ⟨ho56, hm⟩ := chkE hm
    obtain ⟨q57, hq57, hm⟩ := letE hm
    have hd := hS.hand [1, 0] [2, 3] rfl rfl
    refine m_stp [56, 1, 2, 5, 7] (fS [1, 2, 5, 7] [vI many, vP b1, vB y6, vI v22]) H55 rfl rfl rfl rfl (o_app2 (T := tyValue) (zv := vG [vU 0, vN, vI 0, vN, vF, vO]) (g1 := g49) (g2 := g52) (l1 := z32) (l2 := ([(TValue.mk (TToken.mk 12 [] (gi [n_.e0, n_.e1, n_.e2, n_.e3] v22) [112, 120] false) [])] : List TValue)) q57 hq57.symm H55 hd rfl rfl rfl rfl rfl rfl rfl (by kernel_rfl) (by kernel_rfl) rfl rfl ho56) (fun _ => rfl) fun _ _ v H59 hq => ?_
    clear H55 hd
    obtain ⟨g60, rfl, hq⟩ := hq
    replace hS : SH M X w [eO 51 tyValue q57 g60, eO 51 tyValue ([(TValue.mk (TToken.mk 12 [] (gi [n_.e0, n_.e1, n_.e2, n_.e3] v22) [112, 120] false) [])] : List TValue) g52, Ent.row .i64 b1 [n_.e0, n_.e1, n_.e2, n_.e3] (4 : Int), gE0] _ := hS.join [1, 0] [2, 3] rfl rfl hq
    clear hq
    refine wl_batch 8 9 [] [1, 2, 5, 6, 7] (fS [1, 2, 5, 6, 7] [vI many, vP b1, vB y6, vL g60 q57, vI v22]) [] H59 (by decide) (by kernel_rfl) trivial fun _ _ H62 hb => ?_
    replace hS := hS.below hb
    clear H59 hb
    apply wl_end rfl
    replace hS : SH M X w [eO 51 tyValue q57 g60, Ent.row .i64 b1 [n_.e0, n_.e1, n_.e2, n_.e3] (4 : Int), gE0] _ := hS.sel [0, 2, 3] rfl
    refine w_reg [] [1, 2, 5, 6, 7] (fS [1, 2, 5, 6, 7] [vI many, vP b1, vB y6, vL g60 q57, vI (w64 (v22 + 1))]) [] H62 (by kernel_rfl) trivial fun _ _ H64 hb => ?_
    replace hS := hS.below hb
    clear H62 hb
    exact ⟨_, Nat.lt_succ_self _, q57, w64 (v22 + 1), g60, hm, FrG.keep (ks := [1, 2, 5, 6, 7]) H64 (by kernel_rfl), hS⟩
 ·rintro _ _ ⟨s_z16, hz, g69, H, hS⟩
  subst hz
  replace hm := sumR hm_z16
  apply w_seq
  apply wl_start
  refine wl_batch 0 2 [] [1, 2, 5, 59] (fS [1, 2, 5, 59] [vI many, vP b1, vB y6, vG [vS [109, 97, 114, 103, 105, 110], vL g69 s_z16, vF]]) [] H (by decide) (by kernel_rfl) trivial fun _ _ H72 hb => ?_
  replace hS := hS.below hb
  clear H hb
  replace hS : SH M X w [eI tyValue s_z16 g69, Ent.row .i64 b1 [n_.e0, n_.e1, n_.e2, n_.e3] (4 : Int), gE0] _ := SH.frz1 (hS.sel [0, 1, 2] rfl)
  obtain ⟨y73, hy73, hm⟩ := bindE hm
  have hd := hS.hand [0, 2] [0, 1, 2] rfl rfl
  refine m_stp [60, 1, 2, 5] (fS [1, 2, 5] [vI many, vP b1, vB y6]) H72 rfl rfl rfl rfl (o_callx H72 rfl rfl (short_Expand_ok (g_d__0 := g69) m _ _ hy73 _ _ hd)) (fun _ => rfl) fun _ _ v H77 hq => ?_
  clear H72 hd
  obtain ⟨g74, rfl, hq⟩ := hq
  replace hS : SH M X w [eO 44 tyLong y73.1 g74, eI tyValue s_z16 g69, Ent.row .i64 b1 [n_.e0, n_.e1, n_.e2, n_.e3] (4 : Int), gE0] _ := hS.join [0, 2] [0, 1, 2] rfl rfl hq
  clear hq
  refine wl_batch 3 8 [] [1, 2, 5, 8, 9] (fS [1, 2, 5, 8, 9] [vI many, vP b1, vB y6, vL g74 y73.1, vI y73.2]) [] H77 (by decide) (by kernel_rfl) trivial fun _ _ H79 hb => ?_
  replace hS := hS.below hb
  clear H77 hb
  apply wl_end rfl
  replace hS : SH M X w [eO 44 tyLong y73.1 g74, Ent.row .i64 b1 [n_.e0, n_.e1, n_.e2, n_.e3] (4 : Int), gE0] _ := hS.sel [0, 2, 3] rfl
  apply w_seq
  refine s_reg [] [1, 2, 5, 8, 69] (fS [1, 2, 5, 8, 69] [vI many, vP b1, vB y6, vL g74 y73.1, vB (cond (y73.2 != 0) true ((ln y73.1) != 4))]) [] H79 (by kernel_rfl) trivial fun _ _ H81 hb => ?_
  replace hS := hS.below hb
  clear H79 hb
  refine w_if H81 rfl (fun hc => ?c125) (fun hc => ?_)
  case c125 =>
   replace hm := bT hc hm
   refine s_reg [] [4] [(4, [], vF)] [] H81 (by kernel_rfl) trivial fun _ _ H83 hb => ?_
   replace hS := hS.below hb
   clear H81 hb
   replace hS : SH M X w [gE0] _ := hS.sel [2] rfl
   apply w_ret
   obtain rfl := someE hm
   exact retR1 H83 rfl rfl ⟨_, rfl, rfl, (hS.sel [] rfl)⟩
  replace hm := bF hc hm
  apply w_skip
  apply w_seq
  apply wl_start
  obtain ⟨ho84, hm⟩ := chkE hm
  obtain ⟨x85, hx85, hm⟩ := letE hm
  refine wl_batch 0 8 [] [2, 5, 8, 77] (fS [2, 5, 8, 77] [vP b1, vB y6, vL g74 y73.1, vG [vI (gi x85 (0 : Int)), vI (gi x85 (1 : Int)), vI (gi x85 (2 : Int)), vI (gi x85 (3 : Int))]]) [fun _ => 0 ≤ (w64 (many - 1)) ∧ (w64 (many - 1)) < (4 : Int)] H81 (by decide) (by subst hx85; kernel_rfl) ⟨ho84, trivial⟩ fun _ _ H87 hb => ?_
  replace hS := hS.below hb
  clear H81 hb
  have hd := hS.hand [] [0, 1, 2] rfl rfl
  refine m_stp [10, 2, 5, 8, 77] (fS [2, 5, 8, 77] [vP b1, vB y6, vL g74 y73.1, vG [vI (gi x85 (0 : Int)), vI (gi x85 (1 : Int)), vI (gi x85 (2 : Int)), vI (gi x85 (3 : Int))]]) H87 rfl rfl rfl rfl (o_alloc [vI 0, vI 0, vI 0, vI 0] (z := vG [vI 0, vI 0, vI 0, vI 0]) hd (by kernel_rfl) rfl) (fun _ => rfl) fun _ _ v H90 hq => ?_
  clear H87 hd
  obtain ⟨b88, rfl, hq⟩ := hq
  replace hS : SH M X w [eB b88 [vI 0, vI 0, vI 0, vI 0], eO 44 tyLong y73.1 g74, Ent.row .i64 b1 [n_.e0, n_.e1, n_.e2, n_.e3] (4 : Int), gE0] _ := hS.join [] [0, 1, 2] rfl rfl hq
  clear hq
  have hd := hS.hand [0] [1, 2, 3] rfl rfl
  refine m_stp0 [2, 5, 8, 10] (fS [2, 5, 8, 10] [vP b1, vB y6, vL g74 y73.1, vP b88]) H90 rfl rfl rfl (o_store [vI (gi x85 (0 : Int)), vI (gi x85 (1 : Int)), vI (gi x85 (2 : Int)), vI (gi x85 (3 : Int))] H90 hd rfl rfl (by kernel_rfl) rfl rfl rfl) rfl fun _ _ H92 hq => ?_
  clear H90 hd
  obtain ⟨_, hq⟩ := hq
  replace hS : SH M X w [eB b88 [vI (gi x85 (0 : Int)), vI (gi x85 (1 : Int)), vI (gi x85 (2 : Int)), vI (gi x85 (3 : Int))], eO 44 tyLong y73.1 g74, Ent.row .i64 b1 [n_.e0, n_.e1, n_.e2, n_.e3] (4 : Int), gE0] _ := hS.join [0] [1, 2, 3] rfl rfl hq
  clear hq
  apply wl_end rfl
  replace hS : SH M X w [Ent.row .i64 b88 [gi x85 (0 : Int), gi x85 (1 : Int), gi x85 (2 : Int), gi x85 (3 : Int)] (4 : Int), eO 44 tyLong y73.1 g74, Ent.row .i64 b1 [n_.e0, n_.e1, n_.e2, n_.e3] (4 : Int), gE0] _ := SH.toRow (q := [gi x85 (0 : Int), gi x85 (1 : Int), gi x85 (2 : Int), gi x85 (3 : Int)]) rfl (hS.sel [0, 1, 2, 3] rfl)
  obtain ⟨z93, hz, hm_z93⟩ := bindE hm
  refine w_cut (fun a' w' => ∃ s_z93 : Unit, z93 = Sum.inr s_z93 ∧ Fr 106 [(5, [], vB y6)] a' ∧ SH M X w [Ent.row .i64 b88 [gi x85 (0 : Int), gi x85 (1 : Int), gi x85 (2 : Int), gi x85 (3 : Int)] (4 : Int), eO 44 tyLong y73.1 g74, Ent.row .i64 b1 [n_.e0, n_.e1, n_.e2, n_.e3] (4 : Int), gE0] w') ?_ ?_
  ·replace hm := hz
   refine s_reg [] [2, 5, 8, 10, 11] (fS [2, 5, 8, 10, 11] [vP b1, vB y6, vL g74 y73.1, vP b88, vI 0]) [] H92 (by kernel_rfl) trivial fun _ _ H95 hb => ?_
   replace hS := hS.below hb
   clear H92 hb
   apply w_block
   refine w_loop (fun kk a' w' => ∃ (v96 : Int), law27_ShortMargins_L2 m n_ y73 x85 kk v96 = some _ ∧ Fr 106 (fS [2, 5, 8, 10, 11] [vP b1, vB y6, vL g74 y73.1, vP b88, vI v96]) a' ∧ SH M X w [Ent.row .i64 b88 [gi x85 (0 : Int), gi x85 (1 : Int), gi x85 (2 : Int), gi x85 (3 : Int)] (4 : Int), eO 44 tyLong y73.1 g74, Ent.row .i64 b1 [n_.e0, n_.e1, n_.e2, n_.e3] (4 : Int), gE0] w') ⟨_, 0, hm, FrG.keep (ks := [2, 5, 8, 10, 11]) H95 (by kernel_rfl), hS⟩ ?_
   clear hm H95 hS
   rintro kk _ _ ⟨v96, hm, H, hS⟩
   cases kk with
   | zero => exact noneE hm
   | succ kk =>
    rw [law27_ShortMargins_L2] at hm
    apply w_seq
    refine s_reg [] [2, 5, 8, 10, 11, 79] (fS [2, 5, 8, 10, 11, 79] [vP b1, vB y6, vL g74 y73.1, vP b88, vI v96, vB (decide (v96 < 4))]) [] H (by kernel_rfl) trivial fun _ _ H98 hb => ?_
    replace hS := hS.below hb
    clear H hb
    refine w_if H98 rfl (fun hc => ?_) (fun hc => ?c120)
    case c120 =>
     replace hm := bF hc hm
     apply w_exit rfl
     obtain rfl := someE hm
     exact ⟨_, rfl, FrG.keep (ks := [5]) H98 (by kernel_rfl), hS⟩
    replace hm := bT hc hm
    apply w_skip
    apply w_seq
    apply w_block
    apply w_seq
    apply wl_start
    obtain ⟨ho99, hm⟩ := chkE hm
    obtain ⟨y100, hy100, hm⟩ := bindE hm
    refine wl_batch 0 11 [(.slice (g74.s (v96).toNat 0).a (((gi y73.1 v96).Value).length) (g74.s (v96).toNat 0).c), (vW [vG (cV y100.1), vI y100.2])] [2, 5, 8, 10, 11, 91, 92] (fS [2, 5, 8, 10, 11, 91, 92] [vP b1, vB y6, vL g74 y73.1, vP b88, vI v96, vG (cV y100.1), vI y100.2]) [fun _ => oka g74.a ∧ 0 ≤ v96 ∧ v96 < ln y73.1, fun wz => V.at1 ⟨ab g74.a, ao g74.a + (v96).toNat * 3 + 1, none⟩ (.slice (g74.s (v96).toNat 0).a (((gi y73.1 v96).Value).length) (g74.s (v96).toNat 0).c) wz, rB 19 [vI (w64 (8 + v96)), .slice (g74.s (v96).toNat 0).a (((gi y73.1 v96).Value).length) (g74.s (v96).toNat 0).c] (vW [vG (cV y100.1), vI y100.2])] H98 (by decide) (by kernel_rfl) ⟨((hS.osl 1 rfl).oki ho99), ((hS.osl 1 rfl).at1 ho99 1 rfl), (parseval_Parse_ok (g_l_ := (g74.s (v96).toNat 0)) m _ _ _ hy100 _ (s0im (s0im s0nil (hS.im 3 rfl)) (tyLong_i0 ((hS.osl 1 rfl).el ho99)))), trivial⟩ fun _ _ H102 hb => ?_
    replace hS := hS.below hb
    clear H98 hb
    have hd := hS.hand [] [0, 1, 2, 3] rfl rfl
    refine m_stp [12, 2, 5, 8, 10, 11, 91, 92] (fS [2, 5, 8, 10, 11, 91, 92] [vP b1, vB y6, vL g74 y73.1, vP b88, vI v96, vG (cV y100.1), vI y100.2]) H102 rfl rfl rfl rfl (o_alloc [vU 0, vN, vI 0, vU 0, vU 0, vU 0, vU 0] (z := vG [vU 0, vN, vI 0, vU 0, vU 0, vU 0, vU 0]) hd (by kernel_rfl) rfl) (fun _ => rfl) fun _ _ v H105 hq => ?_
    clear H102 hd
    obtain ⟨b103, rfl, hq⟩ := hq
    replace hS : SH M X w [eB b103 [vU 0, vN, vI 0, vU 0, vU 0, vU 0, vU 0], Ent.row .i64 b88 [gi x85 (0 : Int), gi x85 (1 : Int), gi x85 (2 : Int), gi x85 (3 : Int)] (4 : Int), eO 44 tyLong y73.1 g74, Ent.row .i64 b1 [n_.e0, n_.e1, n_.e2, n_.e3] (4 : Int), gE0] _ := hS.join [] [0, 1, 2, 3] rfl rfl hq
    clear hq
    have hd := hS.hand [0] [1, 2, 3, 4] rfl rfl
    refine m_stp0 [2, 5, 8, 10, 11, 12, 92] (fS [2, 5, 8, 10, 11, 12, 92] [vP b1, vB y6, vL g74 y73.1, vP b88, vI v96, vP b103, vI y100.2]) H105 rfl rfl rfl (o_store (cV y100.1) H105 hd rfl rfl (by kernel_rfl) rfl rfl rfl) rfl fun _ _ H107 hq => ?_
    clear H105 hd
    obtain ⟨_, hq⟩ := hq
    replace hS : SH M X w [eB b103 (cV y100.1), Ent.row .i64 b88 [gi x85 (0 : Int), gi x85 (1 : Int), gi x85 (2 : Int), gi x85 (3 : Int)] (4 : Int), eO 44 tyLong y73.1 g74, Ent.row .i64 b1 [n_.e0, n_.e1, n_.e2, n_.e3] (4 : Int), gE0] _ := hS.join [0] [1, 2, 3, 4] rfl rfl hq
    clear hq
    refine wl_batch 13 14 [] [2, 5, 8, 10, 11, 12, 13] (fS [2, 5, 8, 10, 11, 12, 13] [vP b1, vB y6, vL g74 y73.1, vP b88, vI v96, vP b103, vI y100.2]) [] H107 (by decide) (by kernel_rfl) trivial fun _ _ H109 hb => ?_
    replace hS := hS.below hb
    clear H107 hb
    apply wl_end rfl
    obtain ⟨ho110, hm⟩ := chkE hm
    obtain ⟨ho111, hm⟩ := chkE hm
    obtain ⟨x112, hx112, hm⟩ := letE hm
    refine s_draw [(vG (cV y100.1)), (vI (gi [gi x85 (0 : Int), gi x85 (1 : Int), gi x85 (2 : Int), gi x85 (3 : Int)] v96)), (vI (gi [n_.e0, n_.e1, n_.e2, n_.e3] (gi [gi x85 (0 : Int), gi x85 (1 : Int), gi x85 (2 : Int), gi x85 (3 : Int)] v96)))] [2, 5, 8, 10, 11, 104] (fS [2, 5, 8, 10, 11, 104] [vP b1, vB y6, vL g74 y73.1, vP b88, vI v96, vB x112]) [fun wz => ((y100.2 != 0) = false ∧ True → V.atN b103 0 (cV y100.1) 0 wz), fun _ => ((y100.2 != 0) = false ∧ True → 0 ≤ v96 ∧ v96 < (4 : Int)), fun wz => ((y100.2 != 0) = false ∧ True → V.at1 ⟨b88, 0 + (v96).toNat * 1, none⟩ (vI (gi [gi x85 (0 : Int), gi x85 (1 : Int), gi x85 (2 : Int), gi x85 (3 : Int)] v96)) wz), fun _ => ((y100.2 != 0) = false ∧ True → 0 ≤ (gi [gi x85 (0 : Int), gi x85 (1 : Int), gi x85 (2 : Int), gi x85 (3 : Int)] v96) ∧ (gi [gi x85 (0 : Int), gi x85 (1 : Int), gi x85 (2 : Int), gi x85 (3 : Int)] v96) < (4 : Int)), fun wz => ((y100.2 != 0) = false ∧ True → V.at1 ⟨b1, 0 + ((gi [gi x85 (0 : Int), gi x85 (1 : Int), gi x85 (2 : Int), gi x85 (3 : Int)] v96)).toNat * 1, none⟩ (vI (gi [n_.e0, n_.e1, n_.e2, n_.e3] (gi [gi x85 (0 : Int), gi x85 (1 : Int), gi x85 (2 : Int), gi x85 (3 : Int)] v96))) wz)] H109 (by kernel_rfl) (by kernel_rfl) (by subst hx112; kernel_rfl) ⟨fun hg => (hS.bk 0 rfl).atD rfl, fun hg => (ho110 hg.1), fun hg => (Rw.ixn (hS.rw 1 rfl) (ho110 hg.1)), fun hg => (ho111 hg.1), fun hg => (Rw.ixn (hS.rw 3 rfl) (ho111 hg.1)), trivial⟩ fun _ _ H114 hb => ?_
    replace hS := hS.below hb
    clear H109 hb
    replace hS : SH M X w [Ent.row .i64 b88 [gi x85 (0 : Int), gi x85 (1 : Int), gi x85 (2 : Int), gi x85 (3 : Int)] (4 : Int), eO 44 tyLong y73.1 g74, Ent.row .i64 b1 [n_.e0, n_.e1, n_.e2, n_.e3] (4 : Int), gE0] _ := hS.sel [1, 2, 3, 4] rfl
    refine w_if H114 rfl (fun hc => ?_) (fun hc => ?c119)
    case c119 =>
     replace hm := bF hc hm
     apply w_skip
     refine w_reg [] [2, 5, 8, 10, 11] (fS [2, 5, 8, 10, 11] [vP b1, vB y6, vL g74 y73.1, vP b88, vI (w64 (v96 + 1))]) [] H114 (by kernel_rfl) trivial fun _ _ H118 hb => ?_
     replace hS := hS.below hb
     clear H114 hb
     exact ⟨_, Nat.lt_succ_self _, w64 (v96 + 1), hm, FrG.keep (ks := [2, 5, 8, 10, 11]) H118 (by kernel_rfl), hS⟩
    replace hm := bT hc hm
    refine s_reg [] [4] [(4, [], vF)] [] H114 (by kernel_rfl) trivial fun _ _ H116 hb => ?_
    replace hS := hS.below hb
    clear H114 hb
    apply w_ret
    obtain rfl := someE hm
    have hm := hm_z93
    obtain rfl := someE hm
    exact retR1 H116 rfl rfl ⟨_, rfl, rfl, (hS.sel [] rfl)⟩
  ·rintro _ _ ⟨s_z93, hz, H, hS⟩
   subst hz
   replace hm := sumR hm_z93
   replace hS : SH M X w [gE0] _ := hS.sel [3] rfl
   refine s_reg [] [4] [(4, [], vB y6)] [] H (by kernel_rfl) trivial fun _ _ H123 hb => ?_
   replace hS := hS.below hb
   clear H hb
   apply w_ret
   obtain rfl := someE hm
   exact retR1 H123 rfl rfl ⟨_, rfl, rfl, (hS.sel [] rfl)⟩
theorem law27_ShortMargins_ok  (m : Nat) (n_ : TA4_int64) (many : Int) (r : Bool) (hm : law27_ShortMargins m n_ many = some r) (w : World) (hL : S0 F0 [gE0] w ∧ fpl [gE0] = []) : RetB Tryz.prog 5 ⟨[vG [vI n_.e0, vI n_.e1, vI n_.e2, vI n_.e3], vI many]⟩ (vB r) w := retB_of hL (Tryz.call5 _) (fun w' h => law27_ShortMargins_w F0 m   n_ many r hm w' h)

end Go.Proofs.YtpgflfjmjppmeaaGreatDoor
