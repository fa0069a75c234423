/-
  What the Go functions compute, as Lean functions, and that a call returns just that. Printed by a program.
-/
import Derived.Test.YtpgflfjmjppmeaaGreatDoorRows
import Derived.Test.YtpgflfjmjppmeaaGreatDoorX
import Derived.Test.YtpgflfjmjppmeaaGreatDoorMP
import Derived.Test.YtpgflfjmjppmeaaGreatDoorCO
import Derived.Test.YtpgflfjmjppmeaaGreatDoorM
set_option linter.unusedVariables false
set_option maxRecDepth 20000
set_option maxHeartbeats 4000000
namespace Go.Proofs.YtpgflfjmjppmeaaGreatDoor
open Go.V Go.RowKit

abbrev vS (l : Str) : Value := .string ⟨⟨l⟩⟩
abbrev vN : Value := .string ⟨⟨[]⟩⟩
abbrev vI (n : Int) : Value := .int .i64 n
abbrev vU (n : Int) : Value := .int .u8 n
abbrev vT : Value := .bool true
abbrev vF : Value := .bool false
abbrev vP (b : Nat) : Value := .pointer (some ⟨b, 0, none⟩)
abbrev vA (b o : Nat) : Value := .pointer (some ⟨b, o, none⟩)
abbrev vQ : Value := .pointer none
abbrev vO : Value := .slice none 0 0
abbrev vB (b : Bool) : Value := .bool b
abbrev vG (l : List Value) : Value := .agg ⟨l⟩
abbrev vW (l : List Value) : Value := .tuple ⟨l⟩
abbrev vJ (n : Int) : Value := .int .i32 n
abbrev vL {α : Type} (g : Gh) (l : List α) : Value := .slice g.a l.length g.c
abbrev eO {α : Type} (E : TypeId) (T : Ty α) (l : List α) (g : Gh) : Ent := .own E T l g
abbrev eI {α : Type} (T : Ty α) (l : List α) (g : Gh) : Ent := .im T l g
abbrev eB (b : Nat) (cs : List Value) : Ent := .blk b cs
abbrev zN : List Value := [vN, vI 0, vN, vQ, vO]
def fS : List Nat → List Value → SF
  | k :: ks, v :: vs => (k, [], v) :: fS ks vs
  | _, _ => []
abbrev cV (x : TVal) : List Value := [vU x.Kind, vS x.Word, vI x.Num, vU x.Color.Red, vU x.Color.Green, vU x.Color.Blue, vU x.Color.Alpha]
abbrev cT (x : TToken) : List Value := [vU x.Kind, vS x.Text, vI x.Num, vS x.Unit, vB x.Flag]
abbrev cC (x : TColor) : List Value := [vU x.Red, vU x.Green, vU x.Blue, vU x.Alpha]
abbrev vK (g : Gh) (n : Nat) : Value := .slice g.a n g.c
abbrev kL0 : List Str := [[97, 117, 116, 111]]
abbrev kL1 : List Int := [2, 3, 4]
abbrev kL2 : List Str := [[98, 108, 111, 99, 107], [102, 108, 101, 120], [105, 110, 108, 105, 110, 101], [105, 110, 108, 105, 110, 101, 45, 98, 108, 111, 99, 107], [110, 111, 110, 101]]
abbrev kL3 : List Str := [[99, 111, 108, 108, 97, 112, 115, 101], [104, 105, 100, 100, 101, 110], [118, 105, 115, 105, 98, 108, 101]]
abbrev kL4 : List Str := [[110, 111, 114, 109, 97, 108]]
abbrev kL5 : List Str := [[99, 101, 110, 116, 101, 114], [106, 117, 115, 116, 105, 102, 121], [108, 101, 102, 116], [114, 105, 103, 104, 116]]
abbrev kL6 : List Str := [[116, 111, 112], [114, 105, 103, 104, 116], [98, 111, 116, 116, 111, 109], [108, 101, 102, 116]]
abbrev kL7 : List Str := [[112, 120], [101, 109], [114, 101, 109]]
abbrev kL8 : List Int := [2, 3, 4, 0]
abbrev kL9 : List Int := [0, 0, 1]
abbrev kL10 : List Int := [15, 15]
abbrev kL11 : List Str := [[109, 97, 114, 103, 105, 110], [98, 111, 114, 100, 101, 114], [111, 117, 116, 108, 105, 110, 101], [98, 97, 99, 107, 103, 114, 111, 117, 110, 100]]
abbrev kL12 : List Str := [[109, 97, 114, 103, 105, 110, 45, 116, 111, 112], [109, 97, 114, 103, 105, 110, 45, 114, 105, 103, 104, 116], [109, 97, 114, 103, 105, 110, 45, 98, 111, 116, 116, 111, 109], [109, 97, 114, 103, 105, 110, 45, 108, 101, 102, 116]]
abbrev kL13 : List Str := [[98, 108, 97, 99, 107], [119, 104, 105, 116, 101], [114, 101, 100], [108, 105, 109, 101], [98, 108, 117, 101], [121, 101, 108, 108, 111, 119], [103, 114, 97, 121], [116, 114, 97, 110, 115, 112, 97, 114, 101, 110, 116]]
abbrev rB (f : FuncId) (l : List Value) (v : Value) : World → Prop := fun wz => RetB Tryz.prog f ⟨l⟩ v wz
abbrev rN (b o : Nat) (l : List Value) : World → Prop := fun wz => V.atN b o l 0 wz
abbrev rA (b o : Nat) (v : Value) : World → Prop := fun wz => V.at1 ⟨b, o, none⟩ v wz
def tyToken : Ty TToken where
  z := 5
  enc := fun x g => (cT x)
  inn := fun _ _ _ _ => True
  len := fun _ _ => rfl
  one := fun _ _ => rfl
  kp := fun _ _ _ => trivial
  anti := fun _ _ => trivial
  fresh := fun _ => trivial
def enc_TValue (x : TValue) (g : Nat → Gh) : List Value := [vU x.Token.Kind, vS x.Token.Text, vI x.Token.Num, vS x.Token.Unit, vB x.Token.Flag, .slice (g 0).a x.List_.length (g 0).c]
inductive Inn_TValue (M : Av) (w : World) : TValue → (Nat → Gh) → Prop
  | mk (x : TValue) (g : Nat → Gh) (h0 : SlC 6 enc_TValue M w x.List_ (g 0)) (h1 : ∀ i (h : i < x.List_.length), Inn_TValue M w x.List_[i] ((g 0).s i)) : Inn_TValue M w x g
theorem Inn_TValue_kp {M : Av} {w w' : World} {X : List Nat} {x : TValue} {g : Nat → Gh} (h : Inn_TValue M w x g) (k : Kp X w w') (hX : ∀ b ∈ X, M b) : Inn_TValue M w' x g := by
  induction h with
  | mk x g h0 _h1 ih1 => exact .mk x g (h0.kp k hX) ih1
theorem Inn_TValue_anti {M M' : Av} {w : World} {x : TValue} {g : Nat → Gh} (h : Inn_TValue M w x g) (hM : ∀ b, M' b → M b) : Inn_TValue M' w x g := by
  induction h with
  | mk x g h0 _h1 ih1 => exact .mk x g (h0.anti hM) ih1
theorem Inn_TValue_fresh {M : Av} {w : World} {x : TValue} {g : Nat → Gh} (h : Inn_TValue M w x g) : Inn_TValue (fun b => M b ∨ w.heap.size ≤ b) w x g := by
  induction h with
  | mk x g h0 _h1 ih1 => exact .mk x g (h0.fresh) ih1
def tyValue : Ty TValue where
  z := 6
  enc := enc_TValue
  inn := Inn_TValue
  len := fun _ _ => rfl
  one := fun _ _ => rfl
  kp := fun h k hX => Inn_TValue_kp h k hX
  anti := fun h hM => Inn_TValue_anti h hM
  fresh := fun h => Inn_TValue_fresh h
theorem tyValue_i0 {M : Av} {w : World} {x : TValue} {g : Nat → Gh} (h : tyValue.inn M w x g) : SlG tyValue M w x.List_ (g 0) := by
  have h : Inn_TValue M w x g := h
  cases h with
  | mk _ _ h0 h1 => exact ⟨h0, h1⟩
theorem tyValue_mk {M : Av} {w : World} {x : TValue} {g : Nat → Gh} (k0 : SlG tyValue M w x.List_ (g 0)) : tyValue.inn M w x g := (Inn_TValue.mk x g k0.1 k0.2 : Inn_TValue M w x g)
def r04_Size_S (rec_ : (List TValue) → Int → Option (Int)) : Prop := ∀ (g_v_ : Gh) (M : Av) (v_ : List TValue) (most : Int) (r : Int), rec_ v_ most = some r → ∀ w, S0 M [eI tyValue v_ g_v_] w → Calls Tryz.prog 28 ⟨[vL g_v_ v_, vI most]⟩ w (fun e w' => ∃ v, e = .returned v ∧ v = vI r ∧ SH M (fpl [eI tyValue v_ g_v_]) w [] w')
theorem r04_Size_w (m : Nat) : ∀ (k : Nat), r04_Size_S (r04_Size_r m  k) := by
 intro k
 induction k with
 | zero => intro g_v_ M v_ most r hm; exact noneE hm
 | succ k ih =>
  intro g_v_ M v_ most r hm w hS
  rw [r04_Size_r] at hm
  have hS0 : SH M (fpl [eI tyValue v_ g_v_]) w [eI tyValue v_ g_v_] w := hS
  generalize hX : fpl [eI tyValue v_ g_v_] = X at hS0 ⊢
  clear hS hX
  have hS := hS0
  clear hS0
  refine calls_entryP Tryz.func28 rfl Tryz.ntmps28 rfl fun _ H => ?_
  refine s_reg [] [0, 1] (fS [0, 1] [vL g_v_ v_, vI most]) [] H (by kernel_rfl) trivial fun _ _ H2 hb => ?_
  replace hS := hS.below hb
  clear H hb
  refine s_reg [] [0, 1, 5] (fS [0, 1, 5] [vL g_v_ v_, vI most, vI 0]) [] H2 (by kernel_rfl) trivial fun _ _ H4 hb => ?_
  replace hS := hS.below hb
  clear H2 hb
  obtain ⟨z5, hz, hm⟩ := bindE hm
  refine w_cut (fun a' w' => Fr 47 [(5, [], vI z5)] a' ∧ SH M X w [eI tyValue v_ g_v_] w') ?_ ?_
  ·replace hm := hz
   refine s_reg [] [0, 1, 5, 6] (fS [0, 1, 5, 6] [vL g_v_ v_, vI most, vI 0, vI 0]) [] H4 (by kernel_rfl) trivial fun _ _ H7 hb => ?_
   replace hS := hS.below hb
   clear H4 hb
   apply w_block
   refine w_loop (fun kk a' w' => ∃ (v8 : Int) (v9 : Int), r04_Size_L1 m v_ most (r04_Size_r m k) kk v8 v9 = some _ ∧ Fr 47 (fS [0, 1, 5, 6] [vL g_v_ v_, vI most, vI v8, vI v9]) a' ∧ SH M X w [eI tyValue v_ g_v_] w') ⟨_, 0, 0, hm, FrG.keep (ks := [0, 1, 5, 6]) H7 (by kernel_rfl), hS⟩ ?_
   clear hm H7 hS
   rintro kk _ _ ⟨v8, v9, hm, H, hS⟩
   cases kk with
   | zero => exact noneE hm
   | succ kk =>
    rw [r04_Size_L1] at hm
    apply w_seq
    obtain ⟨x10, hx10, hm⟩ := letE hm
    refine s_reg [] [0, 1, 5, 6, 15] (fS [0, 1, 5, 6, 15] [vL g_v_ v_, vI most, vI v8, vI v9, vB x10]) [] H (by subst hx10; kernel_rfl) trivial fun _ _ H12 hb => ?_
    replace hS := hS.below hb
    clear H hb
    refine w_if H12 rfl (fun hc => ?_) (fun hc => ?c20)
    case c20 =>
     replace hm := bF hc hm
     apply w_exit rfl
     obtain rfl := someE hm
     exact ⟨FrG.keep (ks := [5]) H12 (by kernel_rfl), hS⟩
    replace hm := bT hc hm
    apply w_skip
    apply w_seq
    apply w_block
    obtain ⟨ho13, hm⟩ := chkE hm
    obtain ⟨x14, hx14, hm⟩ := letE hm
    obtain ⟨y15, hy15, hm⟩ := bindE hm
    refine w_draw [(vS (gi v_ v9).Token.Text), (vS (gi v_ v9).Token.Unit), (.slice (g_v_.s (v9).toNat 0).a (((gi v_ v9).List_).length) (g_v_.s (v9).toNat 0).c), (vI y15)] [0, 1, 5, 6] (fS [0, 1, 5, 6] [vL g_v_ v_, vI most, vI (w64 (v8 + (w64 (x14 + y15)))), vI v9]) [fun _ => oka g_v_.a ∧ 0 ≤ v9 ∧ v9 < ln v_, fun wz => V.at1 ⟨ab g_v_.a, ao g_v_.a + (v9).toNat * 6 + 1, none⟩ (vS (gi v_ v9).Token.Text) wz, fun _ => oka g_v_.a ∧ 0 ≤ v9 ∧ v9 < ln v_, fun wz => V.at1 ⟨ab g_v_.a, ao g_v_.a + (v9).toNat * 6 + 3, none⟩ (vS (gi v_ v9).Token.Unit) wz, fun _ => oka g_v_.a ∧ 0 ≤ v9 ∧ v9 < ln v_, fun wz => V.at1 ⟨ab g_v_.a, ao g_v_.a + (v9).toNat * 6 + 5, none⟩ (.slice (g_v_.s (v9).toNat 0).a (((gi v_ v9).List_).length) (g_v_.s (v9).toNat 0).c) wz, rB 28 [.slice (g_v_.s (v9).toNat 0).a (((gi v_ v9).List_).length) (g_v_.s (v9).toNat 0).c, vI (w64 (most - v8))] (vI y15)] H12 (by kernel_rfl) (by kernel_rfl) (by subst hx14; kernel_rfl) ⟨((hS.im 0 rfl).oki ho13), ((hS.im 0 rfl).at1 ho13 1 rfl), ((hS.im 0 rfl).oki ho13), ((hS.im 0 rfl).at1 ho13 3 rfl), ((hS.im 0 rfl).oki ho13), ((hS.im 0 rfl).at1 ho13 5 rfl), (retB_of (s0im s0nil (tyValue_i0 ((hS.im 0 rfl).el ho13))) (Tryz.call28 _) (fun w' h' => ih ((g_v_.s (v9).toNat 0)) F0 _ _ _ hy15 w' h')), trivial⟩ fun _ _ H17 hb => ?_
    replace hS := hS.below hb
    clear H12 hb
    refine w_reg [] [0, 1, 5, 6] (fS [0, 1, 5, 6] [vL g_v_ v_, vI most, vI (w64 (v8 + (w64 (x14 + y15)))), vI (w64 (v9 + 1))]) [] H17 (by kernel_rfl) trivial fun _ _ H19 hb => ?_
    replace hS := hS.below hb
    clear H17 hb
    exact ⟨_, Nat.lt_succ_self _, w64 (v8 + (w64 (x14 + y15))), w64 (v9 + 1), hm, FrG.keep (ks := [0, 1, 5, 6]) H19 (by kernel_rfl), hS⟩
  ·rintro _ _ ⟨H, hS⟩
   replace hS : SH M X w [] _ := hS.sel [] rfl
   refine s_reg [] [4] [(4, [], vI z5)] [] H (by kernel_rfl) trivial fun _ _ H23 hb => ?_
   replace hS := hS.below hb
   clear H hb
   apply w_ret
   obtain rfl := someE hm
   exact retR1 H23 rfl rfl ⟨_, rfl, rfl, (hS.sel [] rfl)⟩
theorem r04_Size_ok {g_v_ : Gh} (m : Nat) (v_ : List TValue) (most : Int) (r : Int) (hm : r04_Size m v_ most = some r) (w : World) (hL : S0 F0 [eI tyValue v_ g_v_] w ∧ fpl [eI tyValue v_ g_v_] = []) : RetB Tryz.prog 28 ⟨[vL g_v_ v_, vI most]⟩ (vI r) w := retB_of hL (Tryz.call28 _) (fun w' h => r04_Size_w m   m g_v_ F0 v_ most r hm w' h)

theorem r04_Closer_w  (M : Av) (kind : Int) (r : Int) (hm : r04_Closer kind = r) (w : World) (hS : S0 M [] w) : Calls Tryz.prog 56 ⟨[vU kind]⟩ w (fun e w' => ∃ v, e = .returned v ∧ v = vU r ∧ SH M (fpl []) w [] w') := by
 rw [r04_Closer] at hm
 have hS0 : SH M (fpl []) w [] w := hS
 generalize hX : fpl [] = X at hS0 ⊢
 clear hS hX
 have hS := hS0
 clear hS0
 refine calls_entryP Tryz.func56 rfl Tryz.ntmps56 rfl fun _ H => ?_
 refine s_reg [] [0] [(0, [], vU kind)] [] H (by kernel_rfl) trivial fun _ _ H2 hb => ?_
 replace hS := hS.below hb
 clear H hb
 apply w_seq
 refine s_reg [] [3] [(3, [], vU kind)] [] H2 (by kernel_rfl) trivial fun _ _ H4 hb => ?_
 replace hS := hS.below hb
 clear H2 hb
 apply w_block
 refine s_reg [] [3, 4] (fS [3, 4] [vU kind, vB (kind == 19)]) [] H4 (by kernel_rfl) trivial fun _ _ H6 hb => ?_
 replace hS := hS.below hb
 clear H4 hb
 refine w_if H6 rfl (fun hc => ?c26) (fun hc => ?_)
 case c26 =>
  replace hm := bT hc hm
  refine s_reg [] [2] [(2, [], vU 20)] [] H6 (by kernel_rfl) trivial fun _ _ H8 hb => ?_
  replace hS := hS.below hb
  clear H6 hb
  apply w_ret
  subst hm
  exact retR1 H8 rfl rfl ⟨_, rfl, rfl, (hS.sel [] rfl)⟩
 replace hm := bF hc hm
 obtain ⟨z9, hz, hm⟩ := letE hm
 refine w_cut (fun a' w' => Fr 11 (fS [3, 6] [vU kind, vB z9]) a' ∧ SH M X w [] w') ?_ ?_
 ·replace hm := hz.symm
  refine s_reg [] [3, 6] (fS [3, 6] [vU kind, vB (kind == 21)]) [] H6 (by kernel_rfl) trivial fun _ _ H11 hb => ?_
  replace hS := hS.below hb
  clear H6 hb
  refine w_if H11 rfl (fun hc => ?c14) (fun hc => ?_)
  case c14 =>
   replace hm := bT hc hm
   apply w_skip
   subst hm
   exact ⟨FrG.keep (ks := [3, 6]) H11 (by kernel_rfl), hS⟩
  replace hm := bF hc hm
  refine w_reg [] [3, 6] (fS [3, 6] [vU kind, vB (kind == 2)]) [] H11 (by kernel_rfl) trivial fun _ _ H13 hb => ?_
  replace hS := hS.below hb
  clear H11 hb
  subst hm
  exact ⟨FrG.keep (ks := [3, 6]) H13 (by kernel_rfl), hS⟩
 ·rintro _ _ ⟨H, hS⟩
  refine w_if H rfl (fun hc => ?c24) (fun hc => ?_)
  case c24 =>
   replace hm := bT hc hm
   refine s_reg [] [2] [(2, [], vU 22)] [] H (by kernel_rfl) trivial fun _ _ H16 hb => ?_
   replace hS := hS.below hb
   clear H hb
   apply w_ret
   subst hm
   exact retR1 H16 rfl rfl ⟨_, rfl, rfl, (hS.sel [] rfl)⟩
  replace hm := bF hc hm
  refine s_reg [] [9] [(9, [], vB (kind == 23))] [] H (by kernel_rfl) trivial fun _ _ H18 hb => ?_
  replace hS := hS.below hb
  clear H hb
  refine w_if H18 rfl (fun hc => ?c23) (fun hc => ?_)
  case c23 =>
   replace hm := bT hc hm
   refine s_reg [] [2] [(2, [], vU 24)] [] H18 (by kernel_rfl) trivial fun _ _ H20 hb => ?_
   replace hS := hS.below hb
   clear H18 hb
   apply w_ret
   subst hm
   exact retR1 H20 rfl rfl ⟨_, rfl, rfl, (hS.sel [] rfl)⟩
  replace hm := bF hc hm
  apply w_skip
  refine s_reg [] [2] [(2, [], vU 0)] [] H18 (by kernel_rfl) trivial fun _ _ H22 hb => ?_
  replace hS := hS.below hb
  clear H18 hb
  apply w_ret
  subst hm
  exact retR1 H22 rfl rfl ⟨_, rfl, rfl, (hS.sel [] rfl)⟩
theorem r04_Closer_ok  (kind : Int) : Ret Tryz.prog 56 ⟨[vU kind]⟩ (vU (r04_Closer kind)) := retP_of (Tryz.call56 _) (fun w h => r04_Closer_w F0   kind _ rfl w h)

def r04_Deep_S (rec_ : (List TValue) → Option (Int)) : Prop := ∀ (g_v_ : Gh) (M : Av) (v_ : List TValue) (r : Int), rec_ v_ = some r → ∀ w, S0 M [eI tyValue v_ g_v_] w → Calls Tryz.prog 29 ⟨[vL g_v_ v_]⟩ w (fun e w' => ∃ v, e = .returned v ∧ v = vI r ∧ SH M (fpl [eI tyValue v_ g_v_]) w [] w')
theorem r04_Deep_w (m : Nat) : ∀ (k : Nat), r04_Deep_S (r04_Deep_r m  k) := by
 intro k
 induction k with
 | zero => intro g_v_ M v_ r hm; exact noneE hm
 | succ k ih =>
  intro g_v_ M v_ r hm w hS
  rw [r04_Deep_r] at hm
  have hS0 : SH M (fpl [eI tyValue v_ g_v_]) w [eI tyValue v_ g_v_] w := hS
  generalize hX : fpl [eI tyValue v_ g_v_] = X at hS0 ⊢
  clear hS hX
  have hS := hS0
  clear hS0
  refine calls_entryP Tryz.func29 rfl Tryz.ntmps29 rfl fun _ H => ?_
  refine s_reg [] [0] [(0, [], vL g_v_ v_)] [] H (by kernel_rfl) trivial fun _ _ H2 hb => ?_
  replace hS := hS.below hb
  clear H hb
  refine s_reg [] [0, 3] (fS [0, 3] [vL g_v_ v_, vI 0]) [] H2 (by kernel_rfl) trivial fun _ _ H4 hb => ?_
  replace hS := hS.below hb
  clear H2 hb
  obtain ⟨z5, hz, hm⟩ := bindE hm
  refine w_cut (fun a' w' => Fr 29 [(3, [], vI z5)] a' ∧ SH M X w [eI tyValue v_ g_v_] w') ?_ ?_
  ·replace hm := hz
   refine s_reg [] [0, 3, 4] (fS [0, 3, 4] [vL g_v_ v_, vI 0, vI 0]) [] H4 (by kernel_rfl) trivial fun _ _ H7 hb => ?_
   replace hS := hS.below hb
   clear H4 hb
   apply w_block
   refine w_loop (fun kk a' w' => ∃ (v8 : Int) (v9 : Int), r04_Deep_L1 m v_ (r04_Deep_r m k) kk v8 v9 = some _ ∧ Fr 29 (fS [0, 3, 4] [vL g_v_ v_, vI v8, vI v9]) a' ∧ SH M X w [eI tyValue v_ g_v_] w') ⟨_, 0, 0, hm, FrG.keep (ks := [0, 3, 4]) H7 (by kernel_rfl), hS⟩ ?_
   clear hm H7 hS
   rintro kk _ _ ⟨v8, v9, hm, H, hS⟩
   cases kk with
   | zero => exact noneE hm
   | succ kk =>
    rw [r04_Deep_L1] at hm
    apply w_seq
    refine s_reg [] [0, 3, 4, 8] (fS [0, 3, 4, 8] [vL g_v_ v_, vI v8, vI v9, vB (decide (v9 < (ln v_)))]) [] H (by kernel_rfl) trivial fun _ _ H11 hb => ?_
    replace hS := hS.below hb
    clear H hb
    refine w_if H11 rfl (fun hc => ?_) (fun hc => ?c25)
    case c25 =>
     replace hm := bF hc hm
     apply w_exit rfl
     obtain rfl := someE hm
     exact ⟨FrG.keep (ks := [3]) H11 (by kernel_rfl), hS⟩
    replace hm := bT hc hm
    apply w_skip
    obtain ⟨z12, hz, hm⟩ := bindE hm
    refine w_cut (fun a' w' => Fr 29 (fS [0, 4, 3] [vL g_v_ v_, vI v9, vI z12]) a' ∧ SH M X w [eI tyValue v_ g_v_] w') ?_ ?_
    ·replace hm := hz
     apply w_block
     obtain ⟨ho13, hm⟩ := chkE hm
     obtain ⟨x14, hx14, hm⟩ := letE hm
     refine s_reg [(vU ((gi v_ v9).Token.Kind)), (vU (r04_Closer ((gi v_ v9).Token.Kind)))] [0, 3, 4, 18] (fS [0, 3, 4, 18] [vL g_v_ v_, vI v8, vI v9, vB x14]) [fun _ => oka g_v_.a ∧ 0 ≤ v9 ∧ v9 < ln v_, fun wz => V.at1 ⟨ab g_v_.a, ao g_v_.a + (v9).toNat * 6, none⟩ (vU ((gi v_ v9).Token.Kind)) wz, rB 56 [vU ((gi v_ v9).Token.Kind)] (vU (r04_Closer ((gi v_ v9).Token.Kind)))] H11 (by subst hx14; kernel_rfl) ⟨((hS.im 0 rfl).oki ho13), ((hS.im 0 rfl).at1 ho13 0 rfl), ((r04_Closer_ok _).b), trivial⟩ fun _ _ H16 hb => ?_
     replace hS := hS.below hb
     clear H11 hb
     refine w_if H16 rfl (fun hc => ?_) (fun hc => ?c21)
     case c21 =>
      replace hm := bF hc hm
      apply w_skip
      obtain rfl := someE hm
      exact ⟨FrG.keep (ks := [0, 4, 3]) H16 (by kernel_rfl), hS⟩
     replace hm := bT hc hm
     obtain ⟨y17, hy17, hm⟩ := bindE hm
     obtain ⟨x18, hx18, hm⟩ := letE hm
     refine w_reg [(.slice (g_v_.s (v9).toNat 0).a (((gi v_ v9).List_).length) (g_v_.s (v9).toNat 0).c), (vI y17)] [0, 3, 4] (fS [0, 3, 4] [vL g_v_ v_, vI x18, vI v9]) [fun _ => oka g_v_.a ∧ 0 ≤ v9 ∧ v9 < ln v_, fun wz => V.at1 ⟨ab g_v_.a, ao g_v_.a + (v9).toNat * 6 + 5, none⟩ (.slice (g_v_.s (v9).toNat 0).a (((gi v_ v9).List_).length) (g_v_.s (v9).toNat 0).c) wz, rB 29 [.slice (g_v_.s (v9).toNat 0).a (((gi v_ v9).List_).length) (g_v_.s (v9).toNat 0).c] (vI y17)] H16 (by subst hx18; kernel_rfl) ⟨((hS.im 0 rfl).oki ho13), ((hS.im 0 rfl).at1 ho13 5 rfl), (retB_of (s0im s0nil (tyValue_i0 ((hS.im 0 rfl).el ho13))) (Tryz.call29 _) (fun w' h' => ih ((g_v_.s (v9).toNat 0)) F0 _ _ hy17 w' h')), trivial⟩ fun _ _ H20 hb => ?_
     replace hS := hS.below hb
     clear H16 hb
     obtain rfl := someE hm
     exact ⟨FrG.keep (ks := [0, 4, 3]) H20 (by kernel_rfl), hS⟩
    ·rintro _ _ ⟨H, hS⟩
     refine w_reg [] [0, 3, 4] (fS [0, 3, 4] [vL g_v_ v_, vI z12, vI (w64 (v9 + 1))]) [] H (by kernel_rfl) trivial fun _ _ H23 hb => ?_
     replace hS := hS.below hb
     clear H hb
     exact ⟨_, Nat.lt_succ_self _, z12, w64 (v9 + 1), hm, FrG.keep (ks := [0, 3, 4]) H23 (by kernel_rfl), hS⟩
  ·rintro _ _ ⟨H, hS⟩
   replace hS : SH M X w [] _ := hS.sel [] rfl
   refine s_reg [] [2] [(2, [], vI z5)] [] H (by kernel_rfl) trivial fun _ _ H28 hb => ?_
   replace hS := hS.below hb
   clear H hb
   apply w_ret
   obtain rfl := someE hm
   exact retR1 H28 rfl rfl ⟨_, rfl, rfl, (hS.sel [] rfl)⟩
theorem r04_Deep_ok {g_v_ : Gh} (m : Nat) (v_ : List TValue) (r : Int) (hm : r04_Deep m v_ = some r) (w : World) (hL : S0 F0 [eI tyValue v_ g_v_] w ∧ fpl [eI tyValue v_ g_v_] = []) : RetB Tryz.prog 29 ⟨[vL g_v_ v_]⟩ (vI r) w := retB_of hL (Tryz.call29 _) (fun w' h => r04_Deep_w m   m g_v_ F0 v_ r hm w' h)

theorem r04_Great_w {g_v_ : Gh} (M : Av) (m : Nat) (v_ : List TValue) (r : Bool) (hm : r04_Great m v_ = some r) (w : World) (hS : S0 M [eI tyValue v_ g_v_] w) : Calls Tryz.prog 8 ⟨[vL g_v_ v_]⟩ w (fun e w' => ∃ v, e = .returned v ∧ v = vB r ∧ SH M (fpl [eI tyValue v_ g_v_]) w [] w') := by
 rw [r04_Great] at hm
 have hS0 : SH M (fpl [eI tyValue v_ g_v_]) w [eI tyValue v_ g_v_] w := hS
 generalize hX : fpl [eI tyValue v_ g_v_] = X at hS0 ⊢
 clear hS hX
 have hS := hS0
 clear hS0
 refine calls_entryP Tryz.func8 rfl Tryz.ntmps8 rfl fun _ H => ?_
 refine s_reg [] [0] [(0, [], vL g_v_ v_)] [] H (by kernel_rfl) trivial fun _ _ H2 hb => ?_
 replace hS := hS.below hb
 clear H hb
 obtain ⟨y3, hy3, hm⟩ := bindE hm
 obtain ⟨y4, hy4, hm⟩ := bindE hm
 obtain ⟨x5, hx5, hm⟩ := letE hm
 refine s_reg [(vI y3), (vI y4)] [2] [(2, [], vB x5)] [rB 28 [vL g_v_ v_, vI 300] (vI y3), fun wz => ((decide (300 < y3)) = false ∧ True → RetB Tryz.prog 29 ⟨[vL g_v_ v_]⟩ (vI y4) wz)] H2 (by subst hx5; kernel_rfl) ⟨(r04_Size_ok (g_v_ := g_v_) m _ _ _ hy3 _ (s0im s0nil (hS.im 0 rfl))), fun hg => r04_Deep_ok (g_v_ := g_v_) m _ _ (bF (hg.1) hy4) _ (s0im s0nil (hS.im 0 rfl)), trivial⟩ fun _ _ H7 hb => ?_
 replace hS := hS.below hb
 clear H2 hb
 replace hS : SH M X w [] _ := hS.sel [] rfl
 apply w_ret
 obtain rfl := someE hm
 exact retR1 H7 rfl rfl ⟨_, rfl, rfl, (hS.sel [] rfl)⟩
theorem r04_Great_ok {g_v_ : Gh} (m : Nat) (v_ : List TValue) (r : Bool) (hm : r04_Great m v_ = some r) (w : World) (hL : S0 F0 [eI tyValue v_ g_v_] w ∧ fpl [eI tyValue v_ g_v_] = []) : RetB Tryz.prog 8 ⟨[vL g_v_ v_]⟩ (vB r) w := retB_of hL (Tryz.call8 _) (fun w' h => r04_Great_w F0 m   v_ r hm w' h)

theorem short_Names_w  (M : Av)  (r : List Str) (hm : short_Names = r) (w : World) (hS : S0 M [] w) : Calls Tryz.prog 20 ⟨[]⟩ w (fun e w' => ∃ v, e = .returned v ∧ ∃ (g901 : Gh), v = vL g901 r ∧ SH M (fpl []) w [eO 9 tS r g901] w') := by
 rw [short_Names] at hm
 have hS0 : SH M (fpl []) w [] w := hS
 generalize hX : fpl [] = X at hS0 ⊢
 clear hS hX
 have hS := hS0
 clear hS0
 refine calls_entryP Tryz.func20 rfl Tryz.ntmps20 rfl fun _ H => ?_
 refine s_reg [] [] [] [] H (by kernel_rfl) trivial fun _ _ H2 hb => ?_
 replace hS := hS.below hb
 clear H hb
 apply w_seq
 apply wl_start
 have hd := hS.hand [] [] rfl rfl
 refine m_stp [1] [] H2 rfl rfl rfl rfl (o_lit (T := tS) (E := 9) (zv := vN) [vS [109, 97, 114, 103, 105, 110], vS [98, 111, 114, 100, 101, 114], vS [111, 117, 116, 108, 105, 110, 101], vS [98, 97, 99, 107, 103, 114, 111, 117, 110, 100]] kL11 [gL [], gL [], gL [], gL []] _ H2 hd rfl (by kernel_rfl) (by kernel_rfl) (by kernel_rfl) (by kernel_rfl) (by kernel_rfl) (by kernel_rfl) (by kernel_rfl) rfl (InnL.cons trivial (InnL.cons trivial (InnL.cons trivial (InnL.cons trivial InnL.nil))))) (fun _ => rfl) fun _ _ v H6 hq => ?_
 clear H2 hd
 obtain ⟨g3, rfl, hq⟩ := hq
 replace hS : SH M X w [eO 9 tS kL11 g3] _ := hS.join [] [] rfl rfl hq
 clear hq
 refine wl_batch 1 2 [] [0] [(0, [], vK g3 4)] [] H6 (by decide) (by kernel_rfl) trivial fun _ _ H8 hb => ?_
 replace hS := hS.below hb
 clear H6 hb
 apply wl_end rfl
 apply w_ret
 subst hm
 exact retR1 H8 rfl rfl ⟨_, rfl, g3, rfl, (hS.sel [0] rfl)⟩
theorem short_Names_ok   (r : List Str) (hm : short_Names = r) (M : Av) (w : World) (hS : S0 M [] w) : DoesX Tryz.prog 20 ⟨[]⟩ w (fun v w' => ∃ (g901 : Gh), v = vL g901 r ∧ SH M (fpl []) w [eO 9 tS r g901] w') := ⟨Tryz.call20 _, short_Names_w M    r hm w hS⟩

theorem slices_Index_string_string_w {g_s : Gh} (M : Av) (m : Nat) (s : List Str) (v_ : Str) (r : Int) (hm : slices_Index_string_string m s v_ = some r) (w : World) (hS : S0 M [eI tS s g_s] w) : Calls Tryz.prog 35 ⟨[vL g_s s, vS v_]⟩ w (fun e w' => ∃ v, e = .returned v ∧ v = vI r ∧ SH M (fpl [eI tS s g_s]) w [] w') := by
 rw [slices_Index_string_string] at hm
 have hS0 : SH M (fpl [eI tS s g_s]) w [eI tS s g_s] w := hS
 generalize hX : fpl [eI tS s g_s] = X at hS0 ⊢
 clear hS hX
 have hS := hS0
 clear hS0
 refine calls_entryP Tryz.func35 rfl Tryz.ntmps35 rfl fun _ H => ?_
 refine s_reg [] [0, 1] (fS [0, 1] [vL g_s s, vS v_]) [] H (by kernel_rfl) trivial fun _ _ H2 hb => ?_
 replace hS := hS.below hb
 clear H hb
 obtain ⟨z3, hz, hm_z3⟩ := bindE hm
 refine w_cut (fun a' w' => ∃ s_z3 : Unit, z3 = Sum.inr s_z3 ∧ Fr 19 [] a' ∧ SH M X w [eI tS s g_s] w') ?_ ?_
 ·replace hm := hz
  refine s_reg [] [0, 1, 7, 8] (fS [0, 1, 7, 8] [vL g_s s, vS v_, vI (ln s), vI 0]) [] H2 (by kernel_rfl) trivial fun _ _ H5 hb => ?_
  replace hS := hS.below hb
  clear H2 hb
  apply w_block
  refine w_loop (fun kk a' w' => ∃ (v6 : Int), slices_Index_string_string_L1 m s v_ kk v6 = some _ ∧ Fr 19 (fS [0, 1, 7, 8] [vL g_s s, vS v_, vI (ln s), vI v6]) a' ∧ SH M X w [eI tS s g_s] w') ⟨_, 0, hm, FrG.keep (ks := [0, 1, 7, 8]) H5 (by kernel_rfl), hS⟩ ?_
  clear hm H5 hS
  rintro kk _ _ ⟨v6, hm, H, hS⟩
  cases kk with
  | zero => exact noneE hm
  | succ kk =>
   rw [slices_Index_string_string_L1] at hm
   refine s_reg [] [0, 1, 7, 8, 9] (fS [0, 1, 7, 8, 9] [vL g_s s, vS v_, vI (ln s), vI v6, vB (decide (v6 < (ln s)))]) [] H (by kernel_rfl) trivial fun _ _ H8 hb => ?_
   replace hS := hS.below hb
   clear H hb
   apply w_seq
   refine w_if H8 rfl (fun hc => ?_) (fun hc => ?c19)
   case c19 =>
    replace hm := bF hc hm
    apply w_exit rfl
    obtain rfl := someE hm
    exact ⟨_, rfl, FrG.keep (ks := []) H8 (by kernel_rfl), hS⟩
   replace hm := bT hc hm
   apply w_skip
   apply w_seq
   apply w_block
   refine s_reg [] [0, 1, 5, 7, 8] (fS [0, 1, 5, 7, 8] [vL g_s s, vS v_, vI v6, vI (ln s), vI v6]) [] H8 (by kernel_rfl) trivial fun _ _ H10 hb => ?_
   replace hS := hS.below hb
   clear H8 hb
   obtain ⟨ho11, hm⟩ := chkE hm
   refine s_reg [(vS (gi s v6))] [0, 1, 5, 7, 8, 16] (fS [0, 1, 5, 7, 8, 16] [vL g_s s, vS v_, vI v6, vI (ln s), vI v6, vB (v_ == (gi s v6))]) [fun _ => oka g_s.a ∧ 0 ≤ v6 ∧ v6 < ln s, fun wz => V.at1 ⟨ab g_s.a, ao g_s.a + (v6).toNat * 1, none⟩ (vS (gi s v6)) wz] H10 (by kernel_rfl) ⟨((hS.im 0 rfl).oki ho11), ((hS.im 0 rfl).at1 ho11 0 rfl), trivial⟩ fun _ _ H13 hb => ?_
   replace hS := hS.below hb
   clear H10 hb
   refine w_if H13 rfl (fun hc => ?_) (fun hc => ?c18)
   case c18 =>
    replace hm := bF hc hm
    apply w_skip
    refine w_reg [] [0, 1, 7, 8] (fS [0, 1, 7, 8] [vL g_s s, vS v_, vI (ln s), vI (w64 (v6 + 1))]) [] H13 (by kernel_rfl) trivial fun _ _ H17 hb => ?_
    replace hS := hS.below hb
    clear H13 hb
    exact ⟨_, Nat.lt_succ_self _, w64 (v6 + 1), hm, FrG.keep (ks := [0, 1, 7, 8]) H17 (by kernel_rfl), hS⟩
   replace hm := bT hc hm
   refine s_reg [] [4] [(4, [], vI v6)] [] H13 (by kernel_rfl) trivial fun _ _ H15 hb => ?_
   replace hS := hS.below hb
   clear H13 hb
   apply w_ret
   obtain rfl := someE hm
   have hm := hm_z3
   obtain rfl := someE hm
   exact retR1 H15 rfl rfl ⟨_, rfl, rfl, (hS.sel [] rfl)⟩
 ·rintro _ _ ⟨s_z3, hz, H, hS⟩
  subst hz
  replace hm := sumR hm_z3
  replace hS : SH M X w [] _ := hS.sel [] rfl
  refine s_reg [] [4] [(4, [], vI (-1))] [] H (by kernel_rfl) trivial fun _ _ H22 hb => ?_
  replace hS := hS.below hb
  clear H hb
  apply w_ret
  obtain rfl := someE hm
  exact retR1 H22 rfl rfl ⟨_, rfl, rfl, (hS.sel [] rfl)⟩
theorem slices_Index_string_string_ok {g_s : Gh} (m : Nat) (s : List Str) (v_ : Str) (r : Int) (hm : slices_Index_string_string m s v_ = some r) (w : World) (hL : S0 F0 [eI tS s g_s] w ∧ fpl [eI tS s g_s] = []) : RetB Tryz.prog 35 ⟨[vL g_s s, vS v_]⟩ (vI r) w := retB_of hL (Tryz.call35 _) (fun w' h => slices_Index_string_string_w F0 m   s v_ r hm w' h)

theorem slices_Contains_string_string_w {g_s : Gh} (M : Av) (m : Nat) (s : List Str) (v_ : Str) (r : Bool) (hm : slices_Contains_string_string m s v_ = some r) (w : World) (hS : S0 M [eI tS s g_s] w) : Calls Tryz.prog 51 ⟨[vL g_s s, vS v_]⟩ w (fun e w' => ∃ v, e = .returned v ∧ v = vB r ∧ SH M (fpl [eI tS s g_s]) w [] w') := by
 rw [slices_Contains_string_string] at hm
 have hS0 : SH M (fpl [eI tS s g_s]) w [eI tS s g_s] w := hS
 generalize hX : fpl [eI tS s g_s] = X at hS0 ⊢
 clear hS hX
 have hS := hS0
 clear hS0
 refine calls_entryP Tryz.func51 rfl Tryz.ntmps51 rfl fun _ H => ?_
 refine s_reg [] [0, 1] (fS [0, 1] [vL g_s s, vS v_]) [] H (by kernel_rfl) trivial fun _ _ H2 hb => ?_
 replace hS := hS.below hb
 clear H hb
 obtain ⟨y3, hy3, hm⟩ := bindE hm
 refine s_reg [(vI y3)] [4] [(4, [], vB (decide (0 ≤ y3)))] [rB 35 [vL g_s s, vS v_] (vI y3)] H2 (by kernel_rfl) ⟨(slices_Index_string_string_ok (g_s := g_s) m _ _ _ hy3 _ (s0im s0nil (hS.im 0 rfl))), trivial⟩ fun _ _ H5 hb => ?_
 replace hS := hS.below hb
 clear H2 hb
 replace hS : SH M X w [] _ := hS.sel [] rfl
 apply w_ret
 obtain rfl := someE hm
 exact retR1 H5 rfl rfl ⟨_, rfl, rfl, (hS.sel [] rfl)⟩
theorem slices_Contains_string_string_ok {g_s : Gh} (m : Nat) (s : List Str) (v_ : Str) (r : Bool) (hm : slices_Contains_string_string m s v_ = some r) (w : World) (hL : S0 F0 [eI tS s g_s] w ∧ fpl [eI tS s g_s] = []) : RetB Tryz.prog 51 ⟨[vL g_s s, vS v_]⟩ (vB r) w := retB_of hL (Tryz.call51 _) (fun w' h => slices_Contains_string_string_w F0 m   s v_ r hm w' h)

theorem short_of_w  (M : Av) (m : Nat) (name_ : Str) (r : List Str) (hm : short_of m name_ = some r) (w : World) (hS : S0 M [] w) : Calls Tryz.prog 30 ⟨[vS name_]⟩ w (fun e w' => ∃ v, e = .returned v ∧ ∃ (g901 : Gh), v = vL g901 r ∧ SH M (fpl []) w [eO 9 tS r g901] w') := by
 rw [short_of] at hm
 have hS0 : SH M (fpl []) w [] w := hS
 generalize hX : fpl [] = X at hS0 ⊢
 clear hS hX
 have hS := hS0
 clear hS0
 refine calls_entryP Tryz.func30 rfl Tryz.ntmps30 rfl fun _ H => ?_
 refine s_reg [] [0] [(0, [], vS name_)] [] H (by kernel_rfl) trivial fun _ _ H2 hb => ?_
 replace hS := hS.below hb
 clear H hb
 apply w_seq
 apply w_block
 apply w_seq
 apply wl_start
 obtain ⟨y3, hy3, hm⟩ := letE hm
 have hd := hS.hand [] [] rfl rfl
 refine m_stp [7, 0] [(0, [], vS name_)] H2 rfl rfl rfl rfl (o_callx H2 rfl rfl (short_Names_ok _ hy3.symm _ _ hd)) (fun _ => rfl) fun _ _ v H7 hq => ?_
 clear H2 hd
 obtain ⟨g4, rfl, hq⟩ := hq
 replace hS : SH M X w [eO 9 tS y3 g4] _ := hS.join [] [] rfl rfl hq
 clear hq
 obtain ⟨y8, hy8, hm⟩ := bindE hm
 refine wl_batch 1 5 [(vB y8)] [0, 6] (fS [0, 6] [vS name_, vB (!y8)]) [rB 51 [vL g4 y3, vS name_] (vB y8)] H7 (by decide) (by kernel_rfl) ⟨(slices_Contains_string_string_ok (g_s := g4) 64 _ _ _ hy8 _ (s0im s0nil (hS.osl 0 rfl))), trivial⟩ fun _ _ H10 hb => ?_
 replace hS := hS.below hb
 clear H7 hb
 apply wl_end rfl
 replace hS : SH M X w [] _ := hS.sel [] rfl
 refine w_if H10 rfl (fun hc => ?c70) (fun hc => ?_)
 case c70 =>
  replace hm := bT hc hm
  refine s_reg [] [2] [(2, [], vO)] [] H10 (by kernel_rfl) trivial fun _ _ H12 hb => ?_
  replace hS := hS.below hb
  clear H10 hb
  apply w_ret
  obtain rfl := someE hm
  replace hS : SH M X w [eO 9 tS ([] : List Str) (.nil)] _ := hS.addNil 9 tS
  exact retR1 H12 rfl rfl ⟨_, rfl, Gh.nil, rfl, (hS.sel [0] rfl)⟩
 replace hm := bF hc hm
 obtain ⟨x14, hx14, hm⟩ := letE hm
 refine s_reg [] [0, 11] (fS [0, 11] [vS name_, vB x14]) [] H10 (by subst hx14; kernel_rfl) trivial fun _ _ H16 hb => ?_
 replace hS := hS.below hb
 clear H10 hb
 refine w_if H16 rfl (fun hc => ?c69) (fun hc => ?_)
 case c69 =>
  replace hm := bT hc hm
  apply w_seq
  apply wl_start
  obtain ⟨ho17, hm⟩ := chkE hm
  refine wl_batch 0 2 [] [15] [(15, [], vS (name_ ++ [45, 99, 111, 108, 111, 114]))] [fun _ => ln name_ + ln [45, 99, 111, 108, 111, 114] ≤ 9223372036854775807] H16 (by decide) (by kernel_rfl) ⟨ho17, trivial⟩ fun _ _ H19 hb => ?_
  replace hS := hS.below hb
  clear H16 hb
  have hd := hS.hand [] [] rfl rfl
  refine m_stp [16] [] H19 rfl rfl rfl rfl (o_lit (T := tS) (E := 9) (zv := vN) [vS (name_ ++ [45, 99, 111, 108, 111, 114])] ([name_ ++ [45, 99, 111, 108, 111, 114]] : List Str) [gL []] _ H19 hd rfl (by kernel_rfl) (by kernel_rfl) (by kernel_rfl) (by kernel_rfl) (by kernel_rfl) (by kernel_rfl) (by kernel_rfl) rfl (InnL.cons trivial InnL.nil)) (fun _ => rfl) fun _ _ v H23 hq => ?_
  clear H19 hd
  obtain ⟨g20, rfl, hq⟩ := hq
  replace hS : SH M X w [eO 9 tS ([name_ ++ [45, 99, 111, 108, 111, 114]] : List Str) g20] _ := hS.join [] [] rfl rfl hq
  clear hq
  refine wl_batch 3 4 [] [2] [(2, [], vK g20 1)] [] H23 (by decide) (by kernel_rfl) trivial fun _ _ H25 hb => ?_
  replace hS := hS.below hb
  clear H23 hb
  apply wl_end rfl
  apply w_ret
  obtain rfl := someE hm
  exact retR1 H25 rfl rfl ⟨_, rfl, g20, rfl, (hS.sel [0] rfl)⟩
 replace hm := bF hc hm
 apply w_skip
 refine s_reg [] [0, 3] (fS [0, 3] [vS name_, vO]) [] H16 (by kernel_rfl) trivial fun _ _ H27 hb => ?_
 replace hS := hS.below hb
 clear H16 hb
 obtain ⟨z28, hz, hm⟩ := bindE hm
 refine w_cut (fun a' w' => ∃ (g64 : Gh), Fr 32 [(3, [], vL g64 z28)] a' ∧ SH M X w [eO 9 tS z28 g64] w') ?_ ?_
 ·replace hm := hz
  apply w_seq
  apply wl_start
  have hd := hS.hand [] [] rfl rfl
  refine m_stp [17, 0, 3] (fS [0, 3] [vS name_, vO]) H27 rfl rfl rfl rfl (o_lit (T := tS) (E := 9) (zv := vN) [vS [116, 111, 112], vS [114, 105, 103, 104, 116], vS [98, 111, 116, 116, 111, 109], vS [108, 101, 102, 116]] kL6 [gL [], gL [], gL [], gL []] _ H27 hd rfl (by kernel_rfl) (by kernel_rfl) (by kernel_rfl) (by kernel_rfl) (by kernel_rfl) (by kernel_rfl) (by kernel_rfl) rfl (InnL.cons trivial (InnL.cons trivial (InnL.cons trivial (InnL.cons trivial InnL.nil))))) (fun _ => rfl) fun _ _ v H32 hq => ?_
  clear H27 hd
  obtain ⟨g29, rfl, hq⟩ := hq
  replace hS : SH M X w [eO 9 tS kL6 g29] _ := hS.join [] [] rfl rfl hq
  clear hq
  refine wl_batch 1 3 [] [0, 3, 17, 18, 19] (fS [0, 3, 17, 18, 19] [vS name_, vO, vK g29 4, vI 4, vI 0]) [] H32 (by decide) (by kernel_rfl) trivial fun _ _ H34 hb => ?_
  replace hS := hS.below hb
  clear H32 hb
  apply wl_end rfl
  apply w_block
  replace hS : SH M X w [eO 9 tS ([] : List Str) (.nil), eO 9 tS kL6 g29] _ := hS.addNil 9 tS
  refine w_loop (fun kk a' w' => ∃ (v36 : List Str) (v38 : Int) (g37 : Gh), short_of_L1 m name_ kk v36 v38 = some _ ∧ Fr 32 (fS [0, 17, 18, 3, 19] [vS name_, vK g29 4, vI 4, vL g37 v36, vI v38]) a' ∧ SH M X w [eO 9 tS v36 g37, eO 9 tS kL6 g29] w') ⟨_, ([] : List Str), 0, Gh.nil, hm, FrG.keep (ks := [0, 17, 18, 3, 19]) H34 (by kernel_rfl), hS⟩ ?_
  clear hm H34 hS
  rintro kk _ _ ⟨v36, v38, g37, hm, H, hS⟩
  cases kk with
  | zero => exact noneE hm
  | succ kk =>
   rw [short_of_L1] at hm
   refine s_reg [] [0, 3, 17, 18, 19, 20] (fS [0, 3, 17, 18, 19, 20] [vS name_, vL g37 v36, vK g29 4, vI 4, vI v38, vB (decide (v38 < 4))]) [] H (by kernel_rfl) trivial fun _ _ H40 hb => ?_
   replace hS := hS.below hb
   clear H hb
   apply w_seq
   refine w_if H40 rfl (fun hc => ?_) (fun hc => ?c62)
   case c62 =>
    replace hm := bF hc hm
    apply w_exit rfl
    obtain rfl := someE hm
    replace hS : SH M X w [eO 9 tS v36 g37] _ := hS.sel [0] rfl
    exact ⟨g37, FrG.keep (ks := [3]) H40 (by kernel_rfl), hS⟩
   replace hm := bT hc hm
   apply w_skip
   apply w_seq
   apply w_block
   obtain ⟨ho41, hm⟩ := chkE hm
   obtain ⟨x42, hx42, hm⟩ := letE hm
   refine s_reg [(vS (gi kL6 v38))] [0, 3, 5, 17, 18, 19] (fS [0, 3, 5, 17, 18, 19] [vS name_, vL g37 v36, vS x42, vK g29 4, vI 4, vI v38]) [fun _ => oka g29.a ∧ 0 ≤ v38 ∧ v38 < ln kL6, fun wz => V.at1 ⟨ab g29.a, ao g29.a + (v38).toNat * 1, none⟩ (vS (gi kL6 v38)) wz] H40 (by subst hx42; kernel_rfl) ⟨((hS.osl 1 rfl).oki ho41), ((hS.osl 1 rfl).at1 ho41 0 rfl), trivial⟩ fun _ _ H44 hb => ?_
   replace hS := hS.below hb
   clear H40 hb
   apply wl_start
   obtain ⟨ho45, hm⟩ := chkE hm
   obtain ⟨ho46, hm⟩ := chkE hm
   refine wl_batch 0 5 [] [0, 17, 18, 19, 23, 27] (fS [0, 17, 18, 19, 23, 27] [vS name_, vK g29 4, vI 4, vI v38, vL g37 v36, vS ((name_ ++ [45]) ++ x42)]) [fun _ => ln name_ + ln [45] ≤ 9223372036854775807, fun _ => ln (name_ ++ [45]) + ln x42 ≤ 9223372036854775807] H44 (by decide) (by kernel_rfl) ⟨ho45, ho46, trivial⟩ fun _ _ H48 hb => ?_
   replace hS := hS.below hb
   clear H44 hb
   have hd := hS.hand [] [0, 1] rfl rfl
   refine m_stp [28, 0, 17, 18, 19, 23] (fS [0, 17, 18, 19, 23] [vS name_, vK g29 4, vI 4, vI v38, vL g37 v36]) H48 rfl rfl rfl rfl (o_lit (T := tS) (E := 9) (zv := vN) [vS ((name_ ++ [45]) ++ x42)] ([(name_ ++ [45]) ++ x42] : List Str) [gL []] _ H48 hd rfl (by kernel_rfl) (by kernel_rfl) (by kernel_rfl) (by kernel_rfl) (by kernel_rfl) (by kernel_rfl) (by kernel_rfl) rfl (InnL.cons trivial InnL.nil)) (fun _ => rfl) fun _ _ v H52 hq => ?_
   clear H48 hd
   obtain ⟨g49, rfl, hq⟩ := hq
   replace hS : SH M X w [eO 9 tS ([(name_ ++ [45]) ++ x42] : List Str) g49, eO 9 tS v36 g37, eO 9 tS kL6 g29] _ := hS.join [] [0, 1] rfl rfl hq
   clear hq
   obtain ⟨ho53, hm⟩ := chkE hm
   obtain ⟨q54, hq54, hm⟩ := letE hm
   have hd := hS.hand [1, 0] [2] rfl rfl
   refine m_stp [29, 0, 17, 18, 19] (fS [0, 17, 18, 19] [vS name_, vK g29 4, vI 4, vI v38]) H52 rfl rfl rfl rfl (o_app2 (T := tS) (zv := vN) (g1 := g37) (g2 := g49) (l1 := v36) (l2 := ([(name_ ++ [45]) ++ x42] : List Str)) q54 hq54.symm H52 hd rfl rfl rfl rfl rfl rfl rfl (by kernel_rfl) (by kernel_rfl) rfl rfl ho53) (fun _ => rfl) fun _ _ v H56 hq => ?_
   clear H52 hd
   obtain ⟨g57, rfl, hq⟩ := hq
   replace hS : SH M X w [eO 9 tS q54 g57, eO 9 tS ([(name_ ++ [45]) ++ x42] : List Str) g49, eO 9 tS kL6 g29] _ := hS.join [1, 0] [2] rfl rfl hq
   clear hq
   refine wl_batch 7 8 [] [0, 3, 17, 18, 19] (fS [0, 3, 17, 18, 19] [vS name_, vL g57 q54, vK g29 4, vI 4, vI v38]) [] H56 (by decide) (by kernel_rfl) trivial fun _ _ H59 hb => ?_
   replace hS := hS.below hb
   clear H56 hb
   apply wl_end rfl
   replace hS : SH M X w [eO 9 tS q54 g57, eO 9 tS kL6 g29] _ := hS.sel [0, 2] rfl
   refine w_reg [] [0, 3, 17, 18, 19] (fS [0, 3, 17, 18, 19] [vS name_, vL g57 q54, vK g29 4, vI 4, vI (w64 (v38 + 1))]) [] H59 (by kernel_rfl) trivial fun _ _ H61 hb => ?_
   replace hS := hS.below hb
   clear H59 hb
   exact ⟨_, Nat.lt_succ_self _, q54, w64 (v38 + 1), g57, hm, FrG.keep (ks := [0, 17, 18, 3, 19]) H61 (by kernel_rfl), hS⟩
 ·rintro _ _ ⟨g64, H, hS⟩
  refine s_reg [] [2] [(2, [], vL g64 z28)] [] H (by kernel_rfl) trivial fun _ _ H67 hb => ?_
  replace hS := hS.below hb
  clear H hb
  apply w_ret
  obtain rfl := someE hm
  exact retR1 H67 rfl rfl ⟨_, rfl, g64, rfl, (hS.sel [0] rfl)⟩
theorem short_of_ok  (m : Nat) (name_ : Str) (r : List Str) (hm : short_of m name_ = some r) (M : Av) (w : World) (hS : S0 M [] w) : DoesX Tryz.prog 30 ⟨[vS name_]⟩ w (fun v w' => ∃ (g901 : Gh), v = vL g901 r ∧ SH M (fpl []) w [eO 9 tS r g901] w') := ⟨Tryz.call30 _, short_of_w M m   name_ r hm w hS⟩

theorem stringslite_HasPrefix_w  (M : Av) (s : Str) (prefix_ : Str) (r : Bool) (hm : stringslite_HasPrefix s prefix_ = some r) (w : World) (hS : S0 M [] w) : Calls Tryz.prog 75 ⟨[vS s, vS prefix_]⟩ w (fun e w' => ∃ v, e = .returned v ∧ v = vB r ∧ SH M (fpl []) w [] w') := by
 rw [stringslite_HasPrefix] at hm
 have hS0 : SH M (fpl []) w [] w := hS
 generalize hX : fpl [] = X at hS0 ⊢
 clear hS hX
 have hS := hS0
 clear hS0
 refine calls_entryP Tryz.func75 rfl Tryz.ntmps75 rfl fun _ H => ?_
 refine s_reg [] [0, 1] (fS [0, 1] [vS s, vS prefix_]) [] H (by kernel_rfl) trivial fun _ _ H2 hb => ?_
 replace hS := hS.below hb
 clear H hb
 obtain ⟨ho3, hm⟩ := chkE hm
 obtain ⟨x4, hx4, hm⟩ := letE hm
 refine s_reg [] [4] [(4, [], vB x4)] [fun _ => ((decide ((ln prefix_) ≤ (ln s))) = true ∧ True → 0 ≤ (ln prefix_) ∧ (ln prefix_) ≤ ln s)] H2 (by subst hx4; kernel_rfl) ⟨fun hg => (ho3 hg.1), trivial⟩ fun _ _ H6 hb => ?_
 replace hS := hS.below hb
 clear H2 hb
 apply w_ret
 obtain rfl := someE hm
 exact retR1 H6 rfl rfl ⟨_, rfl, rfl, (hS.sel [] rfl)⟩
theorem stringslite_HasPrefix_ok  (s : Str) (prefix_ : Str) (r : Bool) (hm : stringslite_HasPrefix s prefix_ = some r) : Ret Tryz.prog 75 ⟨[vS s, vS prefix_]⟩ (vB r) := retP_of (Tryz.call75 _) (fun w h => stringslite_HasPrefix_w F0   s prefix_ r hm w h)

theorem strings_HasPrefix_w  (M : Av) (s : Str) (prefix_ : Str) (r : Bool) (hm : strings_HasPrefix s prefix_ = some r) (w : World) (hS : S0 M [] w) : Calls Tryz.prog 52 ⟨[vS s, vS prefix_]⟩ w (fun e w' => ∃ v, e = .returned v ∧ v = vB r ∧ SH M (fpl []) w [] w') := by
 rw [strings_HasPrefix] at hm
 have hS0 : SH M (fpl []) w [] w := hS
 generalize hX : fpl [] = X at hS0 ⊢
 clear hS hX
 have hS := hS0
 clear hS0
 refine calls_entryP Tryz.func52 rfl Tryz.ntmps52 rfl fun _ H => ?_
 refine s_reg [] [0, 1] (fS [0, 1] [vS s, vS prefix_]) [] H (by kernel_rfl) trivial fun _ _ H2 hb => ?_
 replace hS := hS.below hb
 clear H hb
 obtain ⟨y3, hy3, hm⟩ := bindE hm
 refine s_reg [(vB y3)] [4] [(4, [], vB y3)] [rB 75 [vS s, vS prefix_] (vB y3)] H2 (by kernel_rfl) ⟨((stringslite_HasPrefix_ok _ _ _ hy3).b), trivial⟩ fun _ _ H5 hb => ?_
 replace hS := hS.below hb
 clear H2 hb
 apply w_ret
 obtain rfl := someE hm
 exact retR1 H5 rfl rfl ⟨_, rfl, rfl, (hS.sel [] rfl)⟩
theorem strings_HasPrefix_ok  (s : Str) (prefix_ : Str) (r : Bool) (hm : strings_HasPrefix s prefix_ = some r) : Ret Tryz.prog 52 ⟨[vS s, vS prefix_]⟩ (vB r) := retP_of (Tryz.call52 _) (fun w h => strings_HasPrefix_w F0   s prefix_ r hm w h)

theorem props_Custom_w  (M : Av) (name_ : Str) (r : Bool) (hm : props_Custom name_ = some r) (w : World) (hS : S0 M [] w) : Calls Tryz.prog 26 ⟨[vS name_]⟩ w (fun e w' => ∃ v, e = .returned v ∧ v = vB r ∧ SH M (fpl []) w [] w') := by
 rw [props_Custom] at hm
 have hS0 : SH M (fpl []) w [] w := hS
 generalize hX : fpl [] = X at hS0 ⊢
 clear hS hX
 have hS := hS0
 clear hS0
 refine calls_entryP Tryz.func26 rfl Tryz.ntmps26 rfl fun _ H => ?_
 refine s_reg [] [0] [(0, [], vS name_)] [] H (by kernel_rfl) trivial fun _ _ H2 hb => ?_
 replace hS := hS.below hb
 clear H hb
 obtain ⟨y3, hy3, hm⟩ := bindE hm
 obtain ⟨x4, hx4, hm⟩ := letE hm
 refine s_reg [(vB y3)] [2] [(2, [], vB x4)] [rB 52 [vS name_, vS [45, 45]] (vB y3)] H2 (by subst hx4; kernel_rfl) ⟨((strings_HasPrefix_ok _ _ _ hy3).b), trivial⟩ fun _ _ H6 hb => ?_
 replace hS := hS.below hb
 clear H2 hb
 apply w_ret
 obtain rfl := someE hm
 exact retR1 H6 rfl rfl ⟨_, rfl, rfl, (hS.sel [] rfl)⟩
theorem props_Custom_ok  (name_ : Str) (r : Bool) (hm : props_Custom name_ = some r) : Ret Tryz.prog 26 ⟨[vS name_]⟩ (vB r) := retP_of (Tryz.call26 _) (fun w h => props_Custom_w F0   name_ r hm w h)

def tyColor : Ty TColor where
  z := 4
  enc := fun x g => (cC x)
  inn := fun _ _ _ _ => True
  len := fun _ _ => rfl
  one := fun _ _ => rfl
  kp := fun _ _ _ => trivial
  anti := fun _ _ => trivial
  fresh := fun _ => trivial
def tyVal : Ty TVal where
  z := 7
  enc := fun x g => (cV x)
  inn := fun _ _ _ _ => True
  len := fun _ _ => rfl
  one := fun _ _ => rfl
  kp := fun _ _ _ => trivial
  anti := fun _ _ => trivial
  fresh := fun _ => trivial
theorem props_word_w  (M : Av) (s : Str) (r : TVal) (hm : props_word s = r) (w : World) (hS : S0 M [] w) : Calls Tryz.prog 76 ⟨[vS s]⟩ w (fun e w' => ∃ v, e = .returned v ∧ v = vG (cV r) ∧ SH M (fpl []) w [] w') := by
 rw [props_word] at hm
 have hS0 : SH M (fpl []) w [] w := hS
 generalize hX : fpl [] = X at hS0 ⊢
 clear hS hX
 have hS := hS0
 clear hS0
 refine calls_entryP Tryz.func76 rfl Tryz.ntmps76 rfl fun _ H => ?_
 apply w_seq
 apply wl_start
 have hd := hS.hand [] [] rfl rfl
 refine m_stp [2, 0] [(0, [], vS s)] H rfl rfl rfl rfl (o_alloc [vU 0, vN, vI 0, vU 0, vU 0, vU 0, vU 0] (z := vG [vU 0, vN, vI 0, vU 0, vU 0, vU 0, vU 0]) hd (by kernel_rfl) rfl) (fun _ => rfl) fun _ _ v H3 hq => ?_
 clear H hd
 obtain ⟨b1, rfl, hq⟩ := hq
 replace hS : SH M X w [eB b1 [vU 0, vN, vI 0, vU 0, vU 0, vU 0, vU 0]] _ := hS.join [] [] rfl rfl hq
 clear hq
 apply wl_end rfl
 apply w_seq
 apply wl_start
 refine wl_batch 0 2 [] [2, 4] (fS [2, 4] [vP b1, vG [vU 1, vS s, vI 0, vU 0, vU 0, vU 0, vU 0]]) [] H3 (by decide) (by kernel_rfl) trivial fun _ _ H5 hb => ?_
 replace hS := hS.below hb
 clear H3 hb
 have hd := hS.hand [0] [] rfl rfl
 refine m_stp0 [2] [(2, [], vP b1)] H5 rfl rfl rfl (o_store [vU 1, vS s, vI 0, vU 0, vU 0, vU 0, vU 0] H5 hd rfl rfl (by kernel_rfl) rfl rfl rfl) rfl fun _ _ H7 hq => ?_
 clear H5 hd
 obtain ⟨_, hq⟩ := hq
 replace hS : SH M X w [eB b1 [vU 1, vS s, vI 0, vU 0, vU 0, vU 0, vU 0]] _ := hS.join [0] [] rfl rfl hq
 clear hq
 apply wl_end rfl
 apply w_ret
 subst hm
 exact retR1 H7 rfl (oneRes_agg rfl (hS.bk 0 rfl) Tryz.underlying57 rfl (by kernel_rfl)) ⟨_, rfl, rfl, (hS.sel [] rfl)⟩
theorem props_word_ok  (s : Str) : Ret Tryz.prog 76 ⟨[vS s]⟩ (vG (cV (props_word s))) := retP_of (Tryz.call76 _) (fun w h => props_word_w F0   s _ rfl w h)

def tyProp : Ty TProp where
  z := 12
  enc := fun x g => [vS x.Name, vB x.Inherited, vU x.Initial.Kind, vS x.Initial.Word, vI x.Initial.Num, vU x.Initial.Color.Red, vU x.Initial.Color.Green, vU x.Initial.Color.Blue, vU x.Initial.Color.Alpha, .slice (g 0).a x.Words.length (g 0).c, .slice (g 1).a x.Kinds.length (g 1).c, vB x.Least]
  inn := fun M w x g => SlG tS M w x.Words (g 0) ∧ SlG (tI .u8) M w x.Kinds (g 1) ∧ True
  len := fun _ _ => rfl
  one := fun _ _ => rfl
  kp := fun h k hX => ⟨h.1.kp k hX, h.2.1.kp k hX, trivial⟩
  anti := fun h hM => ⟨h.1.anti hM, h.2.1.anti hM, trivial⟩
  fresh := fun h => ⟨h.1.fresh, h.2.1.fresh, trivial⟩
theorem tyProp_i0 {M : Av} {w : World} {x : TProp} {g : Nat → Gh} (h : tyProp.inn M w x g) : SlG tS M w x.Words (g 0) := (show SlG tS M w x.Words (g 0) ∧ SlG (tI .u8) M w x.Kinds (g 1) ∧ True from h).1
theorem tyProp_i1 {M : Av} {w : World} {x : TProp} {g : Nat → Gh} (h : tyProp.inn M w x g) : SlG (tI .u8) M w x.Kinds (g 1) := (show SlG tS M w x.Words (g 0) ∧ SlG (tI .u8) M w x.Kinds (g 1) ∧ True from h).2.1
theorem tyProp_mk {M : Av} {w : World} {x : TProp} {g : Nat → Gh} (h0 : SlG tS M w x.Words (g 0)) (h1 : SlG (tI .u8) M w x.Kinds (g 1)) : tyProp.inn M w x g := show SlG tS M w x.Words (g 0) ∧ SlG (tI .u8) M w x.Kinds (g 1) ∧ True from ⟨h0, h1, trivial⟩
theorem props_color_w  (M : Av) (name_ : Str) (inherited : Bool) (first : TVal) (r : TProp) (hm : props_color name_ inherited first = r) (w : World) (hS : S0 M [] w) : Calls Tryz.prog 77 ⟨[vS name_, vB inherited, vG (cV first)]⟩ w (fun e w' => ∃ v, e = .returned v ∧ ∃ (g901 : Gh) (g903 : Gh), v = vG [vS r.Name, vB r.Inherited, vU r.Initial.Kind, vS r.Initial.Word, vI r.Initial.Num, vU r.Initial.Color.Red, vU r.Initial.Color.Green, vU r.Initial.Color.Blue, vU r.Initial.Color.Alpha, vL g901 r.Words, vL g903 r.Kinds, vB r.Least] ∧ SH M (fpl []) w [eO 9 tS r.Words g901, eO 5 (tI .u8) r.Kinds g903] w') := by
 rw [props_color] at hm
 have hS0 : SH M (fpl []) w [] w := hS
 generalize hX : fpl [] = X at hS0 ⊢
 clear hS hX
 have hS := hS0
 clear hS0
 refine calls_entryP Tryz.func77 rfl Tryz.ntmps77 rfl fun _ H => ?_
 apply w_seq
 apply wl_start
 have hd := hS.hand [] [] rfl rfl
 refine m_stp [5, 0, 1] (fS [0, 1] [vS name_, vB inherited]) H rfl rfl rfl rfl (o_box (cV first) H hd rfl rfl) (fun _ => rfl) fun _ _ v H3 hq => ?_
 clear H hd
 obtain ⟨b1, rfl, hq⟩ := hq
 replace hS : SH M X w [eB b1 (cV first)] _ := hS.join [] [] rfl rfl hq
 clear hq
 have hd := hS.hand [] [0] rfl rfl
 refine m_stp [6, 0, 1, 5] (fS [0, 1, 5] [vS name_, vB inherited, vP b1]) H3 rfl rfl rfl rfl (o_alloc [vN, vF, vU 0, vN, vI 0, vU 0, vU 0, vU 0, vU 0, vO, vO, vF] (z := vG [vN, vF, vU 0, vN, vI 0, vU 0, vU 0, vU 0, vU 0, vO, vO, vF]) hd (by kernel_rfl) rfl) (fun _ => rfl) fun _ _ v H6 hq => ?_
 clear H3 hd
 obtain ⟨b4, rfl, hq⟩ := hq
 replace hS : SH M X w [eB b4 [vN, vF, vU 0, vN, vI 0, vU 0, vU 0, vU 0, vU 0, vO, vO, vF], eB b1 (cV first)] _ := hS.join [] [0] rfl rfl hq
 clear hq
 apply wl_end rfl
 apply w_seq
 apply wl_start
 refine wl_batch 0 3 [(vG (cV first))] [6, 7, 8, 9] (fS [6, 7, 8, 9] [vP b4, vS name_, vB inherited, vG (cV first)]) [rN b1 0 (cV first)] H6 (by decide) (by kernel_rfl) ⟨((hS.bk 1 rfl).atD rfl), trivial⟩ fun _ _ H8 hb => ?_
 replace hS := hS.below hb
 clear H6 hb
 have hd := hS.hand [] [0, 1] rfl rfl
 refine m_stp [10, 6, 7, 8, 9] (fS [6, 7, 8, 9] [vP b4, vS name_, vB inherited, vG (cV first)]) H8 rfl rfl rfl rfl (o_lit (T := (tI .u8)) (E := 5) (zv := vU 0) [vU 7, vU 8] ([7, 8] : List Int) [gL [], gL []] _ H8 hd rfl (by kernel_rfl) (by kernel_rfl) (by kernel_rfl) (by kernel_rfl) (by kernel_rfl) (by kernel_rfl) (by kernel_rfl) rfl (InnL.cons trivial (InnL.cons trivial InnL.nil))) (fun _ => rfl) fun _ _ v H12 hq => ?_
 clear H8 hd
 obtain ⟨g9, rfl, hq⟩ := hq
 replace hS : SH M X w [eO 5 (tI .u8) ([7, 8] : List Int) g9, eB b4 [vN, vF, vU 0, vN, vI 0, vU 0, vU 0, vU 0, vU 0, vO, vO, vF], eB b1 (cV first)] _ := hS.join [] [0, 1] rfl rfl hq
 clear hq
 refine wl_batch 4 5 [] [6, 11] (fS [6, 11] [vP b4, vG [vS name_, vB inherited, vU first.Kind, vS first.Word, vI first.Num, vU first.Color.Red, vU first.Color.Green, vU first.Color.Blue, vU first.Color.Alpha, vO, vK g9 2, vF]]) [] H12 (by decide) (by kernel_rfl) trivial fun _ _ H14 hb => ?_
 replace hS := hS.below hb
 clear H12 hb
 have hd := hS.hand [1] [0, 2] rfl rfl
 refine m_stp0 [6] [(6, [], vP b4)] H14 rfl rfl rfl (o_store [vS name_, vB inherited, vU first.Kind, vS first.Word, vI first.Num, vU first.Color.Red, vU first.Color.Green, vU first.Color.Blue, vU first.Color.Alpha, vO, vK g9 2, vF] H14 hd rfl rfl (by kernel_rfl) rfl rfl rfl) rfl fun _ _ H16 hq => ?_
 clear H14 hd
 obtain ⟨_, hq⟩ := hq
 replace hS : SH M X w [eB b4 [vS name_, vB inherited, vU first.Kind, vS first.Word, vI first.Num, vU first.Color.Red, vU first.Color.Green, vU first.Color.Blue, vU first.Color.Alpha, vO, vK g9 2, vF], eO 5 (tI .u8) ([7, 8] : List Int) g9, eB b1 (cV first)] _ := hS.join [1] [0, 2] rfl rfl hq
 clear hq
 apply wl_end rfl
 replace hS : SH M X w [eB b4 [vS name_, vB inherited, vU first.Kind, vS first.Word, vI first.Num, vU first.Color.Red, vU first.Color.Green, vU first.Color.Blue, vU first.Color.Alpha, vO, vK g9 2, vF], eO 5 (tI .u8) ([7, 8] : List Int) g9] _ := hS.sel [0, 1] rfl
 apply w_ret
 subst hm
 replace hS : SH M X w [eO 9 tS ([] : List Str) (.nil), eB b4 [vS name_, vB inherited, vU first.Kind, vS first.Word, vI first.Num, vU first.Color.Red, vU first.Color.Green, vU first.Color.Blue, vU first.Color.Alpha, vO, vK g9 2, vF], eO 5 (tI .u8) ([7, 8] : List Int) g9] _ := hS.addNil 9 tS
 exact retR1 H16 rfl (oneRes_agg rfl (hS.bk 1 rfl) Tryz.underlying100 rfl (by kernel_rfl)) ⟨_, rfl, Gh.nil, g9, rfl, (hS.sel [0, 2] rfl)⟩
theorem props_color_ok  (name_ : Str) (inherited : Bool) (first : TVal) (r : TProp) (hm : props_color name_ inherited first = r) (M : Av) (w : World) (hS : S0 M [] w) : DoesX Tryz.prog 77 ⟨[vS name_, vB inherited, vG (cV first)]⟩ w (fun v w' => ∃ (g901 : Gh) (g903 : Gh), v = vG [vS r.Name, vB r.Inherited, vU r.Initial.Kind, vS r.Initial.Word, vI r.Initial.Num, vU r.Initial.Color.Red, vU r.Initial.Color.Green, vU r.Initial.Color.Blue, vU r.Initial.Color.Alpha, vL g901 r.Words, vL g903 r.Kinds, vB r.Least] ∧ SH M (fpl []) w [eO 9 tS r.Words g901, eO 5 (tI .u8) r.Kinds g903] w') := ⟨Tryz.call77 _, props_color_w M   name_ inherited first r hm w hS⟩

abbrev gE0 : Ent := eI (tI .u8) gl_strings_asciiSpace (Gh.mk (some ⟨0, 0, none⟩) 256 fun _ _ => .nil)
theorem strings_Fields_w  (M : Av) (m : Nat) (s : Str) (r : List Str) (hm : strings_Fields m s = some r) (w : World) (hS : S0 M [gE0] w) : Calls Tryz.prog 94 ⟨[vS s]⟩ w (fun e w' => ∃ v, e = .returned v ∧ ∃ (g901 : Gh), v = .slice g901.a r.length g901.c ∧ SH M (fpl [gE0]) w [eO 9 tS r g901] w') := by
 rw [strings_Fields] at hm
 have hS0 : SH M (fpl [gE0]) w [gE0] w := hS
 generalize hX : fpl [gE0] = X at hS0 ⊢
 clear hS hX
 have hS := hS0
 clear hS0
 refine calls_entryP Tryz.func94 rfl Tryz.ntmps94 rfl fun _ H => ?_
 refine s_reg [] [0] [(0, [], vS s)] [] H (by kernel_rfl) trivial fun _ _ H2 hb => ?_
 replace hS := hS.below hb
 clear H hb
 refine s_reg [] [0, 3] (fS [0, 3] [vS s, vI 0]) [] H2 (by kernel_rfl) trivial fun _ _ H4 hb => ?_
 replace hS := hS.below hb
 clear H2 hb
 refine s_reg [] [0, 3, 4] (fS [0, 3, 4] [vS s, vI 0, vI 1]) [] H4 (by kernel_rfl) trivial fun _ _ H6 hb => ?_
 replace hS := hS.below hb
 clear H4 hb
 refine s_reg [] [0, 3, 4, 5] (fS [0, 3, 4, 5] [vS s, vI 0, vI 1, vU 0]) [] H6 (by kernel_rfl) trivial fun _ _ H8 hb => ?_
 replace hS := hS.below hb
 clear H6 hb
 obtain ⟨z9, hz, hm⟩ := bindE hm
 refine w_cut (fun a' w' => Fr 106 (fS [0, 3, 5] [vS s, vI z9.1, vU z9.2]) a' ∧ SH M X w [gE0] w') ?_ ?_
 ·replace hm := hz
  refine s_reg [] [0, 3, 4, 5, 6] (fS [0, 3, 4, 5, 6] [vS s, vI 0, vI 1, vU 0, vI 0]) [] H8 (by kernel_rfl) trivial fun _ _ H11 hb => ?_
  replace hS := hS.below hb
  clear H8 hb
  apply w_block
  refine w_loop (fun kk a' w' => ∃ (v12 : Int) (v13 : Int) (v14 : Int) (v15 : Int), strings_Fields_L1 m s kk v12 v13 v14 v15 = some _ ∧ Fr 106 (fS [0, 3, 4, 5, 6] [vS s, vI v12, vI v13, vU v14, vI v15]) a' ∧ SH M X w [gE0] w') ⟨_, 0, 1, 0, 0, hm, FrG.keep (ks := [0, 3, 4, 5, 6]) H11 (by kernel_rfl), hS⟩ ?_
  clear hm H11 hS
  rintro kk _ _ ⟨v12, v13, v14, v15, hm, H, hS⟩
  cases kk with
  | zero => exact noneE hm
  | succ kk =>
   rw [strings_Fields_L1] at hm
   apply w_seq
   refine s_reg [] [0, 3, 4, 5, 6, 16] (fS [0, 3, 4, 5, 6, 16] [vS s, vI v12, vI v13, vU v14, vI v15, vB (decide (v15 < (ln s)))]) [] H (by kernel_rfl) trivial fun _ _ H17 hb => ?_
   replace hS := hS.below hb
   clear H hb
   refine w_if H17 rfl (fun hc => ?_) (fun hc => ?c34)
   case c34 =>
    replace hm := bF hc hm
    apply w_exit rfl
    obtain rfl := someE hm
    exact ⟨FrG.keep (ks := [0, 3, 5]) H17 (by kernel_rfl), hS⟩
   replace hm := bT hc hm
   apply w_skip
   apply w_seq
   apply w_block
   obtain ⟨ho18, hm⟩ := chkE hm
   refine s_reg [] [0, 3, 4, 5, 6, 7] (fS [0, 3, 4, 5, 6, 7] [vS s, vI v12, vI v13, vU v14, vI v15, vU (bat s v15)]) [fun _ => 0 ≤ v15 ∧ v15 < ln s] H17 (by kernel_rfl) ⟨ho18, trivial⟩ fun _ _ H20 hb => ?_
   replace hS := hS.below hb
   clear H17 hb
   refine s_reg [] [0, 3, 4, 5, 6, 7] (fS [0, 3, 4, 5, 6, 7] [vS s, vI v12, vI v13, vU (ibit .or .u8 v14 (bat s v15)), vI v15, vU (bat s v15)]) [] H20 (by kernel_rfl) trivial fun _ _ H22 hb => ?_
   replace hS := hS.below hb
   clear H20 hb
   obtain ⟨ho23, hm⟩ := chkE hm
   obtain ⟨x24, hx24, hm⟩ := letE hm
   refine s_reg [(vU (gi gl_strings_asciiSpace (bat s v15)))] [0, 3, 4, 5, 6, 8] (fS [0, 3, 4, 5, 6, 8] [vS s, vI v12, vI v13, vU (ibit .or .u8 v14 (bat s v15)), vI v15, vI x24]) [fun _ => 0 ≤ (bat s v15) ∧ (bat s v15) < (256 : Int), fun wz => V.at1 ⟨0, 0 + ((bat s v15)).toNat * 1, none⟩ (vU (gi gl_strings_asciiSpace (bat s v15))) wz] H22 (by subst hx24; kernel_rfl) ⟨ho23, ((hS.im 0 rfl).at1 ho23 0 rfl), trivial⟩ fun _ _ H26 hb => ?_
   replace hS := hS.below hb
   clear H22 hb
   obtain ⟨x27, hx27, hm⟩ := letE hm
   refine s_reg [] [0, 3, 5, 6, 8] (fS [0, 3, 5, 6, 8] [vS s, vI (w64 (v12 + x27)), vU (ibit .or .u8 v14 (bat s v15)), vI v15, vI x24]) [] H26 (by subst hx27; kernel_rfl) trivial fun _ _ H29 hb => ?_
   replace hS := hS.below hb
   clear H26 hb
   refine w_reg [] [0, 3, 4, 5, 6] (fS [0, 3, 4, 5, 6] [vS s, vI (w64 (v12 + x27)), vI x24, vU (ibit .or .u8 v14 (bat s v15)), vI v15]) [] H29 (by kernel_rfl) trivial fun _ _ H31 hb => ?_
   replace hS := hS.below hb
   clear H29 hb
   refine w_reg [] [0, 3, 4, 5, 6] (fS [0, 3, 4, 5, 6] [vS s, vI (w64 (v12 + x27)), vI x24, vU (ibit .or .u8 v14 (bat s v15)), vI (w64 (v15 + 1))]) [] H31 (by kernel_rfl) trivial fun _ _ H33 hb => ?_
   replace hS := hS.below hb
   clear H31 hb
   exact ⟨_, Nat.lt_succ_self _, w64 (v12 + x27), x24, ibit .or .u8 v14 (bat s v15), w64 (v15 + 1), hm, FrG.keep (ks := [0, 3, 4, 5, 6]) H33 (by kernel_rfl), hS⟩
 ·rintro _ _ ⟨H, hS⟩
  apply w_seq
  refine s_reg [] [0, 3, 37] (fS [0, 3, 37] [vS s, vI z9.1, vB (decide (128 ≤ z9.2))]) [] H (by kernel_rfl) trivial fun _ _ H37 hb => ?_
  replace hS := hS.below hb
  clear H hb
  refine w_if H37 rfl (fun hc => ?c130) (fun hc => ?_)
  case c130 =>
   replace hm := bT hc hm
   exact noneE hm
  replace hm := bF hc hm
  apply w_skip
  apply w_seq
  apply wl_start
  refine wl_batch 0 1 [] [0, 40] (fS [0, 40] [vS s, vI z9.1]) [] H37 (by decide) (by kernel_rfl) trivial fun _ _ H39 hb => ?_
  replace hS := hS.below hb
  clear H37 hb
  obtain ⟨ho40, hm⟩ := chkE hm
  obtain ⟨q41, hq41, hm⟩ := letE hm
  have hd := hS.hand [] [0] rfl rfl
  refine m_stp [41, 0] [(0, [], vS s)] H39 rfl rfl rfl rfl (o_make (T := tS) (E := 9) (zv := vN) ([] : Str) H39 hd rfl rfl (by kernel_rfl) (by kernel_rfl) rfl rfl (fun _ _ => trivial) ho40) (fun _ => rfl) fun _ _ v H43 hq => ?_
  clear H39 hd
  obtain ⟨g44, rfl, hq⟩ := hq
  rw [← hq41] at hq
  rw [← hq41] at H43
  replace hS : SH M X w [eO 9 tS q41 g44, gE0] _ := hS.join [] [0] rfl rfl hq
  clear hq
  refine wl_batch 2 3 [] [0, 9] (fS [0, 9] [vS s, .slice g44.a q41.length g44.c]) [] H43 (by decide) (by kernel_rfl) trivial fun _ _ H47 hb => ?_
  replace hS := hS.below hb
  clear H43 hb
  apply wl_end rfl
  refine s_reg [] [0, 9, 10] (fS [0, 9, 10] [vS s, .slice g44.a q41.length g44.c, vI 0]) [] H47 (by kernel_rfl) trivial fun _ _ H49 hb => ?_
  replace hS := hS.below hb
  clear H47 hb
  refine s_reg [] [0, 9, 10] (fS [0, 9, 10] [vS s, .slice g44.a q41.length g44.c, vI 0]) [] H49 (by kernel_rfl) trivial fun _ _ H51 hb => ?_
  replace hS := hS.below hb
  clear H49 hb
  refine s_reg [] [0, 9, 10, 12] (fS [0, 9, 10, 12] [vS s, .slice g44.a q41.length g44.c, vI 0, vI 0]) [] H51 (by kernel_rfl) trivial fun _ _ H53 hb => ?_
  replace hS := hS.below hb
  clear H51 hb
  obtain ⟨z54, hz, hm⟩ := bindE hm
  refine w_cut (fun a' w' => Fr 106 (fS [0, 9, 10, 12] [vS s, .slice g44.a q41.length g44.c, vI 0, vI z54]) a' ∧ SH M X w [eO 9 tS q41 g44, gE0] w') ?_ ?_
  ·replace hm := hz
   apply w_block
   refine w_loop (fun kk a' w' => ∃ (v55 : Int), strings_Fields_L2 m s kk v55 = some _ ∧ Fr 106 (fS [0, 9, 10, 12] [vS s, .slice g44.a q41.length g44.c, vI 0, vI v55]) a' ∧ SH M X w [eO 9 tS q41 g44, gE0] w') ⟨_, 0, hm, FrG.keep (ks := [0, 9, 10, 12]) H53 (by kernel_rfl), hS⟩ ?_
   clear hm H53 hS
   rintro kk _ _ ⟨v55, hm, H, hS⟩
   cases kk with
   | zero => exact noneE hm
   | succ kk =>
    rw [strings_Fields_L2] at hm
    apply w_seq
    obtain ⟨ho56, hm⟩ := chkE hm
    obtain ⟨ho57, hm⟩ := chkE hm
    obtain ⟨x58, hx58, hm⟩ := letE hm
    refine s_reg [(vU (gi gl_strings_asciiSpace (bat s v55)))] [0, 9, 10, 12, 53] (fS [0, 9, 10, 12, 53] [vS s, .slice g44.a q41.length g44.c, vI 0, vI v55, vB x58]) [fun _ => ((decide (v55 < (ln s))) = true ∧ True → 0 ≤ v55 ∧ v55 < ln s), fun _ => ((decide (v55 < (ln s))) = true ∧ True → 0 ≤ (bat s v55) ∧ (bat s v55) < (256 : Int)), fun wz => ((decide (v55 < (ln s))) = true ∧ True → V.at1 ⟨0, 0 + ((bat s v55)).toNat * 1, none⟩ (vU (gi gl_strings_asciiSpace (bat s v55))) wz)] H (by subst hx58; kernel_rfl) ⟨fun hg => (ho56 hg.1), fun hg => (ho57 hg.1), fun hg => (hS.im 1 rfl).at1 (ho57 hg.1) 0 rfl, trivial⟩ fun _ _ H60 hb => ?_
    replace hS := hS.below hb
    clear H hb
    refine w_if H60 rfl (fun hc => ?_) (fun hc => ?c63)
    case c63 =>
     replace hm := bF hc hm
     apply w_exit rfl
     obtain rfl := someE hm
     exact ⟨FrG.keep (ks := [0, 9, 10, 12]) H60 (by kernel_rfl), hS⟩
    replace hm := bT hc hm
    apply w_skip
    apply w_block
    refine w_reg [] [0, 9, 10, 12] (fS [0, 9, 10, 12] [vS s, .slice g44.a q41.length g44.c, vI 0, vI (w64 (v55 + 1))]) [] H60 (by kernel_rfl) trivial fun _ _ H62 hb => ?_
    replace hS := hS.below hb
    clear H60 hb
    exact ⟨_, Nat.lt_succ_self _, w64 (v55 + 1), hm, FrG.keep (ks := [0, 9, 10, 12]) H62 (by kernel_rfl), hS⟩
  ·rintro _ _ ⟨H, hS⟩
   refine s_reg [] [0, 9, 10, 11, 12] (fS [0, 9, 10, 11, 12] [vS s, .slice g44.a q41.length g44.c, vI 0, vI z54, vI z54]) [] H (by kernel_rfl) trivial fun _ _ H66 hb => ?_
   replace hS := hS.below hb
   clear H hb
   obtain ⟨z67, hz, hm⟩ := bindE hm
   refine w_cut (fun a' w' => ∃ (g111 : Gh), Fr 106 (fS [0, 9, 10, 11] [vS s, .slice g111.a z67.2.2.length g111.c, vI z67.1, vI z67.2.1]) a' ∧ SH M X w [eO 9 tS z67.2.2 g111, gE0] w') ?_ ?_
   ·replace hm := hz
    apply w_block
    refine w_loop (fun kk a' w' => ∃ (v68 : List Str) (v70 : Int) (v71 : Int) (v72 : Int) (g69 : Gh), strings_Fields_L3 m s kk v68 v70 v71 v72 = some _ ∧ Fr 106 (fS [0, 9, 10, 11, 12] [vS s, .slice g69.a v68.length g69.c, vI v70, vI v71, vI v72]) a' ∧ SH M X w [eO 9 tS v68 g69, gE0] w') ⟨_, q41, 0, z54, z54, g44, hm, FrG.keep (ks := [0, 9, 10, 11, 12]) H66 (by kernel_rfl), hS⟩ ?_
    clear hm H66 hS
    rintro kk _ _ ⟨v68, v70, v71, v72, g69, hm, H, hS⟩
    cases kk with
    | zero => exact noneE hm
    | succ kk =>
     rw [strings_Fields_L3] at hm
     apply w_seq
     refine s_reg [] [0, 9, 10, 11, 12, 60] (fS [0, 9, 10, 11, 12, 60] [vS s, .slice g69.a v68.length g69.c, vI v70, vI v71, vI v72, vB (decide (v72 < (ln s)))]) [] H (by kernel_rfl) trivial fun _ _ H74 hb => ?_
     replace hS := hS.below hb
     clear H hb
     refine w_if H74 rfl (fun hc => ?_) (fun hc => ?c109)
     case c109 =>
      replace hm := bF hc hm
      apply w_exit rfl
      obtain rfl := someE hm
      exact ⟨g69, FrG.keep (ks := [0, 9, 10, 11]) H74 (by kernel_rfl), hS⟩
     replace hm := bT hc hm
     apply w_skip
     apply w_block
     apply w_seq
     obtain ⟨ho75, hm⟩ := chkE hm
     obtain ⟨ho76, hm⟩ := chkE hm
     obtain ⟨x77, hx77, hm⟩ := letE hm
     refine s_reg [(vU (gi gl_strings_asciiSpace (bat s v72)))] [0, 9, 10, 11, 12, 66] (fS [0, 9, 10, 11, 12, 66] [vS s, .slice g69.a v68.length g69.c, vI v70, vI v71, vI v72, vB x77]) [fun _ => 0 ≤ v72 ∧ v72 < ln s, fun _ => 0 ≤ (bat s v72) ∧ (bat s v72) < (256 : Int), fun wz => V.at1 ⟨0, 0 + ((bat s v72)).toNat * 1, none⟩ (vU (gi gl_strings_asciiSpace (bat s v72))) wz] H74 (by subst hx77; kernel_rfl) ⟨ho75, ho76, ((hS.im 1 rfl).at1 ho76 0 rfl), trivial⟩ fun _ _ H79 hb => ?_
     replace hS := hS.below hb
     clear H74 hb
     refine w_if H79 rfl (fun hc => ?c108) (fun hc => ?_)
     case c108 =>
      replace hm := bT hc hm
      refine s_reg [] [0, 9, 10, 11, 12] (fS [0, 9, 10, 11, 12] [vS s, .slice g69.a v68.length g69.c, vI v70, vI v71, vI (w64 (v72 + 1))]) [] H79 (by kernel_rfl) trivial fun _ _ H81 hb => ?_
      replace hS := hS.below hb
      clear H79 hb
      apply w_exit rfl
      exact ⟨_, Nat.lt_succ_self _, v68, v70, v71, w64 (v72 + 1), g69, hm, FrG.keep (ks := [0, 9, 10, 11, 12]) H81 (by kernel_rfl), hS⟩
     replace hm := bF hc hm
     apply w_skip
     apply w_seq
     apply wl_start
     obtain ⟨ho82, hm⟩ := chkE hm
     obtain ⟨ho83, hm⟩ := chkE hm
     refine wl_batch 0 7 [] [0, 9, 10, 12, 74, 75] (fS [0, 9, 10, 12, 74, 75] [vS s, .slice g69.a v68.length g69.c, vI v70, vI v72, vS (sub s v71 v72), .pointer (some ⟨ab g69.a, ao g69.a + (v70).toNat * 1, none⟩)]) [fun _ => 0 ≤ v71 ∧ v71 ≤ v72 ∧ v72 ≤ ln s, fun _ => oka g69.a ∧ 0 ≤ v70 ∧ v70 < ln v68] H79 (by decide) (by kernel_rfl) ⟨ho82, ((hS.osl 0 rfl).oki ho83), trivial⟩ fun _ _ H85 hb => ?_
     replace hS := hS.below hb
     clear H79 hb
     have hd := hS.hand [0] [1] rfl rfl
     refine m_stp0 [0, 9, 10, 12] (fS [0, 9, 10, 12] [vS s, .slice g69.a v68.length g69.c, vI v70, vI v72]) H85 rfl rfl rfl (o_estore (T := tS) (g := g69) (q := v68) (ix := v70) (off := 0) (sub s v71 v72) (gL []) H85 hd rfl rfl rfl rfl (by kernel_rfl) rfl rfl ho83 rfl trivial rfl) rfl fun _ _ H87 hq => ?_
     clear H85 hd
     obtain ⟨_, hq⟩ := hq
     obtain ⟨s88, hq⟩ := hq
     obtain ⟨q89, hq89, hm⟩ := letE hm
     rw [← hq89] at hq
     have hn : v68.length = q89.length := by rw [hq89, setl_len]
     first | rw [hn] at H87 | skip
     first | rw [hn] at hS | skip
     clear hn
     replace hS : SH M X w [eO 9 tS q89 (Gh.mk g69.a g69.c s88), gE0] _ := hS.join [0] [1] rfl rfl hq
     clear hq
     apply wl_end rfl
     refine s_reg [] [0, 9, 10, 12] (fS [0, 9, 10, 12] [vS s, .slice (Gh.mk g69.a g69.c s88).a q89.length (Gh.mk g69.a g69.c s88).c, vI (w64 (v70 + 1)), vI v72]) [] H87 (by kernel_rfl) trivial fun _ _ H91 hb => ?_
     replace hS := hS.below hb
     clear H87 hb
     refine s_reg [] [0, 9, 10, 12] (fS [0, 9, 10, 12] [vS s, .slice (Gh.mk g69.a g69.c s88).a q89.length (Gh.mk g69.a g69.c s88).c, vI (w64 (v70 + 1)), vI (w64 (v72 + 1))]) [] H91 (by kernel_rfl) trivial fun _ _ H93 hb => ?_
     replace hS := hS.below hb
     clear H91 hb
     obtain ⟨z94, hz, hm⟩ := bindE hm
     refine w_cut (fun a' w' => Fr 106 (fS [0, 9, 10, 12] [vS s, .slice (Gh.mk g69.a g69.c s88).a q89.length (Gh.mk g69.a g69.c s88).c, vI (w64 (v70 + 1)), vI z94]) a' ∧ SH M X w [eO 9 tS q89 (Gh.mk g69.a g69.c s88), gE0] w') ?_ ?_
     ·replace hm := hz
      apply w_block
      refine w_loop (fun kk a' w' => ∃ (v95 : Int), strings_Fields_L4 m s kk v95 = some _ ∧ Fr 106 (fS [0, 9, 10, 12] [vS s, .slice (Gh.mk g69.a g69.c s88).a q89.length (Gh.mk g69.a g69.c s88).c, vI (w64 (v70 + 1)), vI v95]) a' ∧ SH M X w [eO 9 tS q89 (Gh.mk g69.a g69.c s88), gE0] w') ⟨_, w64 (v72 + 1), hm, FrG.keep (ks := [0, 9, 10, 12]) H93 (by kernel_rfl), hS⟩ ?_
      clear hm H93 hS
      rintro kk _ _ ⟨v95, hm, H, hS⟩
      cases kk with
      | zero => exact noneE hm
      | succ kk =>
       rw [strings_Fields_L4] at hm
       apply w_seq
       obtain ⟨ho96, hm⟩ := chkE hm
       obtain ⟨ho97, hm⟩ := chkE hm
       obtain ⟨x98, hx98, hm⟩ := letE hm
       refine s_reg [(vU (gi gl_strings_asciiSpace (bat s v95)))] [0, 9, 10, 12, 91] (fS [0, 9, 10, 12, 91] [vS s, .slice (Gh.mk g69.a g69.c s88).a q89.length (Gh.mk g69.a g69.c s88).c, vI (w64 (v70 + 1)), vI v95, vB x98]) [fun _ => ((decide (v95 < (ln s))) = true ∧ True → 0 ≤ v95 ∧ v95 < ln s), fun _ => ((decide (v95 < (ln s))) = true ∧ True → 0 ≤ (bat s v95) ∧ (bat s v95) < (256 : Int)), fun wz => ((decide (v95 < (ln s))) = true ∧ True → V.at1 ⟨0, 0 + ((bat s v95)).toNat * 1, none⟩ (vU (gi gl_strings_asciiSpace (bat s v95))) wz)] H (by subst hx98; kernel_rfl) ⟨fun hg => (ho96 hg.1), fun hg => (ho97 hg.1), fun hg => (hS.im 1 rfl).at1 (ho97 hg.1) 0 rfl, trivial⟩ fun _ _ H100 hb => ?_
       replace hS := hS.below hb
       clear H hb
       refine w_if H100 rfl (fun hc => ?_) (fun hc => ?c103)
       case c103 =>
        replace hm := bF hc hm
        apply w_exit rfl
        obtain rfl := someE hm
        exact ⟨FrG.keep (ks := [0, 9, 10, 12]) H100 (by kernel_rfl), hS⟩
       replace hm := bT hc hm
       apply w_skip
       apply w_block
       refine w_reg [] [0, 9, 10, 12] (fS [0, 9, 10, 12] [vS s, .slice (Gh.mk g69.a g69.c s88).a q89.length (Gh.mk g69.a g69.c s88).c, vI (w64 (v70 + 1)), vI (w64 (v95 + 1))]) [] H100 (by kernel_rfl) trivial fun _ _ H102 hb => ?_
       replace hS := hS.below hb
       clear H100 hb
       exact ⟨_, Nat.lt_succ_self _, w64 (v95 + 1), hm, FrG.keep (ks := [0, 9, 10, 12]) H102 (by kernel_rfl), hS⟩
     ·rintro _ _ ⟨H, hS⟩
      refine w_reg [] [0, 9, 10, 11, 12] (fS [0, 9, 10, 11, 12] [vS s, .slice (Gh.mk g69.a g69.c s88).a q89.length (Gh.mk g69.a g69.c s88).c, vI (w64 (v70 + 1)), vI z94, vI z94]) [] H (by kernel_rfl) trivial fun _ _ H106 hb => ?_
      replace hS := hS.below hb
      clear H hb
      exact ⟨_, Nat.lt_succ_self _, q89, w64 (v70 + 1), z94, z94, (Gh.mk g69.a g69.c s88), hm, FrG.keep (ks := [0, 9, 10, 11, 12]) H106 (by kernel_rfl), hS⟩
   ·rintro _ _ ⟨g111, H, hS⟩
    obtain ⟨z112, hz, hm⟩ := bindE hm
    refine w_cut (fun a' w' => ∃ (g124 : Gh), Fr 106 [(9, [], .slice g124.a z112.length g124.c)] a' ∧ SH M X w [eO 9 tS z112 g124, gE0] w') ?_ ?_
    ·replace hm := hz
     refine s_reg [] [0, 9, 10, 11, 98] (fS [0, 9, 10, 11, 98] [vS s, .slice g111.a z67.2.2.length g111.c, vI z67.1, vI z67.2.1, vB (decide (z67.2.1 < (ln s)))]) [] H (by kernel_rfl) trivial fun _ _ H114 hb => ?_
     replace hS := hS.below hb
     clear H hb
     refine w_if H114 rfl (fun hc => ?_) (fun hc => ?c123)
     case c123 =>
      replace hm := bF hc hm
      apply w_skip
      obtain rfl := someE hm
      exact ⟨g111, FrG.keep (ks := [9]) H114 (by kernel_rfl), hS⟩
     replace hm := bT hc hm
     apply wl_start
     obtain ⟨ho115, hm⟩ := chkE hm
     obtain ⟨ho116, hm⟩ := chkE hm
     refine wl_batch 0 6 [] [9, 103, 104] (fS [9, 103, 104] [.slice g111.a z67.2.2.length g111.c, vS (sub s z67.2.1 (ln s)), .pointer (some ⟨ab g111.a, ao g111.a + (z67.1).toNat * 1, none⟩)]) [fun _ => 0 ≤ z67.2.1 ∧ z67.2.1 ≤ ln s, fun _ => oka g111.a ∧ 0 ≤ z67.1 ∧ z67.1 < ln z67.2.2] H114 (by decide) (by kernel_rfl) ⟨ho115, ((hS.osl 0 rfl).oki ho116), trivial⟩ fun _ _ H118 hb => ?_
     replace hS := hS.below hb
     clear H114 hb
     have hd := hS.hand [0] [1] rfl rfl
     refine m_stp0 [9] [(9, [], .slice g111.a z67.2.2.length g111.c)] H118 rfl rfl rfl (o_estore (T := tS) (g := g111) (q := z67.2.2) (ix := z67.1) (off := 0) (sub s z67.2.1 (ln s)) (gL []) H118 hd rfl rfl rfl rfl (by kernel_rfl) rfl rfl ho116 rfl trivial rfl) rfl fun _ _ H120 hq => ?_
     clear H118 hd
     obtain ⟨_, hq⟩ := hq
     obtain ⟨s121, hq⟩ := hq
     obtain ⟨q122, hq122, hm⟩ := letE hm
     rw [← hq122] at hq
     have hn : z67.2.2.length = q122.length := by rw [hq122, setl_len]
     first | rw [hn] at H120 | skip
     first | rw [hn] at hS | skip
     clear hn
     replace hS : SH M X w [eO 9 tS q122 (Gh.mk g111.a g111.c s121), gE0] _ := hS.join [0] [1] rfl rfl hq
     clear hq
     apply wl_end rfl
     obtain rfl := someE hm
     exact ⟨(Gh.mk g111.a g111.c s121), FrG.keep (ks := [9]) H120 (by kernel_rfl), hS⟩
    ·rintro _ _ ⟨g124, H, hS⟩
     refine s_reg [] [2] [(2, [], .slice g124.a z112.length g124.c)] [] H (by kernel_rfl) trivial fun _ _ H126 hb => ?_
     replace hS := hS.below hb
     clear H hb
     apply w_ret
     obtain rfl := someE hm
     exact retR1 H126 rfl rfl ⟨_, rfl, g124, rfl, (hS.sel [0] rfl)⟩
theorem strings_Fields_ok  (m : Nat) (s : Str) (r : List Str) (hm : strings_Fields m s = some r) (M : Av) (w : World) (hS : S0 M [gE0] w) : DoesX Tryz.prog 94 ⟨[vS s]⟩ w (fun v w' => ∃ (g901 : Gh), v = vL g901 r ∧ SH M (fpl [gE0]) w [eO 9 tS r g901] w') := ⟨Tryz.call94 _, strings_Fields_w M m   s r hm w hS⟩

theorem props_words_w  (M : Av) (m : Nat) (name_ : Str) (inherited : Bool) (first : Str) (all_ : Str) (r : TProp) (hm : props_words m name_ inherited first all_ = some r) (w : World) (hS : S0 M [gE0] w) : Calls Tryz.prog 78 ⟨[vS name_, vB inherited, vS first, vS all_]⟩ w (fun e w' => ∃ v, e = .returned v ∧ ∃ (g901 : Gh) (g903 : Gh), v = vG [vS r.Name, vB r.Inherited, vU r.Initial.Kind, vS r.Initial.Word, vI r.Initial.Num, vU r.Initial.Color.Red, vU r.Initial.Color.Green, vU r.Initial.Color.Blue, vU r.Initial.Color.Alpha, vL g901 r.Words, vL g903 r.Kinds, vB r.Least] ∧ SH M (fpl [gE0]) w [eO 9 tS r.Words g901, eO 5 (tI .u8) r.Kinds g903] w') := by
 rw [props_words] at hm
 have hS0 : SH M (fpl [gE0]) w [gE0] w := hS
 generalize hX : fpl [gE0] = X at hS0 ⊢
 clear hS hX
 have hS := hS0
 clear hS0
 refine calls_entryP Tryz.func78 rfl Tryz.ntmps78 rfl fun _ H => ?_
 apply w_seq
 apply wl_start
 have hd := hS.hand [] [0] rfl rfl
 refine m_stp [8, 0, 1, 2, 3] (fS [0, 1, 2, 3] [vS name_, vB inherited, vS first, vS all_]) H rfl rfl rfl rfl (o_alloc [vN, vF, vU 0, vN, vI 0, vU 0, vU 0, vU 0, vU 0, vO, vO, vF] (z := vG [vN, vF, vU 0, vN, vI 0, vU 0, vU 0, vU 0, vU 0, vO, vO, vF]) hd (by kernel_rfl) rfl) (fun _ => rfl) fun _ _ v H3 hq => ?_
 clear H hd
 obtain ⟨b1, rfl, hq⟩ := hq
 replace hS : SH M X w [eB b1 [vN, vF, vU 0, vN, vI 0, vU 0, vU 0, vU 0, vU 0, vO, vO, vF], gE0] _ := hS.join [] [0] rfl rfl hq
 clear hq
 apply wl_end rfl
 apply w_seq
 apply wl_start
 obtain ⟨y4, hy4, hm⟩ := letE hm
 refine wl_batch 0 5 [(vG (cV y4))] [8, 9, 10, 12, 13] (fS [8, 9, 10, 12, 13] [vP b1, vS name_, vB inherited, vG (cV y4), vS all_]) [rB 76 [vS first] (vG (cV y4))] H3 (by decide) (by subst hy4; kernel_rfl) ⟨((by rw [hy4]; exact (props_word_ok _).b)), trivial⟩ fun _ _ H6 hb => ?_
 replace hS := hS.below hb
 clear H3 hb
 obtain ⟨y7, hy7, hm⟩ := bindE hm
 have hd := hS.hand [1] [0, 1] rfl rfl
 refine m_stp [14, 8, 9, 10, 12] (fS [8, 9, 10, 12] [vP b1, vS name_, vB inherited, vG (cV y4)]) H6 rfl rfl rfl rfl (o_callx H6 rfl rfl (strings_Fields_ok m _ _ hy7 _ _ hd)) (fun _ => rfl) fun _ _ v H11 hq => ?_
 clear H6 hd
 obtain ⟨g8, rfl, hq⟩ := hq
 replace hS : SH M X w [eO 9 tS y7 g8, eB b1 [vN, vF, vU 0, vN, vI 0, vU 0, vU 0, vU 0, vU 0, vO, vO, vF], gE0] _ := hS.join [1] [0, 1] rfl rfl hq
 clear hq
 refine wl_batch 6 7 [] [8, 15] (fS [8, 15] [vP b1, vG [vS name_, vB inherited, vU y4.Kind, vS y4.Word, vI y4.Num, vU y4.Color.Red, vU y4.Color.Green, vU y4.Color.Blue, vU y4.Color.Alpha, vL g8 y7, vO, vF]]) [] H11 (by decide) (by kernel_rfl) trivial fun _ _ H13 hb => ?_
 replace hS := hS.below hb
 clear H11 hb
 have hd := hS.hand [1] [0, 2] rfl rfl
 refine m_stp0 [8] [(8, [], vP b1)] H13 rfl rfl rfl (o_store [vS name_, vB inherited, vU y4.Kind, vS y4.Word, vI y4.Num, vU y4.Color.Red, vU y4.Color.Green, vU y4.Color.Blue, vU y4.Color.Alpha, vL g8 y7, vO, vF] H13 hd rfl rfl (by kernel_rfl) rfl rfl rfl) rfl fun _ _ H15 hq => ?_
 clear H13 hd
 obtain ⟨_, hq⟩ := hq
 replace hS : SH M X w [eB b1 [vS name_, vB inherited, vU y4.Kind, vS y4.Word, vI y4.Num, vU y4.Color.Red, vU y4.Color.Green, vU y4.Color.Blue, vU y4.Color.Alpha, vL g8 y7, vO, vF], eO 9 tS y7 g8, gE0] _ := hS.join [1] [0, 2] rfl rfl hq
 clear hq
 apply wl_end rfl
 apply w_ret
 obtain rfl := someE hm
 replace hS : SH M X w [eO 5 (tI .u8) ([] : List Int) (.nil), eB b1 [vS name_, vB inherited, vU y4.Kind, vS y4.Word, vI y4.Num, vU y4.Color.Red, vU y4.Color.Green, vU y4.Color.Blue, vU y4.Color.Alpha, vL g8 y7, vO, vF], eO 9 tS y7 g8, gE0] _ := hS.addNil 5 (tI .u8)
 exact retR1 H15 rfl (oneRes_agg rfl (hS.bk 1 rfl) Tryz.underlying100 rfl (by kernel_rfl)) ⟨_, rfl, g8, Gh.nil, rfl, (hS.sel [2, 0] rfl)⟩
theorem props_words_ok  (m : Nat) (name_ : Str) (inherited : Bool) (first : Str) (all_ : Str) (r : TProp) (hm : props_words m name_ inherited first all_ = some r) (M : Av) (w : World) (hS : S0 M [gE0] w) : DoesX Tryz.prog 78 ⟨[vS name_, vB inherited, vS first, vS all_]⟩ w (fun v w' => ∃ (g901 : Gh) (g903 : Gh), v = vG [vS r.Name, vB r.Inherited, vU r.Initial.Kind, vS r.Initial.Word, vI r.Initial.Num, vU r.Initial.Color.Red, vU r.Initial.Color.Green, vU r.Initial.Color.Blue, vU r.Initial.Color.Alpha, vL g901 r.Words, vL g903 r.Kinds, vB r.Least] ∧ SH M (fpl [gE0]) w [eO 9 tS r.Words g901, eO 5 (tI .u8) r.Kinds g903] w') := ⟨Tryz.call78 _, props_words_w M m   name_ inherited first all_ r hm w hS⟩

theorem props_length_w {g_more : Gh} (M : Av) (m : Nat) (name_ : Str) (inherited : Bool) (first : TVal) (all_ : Str) (least : Bool) (more : List Int) (r : TProp) (hm : props_length m name_ inherited first all_ least more = some r) (w : World) (hS : S0 M [eI (tI .u8) more g_more, gE0] w) : Calls Tryz.prog 79 ⟨[vS name_, vB inherited, vG (cV first), vS all_, vB least, vL g_more more]⟩ w (fun e w' => ∃ v, e = .returned v ∧ ∃ (g901 : Gh) (g903 : Gh), v = vG [vS r.Name, vB r.Inherited, vU r.Initial.Kind, vS r.Initial.Word, vI r.Initial.Num, vU r.Initial.Color.Red, vU r.Initial.Color.Green, vU r.Initial.Color.Blue, vU r.Initial.Color.Alpha, vL g901 r.Words, vL g903 r.Kinds, vB r.Least] ∧ SH M (fpl [eI (tI .u8) more g_more, gE0]) w [eO 9 tS r.Words g901, eO 5 (tI .u8) r.Kinds g903] w') := by
 rw [props_length] at hm
 have hS0 : SH M (fpl [eI (tI .u8) more g_more, gE0]) w [eI (tI .u8) more g_more, gE0] w := hS
 generalize hX : fpl [eI (tI .u8) more g_more, gE0] = X at hS0 ⊢
 clear hS hX
 have hS := hS0
 clear hS0
 refine calls_entryP Tryz.func79 rfl Tryz.ntmps79 rfl fun _ H => ?_
 apply w_seq
 apply wl_start
 have hd := hS.hand [] [0, 1] rfl rfl
 refine m_stp [8, 0, 1, 3, 4, 5] (fS [0, 1, 3, 4, 5] [vS name_, vB inherited, vS all_, vB least, vL g_more more]) H rfl rfl rfl rfl (o_box (cV first) H hd rfl rfl) (fun _ => rfl) fun _ _ v H3 hq => ?_
 clear H hd
 obtain ⟨b1, rfl, hq⟩ := hq
 replace hS : SH M X w [eB b1 (cV first), eI (tI .u8) more g_more, gE0] _ := hS.join [] [0, 1] rfl rfl hq
 clear hq
 have hd := hS.hand [] [0, 1, 2] rfl rfl
 refine m_stp [12, 0, 1, 3, 4, 5, 8] (fS [0, 1, 3, 4, 5, 8] [vS name_, vB inherited, vS all_, vB least, vL g_more more, vP b1]) H3 rfl rfl rfl rfl (o_alloc [vN, vF, vU 0, vN, vI 0, vU 0, vU 0, vU 0, vU 0, vO, vO, vF] (z := vG [vN, vF, vU 0, vN, vI 0, vU 0, vU 0, vU 0, vU 0, vO, vO, vF]) hd (by kernel_rfl) rfl) (fun _ => rfl) fun _ _ v H6 hq => ?_
 clear H3 hd
 obtain ⟨b4, rfl, hq⟩ := hq
 replace hS : SH M X w [eB b4 [vN, vF, vU 0, vN, vI 0, vU 0, vU 0, vU 0, vU 0, vO, vO, vF], eB b1 (cV first), eI (tI .u8) more g_more, gE0] _ := hS.join [] [0, 1, 2] rfl rfl hq
 clear hq
 apply wl_end rfl
 obtain ⟨y8, hy8, hm⟩ := bindE hm
 obtain ⟨ho13, hm⟩ := chkE hm
 obtain ⟨q14, hq14, hm⟩ := letE hm
 refine s_drawS (base := (fS [0, 1, 3, 4, 5, 8, 12] [vS name_, vB inherited, vS all_, vB least, vL g_more more, vP b1, vP b4])) (L := [eB b4 [vN, vF, vU 0, vN, vI 0, vU 0, vU 0, vU 0, vU 0, vO, vO, vF], eB b1 (cV first), eI (tI .u8) more g_more, gE0]) 11 4 (fun yg7 => [vS name_, vB inherited, vG (cV first), vS all_, .slice (yg7 4 0).a y8.length (yg7 4 0).c, vK (yg7 5 0) 3, vL g_more more, .slice (yg7 7 0).a q14.length (yg7 7 0).c, vB least, vG [vS name_, vB inherited, vU first.Kind, vS first.Word, vI first.Num, vU first.Color.Red, vU first.Color.Green, vU first.Color.Blue, vU first.Color.Alpha, .slice (yg7 4 0).a y8.length (yg7 4 0).c, .slice (yg7 7 0).a q14.length (yg7 7 0).c, vB least], undef]) (fun yg7 => [[], [], [], [], [eO 9 tS y8 (yg7 4 0)], [eO 5 (tI .u8) kL1 (yg7 5 0)], [], [eO 5 (tI .u8) q14 (yg7 7 0)], [], [], [eB b4 [vS name_, vB inherited, vU first.Kind, vS first.Word, vI first.Num, vU first.Color.Red, vU first.Color.Green, vU first.Color.Blue, vU first.Color.Alpha, .slice (yg7 4 0).a y8.length (yg7 4 0).c, .slice (yg7 7 0).a q14.length (yg7 7 0).c, vB least]]]) [[], [], [12], [], [14], [], [], [5, 13], [], [4, 7], [4, 7, 11]] [[], [], [], [], [], [], [], [5], [], [], [11]] [[0], [1], [2], [3], [3, 4], [5], [6], [5, 6, 7], [8], [0, 1, 2, 3, 4, 5, 6, 7, 8, 9], [0, 1, 2, 3, 4, 5, 6, 7, 8, 9, 10]] [] (FrG.keep (ks := [0, 1, 3, 4, 5, 8, 12]) H6 (by kernel_rfl)) (fun _ _ h => by cases h) (by kernel_rfl) hS (by kernel_rfl) rfl rfl (by kernel_rfl) (by kernel_rfl) (by kernel_rfl) (gd_none (by kernel_rfl) _ _) ?hloc_yg7 ?hstep_yg7 fun _ _ yg7 H17 hv hS => ?hK_yg7
 case hloc_yg7 => exact ⟨(fun _ _ _ _ => ⟨rfl, rfl⟩), (fun _ _ _ _ => ⟨rfl, rfl⟩), (fun _ _ _ _ => ⟨rfl, rfl⟩), (fun _ _ _ _ => ⟨rfl, rfl⟩), (fun _ i g hi => lcG [4] (fun yg7 => (.slice (yg7 4 0).a y8.length (yg7 4 0).c, [eO 9 tS y8 (yg7 4 0)])) hi rfl), (fun _ i g hi => lcG [5] (fun yg7 => (vK (yg7 5 0) 3, [eO 5 (tI .u8) kL1 (yg7 5 0)])) hi rfl), (fun _ _ _ _ => ⟨rfl, rfl⟩), (fun _ i g hi => lcG [7] (fun yg7 => (.slice (yg7 7 0).a q14.length (yg7 7 0).c, [eO 5 (tI .u8) q14 (yg7 7 0)])) hi rfl), (fun _ _ _ _ => ⟨rfl, rfl⟩), (fun _ i g hi => lcG [4, 7] (fun yg7 => (vG [vS name_, vB inherited, vU first.Kind, vS first.Word, vI first.Num, vU first.Color.Red, vU first.Color.Green, vU first.Color.Blue, vU first.Color.Alpha, .slice (yg7 4 0).a y8.length (yg7 4 0).c, .slice (yg7 7 0).a q14.length (yg7 7 0).c, vB least], [])) hi rfl), (fun _ i g hi => lcG [4, 7] (fun yg7 => (undef, [eB b4 [vS name_, vB inherited, vU first.Kind, vS first.Word, vI first.Num, vU first.Color.Red, vU first.Color.Green, vU first.Color.Blue, vU first.Color.Alpha, .slice (yg7 4 0).a y8.length (yg7 4 0).c, .slice (yg7 7 0).a q14.length (yg7 7 0).c, vB least]])) hi rfl), trivial⟩
 case hstep_yg7 =>
  refine ⟨?_, ?_, ?_, ?_, ?_, ?_, ?_, ?_, ?_, ?_, ?_, trivial⟩
  ·intro o ho a w yg7 M Hb hv hO hS
   obtain rfl := someE ho
   exact Stp.mono (o_evs [] (vS name_) none [] Hb rfl (by kernel_rfl) (fun q e => by cases e)) fun _ _ hq => ⟨gL [], fun _ _ => hq.1, (hS.below hq.2.below).sel [] rfl⟩
  ·intro o ho a w yg7 M Hb hv hO hS
   obtain rfl := someE ho
   exact Stp.mono (o_evs [] (vB inherited) none [] Hb rfl (by kernel_rfl) (fun q e => by cases e)) fun _ _ hq => ⟨gL [], fun _ _ => hq.1, (hS.below hq.2.below).sel [] rfl⟩
  ·intro o ho a w yg7 M Hb hv hO hS
   obtain rfl := someE ho
   exact Stp.mono (o_evs [(vG (cV first))] (vG (cV first)) (some (rN b1 0 (cV first))) [] Hb rfl (by kernel_rfl) (fun q e => by cases e; exact ((hS.bk 0 rfl).atD rfl))) fun _ _ hq => ⟨gL [], fun _ _ => hq.1, (hS.below hq.2.below).sel [0] rfl⟩
  ·intro o ho a w yg7 M Hb hv hO hS
   obtain rfl := someE ho
   exact Stp.mono (o_evs [] (vS all_) none [] Hb rfl (by kernel_rfl) (fun q e => by cases e)) fun _ _ hq => ⟨gL [], fun _ _ => hq.1, (hS.below hq.2.below).sel [] rfl⟩
  ·intro o ho a w yg7 M Hb hv hO hS0
   obtain rfl := someE ho
   have H : Fr 23 ([(16, [], vS all_)] ++ (fS [0, 1, 3, 4, 5, 8, 12] [vS name_, vB inherited, vS all_, vB least, vL g_more more, vP b1, vP b4])) _ := (Hb).add (hv 3 (by decide) (by decide) 16 rfl)
   obtain ⟨X, hX⟩ : ∃ X, X = fpl [gE0] := ⟨_, rfl⟩
   have hS : SH M X w [gE0] w := by rw [hX]; exact hS0
   have hd := hS.hand [0] [0] rfl rfl
   refine Stp.mono (o_callx H rfl rfl (strings_Fields_ok m _ _ hy8 _ _ hd)) ?_
   rintro v w2 hq
   obtain ⟨g9, rfl, hq⟩ := hq
   replace hS : SH M X w [eO 9 tS y8 g9, gE0] _ := hS.join [0] [0] rfl rfl hq
   clear hq
   rw [hX] at hS
   exact ⟨gL [g9], fun _ _ => rfl, hS.sel [0, 1] rfl⟩
  ·intro o ho a w yg7 M Hb hv hO hS0
   obtain rfl := someE ho
   have H : Fr 23 ([] ++ (fS [0, 1, 3, 4, 5, 8, 12] [vS name_, vB inherited, vS all_, vB least, vL g_more more, vP b1, vP b4])) _ := Hb
   obtain ⟨X, hX⟩ : ∃ X, X = fpl [] := ⟨_, rfl⟩
   have hS : SH M X w [] w := by rw [hX]; exact hS0
   have hd := hS.hand [] [] rfl rfl
   refine Stp.mono (o_lit (T := (tI .u8)) (E := 5) (zv := vU 0) [vU 2, vU 3, vU 4] kL1 [gL [], gL [], gL []] _ H hd rfl (by kernel_rfl) (by kernel_rfl) (by kernel_rfl) (by kernel_rfl) (by kernel_rfl) (by kernel_rfl) (by kernel_rfl) rfl (InnL.cons trivial (InnL.cons trivial (InnL.cons trivial InnL.nil)))) ?_
   rintro v w2 hq
   obtain ⟨g11, rfl, hq⟩ := hq
   replace hS : SH M X w [eO 5 (tI .u8) kL1 g11] _ := hS.join [] [] rfl rfl hq
   clear hq
   rw [hX] at hS
   exact ⟨gL [g11], fun _ _ => rfl, hS.sel [0] rfl⟩
  ·intro o ho a w yg7 M Hb hv hO hS
   obtain rfl := someE ho
   exact Stp.mono (o_evs [] (vL g_more more) none [] Hb rfl (by kernel_rfl) (fun q e => by cases e)) fun _ _ hq => ⟨gL [], fun _ _ => hq.1, (hS.below hq.2.below).sel [] rfl⟩
  ·intro o ho a w yg7 M Hb hv hO hS0
   obtain rfl := someE ho
   have H : Fr 23 ((fS [19, 18] [vL g_more more, vK (yg7 5 0) 3]) ++ (fS [0, 1, 3, 4, 5, 8, 12] [vS name_, vB inherited, vS all_, vB least, vL g_more more, vP b1, vP b4])) _ := ((Hb).add (hv 5 (by decide) (by decide) 18 rfl)).add (hv 6 (by decide) (by decide) 19 rfl)
   obtain ⟨X, hX⟩ : ∃ X, X = fpl [eO 5 (tI .u8) kL1 (yg7 5 0), eI (tI .u8) more g_more] := ⟨_, rfl⟩
   have hS : SH M X w [eO 5 (tI .u8) kL1 (yg7 5 0), eI (tI .u8) more g_more] w := by rw [hX]; exact hS0
   have hd := hS.hand [0, 1] [1] rfl rfl
   refine Stp.mono (o_app (T := (tI .u8)) (zv := vU 0) (g1 := (yg7 5 0)) (g2 := g_more) (l1 := kL1) (l2 := more) q14 hq14.symm H hd rfl rfl rfl rfl rfl rfl rfl (by kernel_rfl) (by kernel_rfl) rfl rfl ho13) ?_
   rintro v w2 hq
   obtain ⟨g15, rfl, hq⟩ := hq
   replace hS : SH M X w [eO 5 (tI .u8) q14 g15, eI (tI .u8) more g_more] _ := hS.join [0, 1] [1] rfl rfl hq
   clear hq
   rw [hX] at hS
   exact ⟨gL [g15], fun _ _ => rfl, hS.sel [0, 1] rfl⟩
  ·intro o ho a w yg7 M Hb hv hO hS
   obtain rfl := someE ho
   exact Stp.mono (o_evs [] (vB least) none [] Hb rfl (by kernel_rfl) (fun q e => by cases e)) fun _ _ hq => ⟨gL [], fun _ _ => hq.1, (hS.below hq.2.below).sel [] rfl⟩
  ·intro o ho a w yg7 M Hb hv hO hS
   obtain rfl := someE ho
   exact Stp.mono (o_evs [] (vG [vS name_, vB inherited, vU first.Kind, vS first.Word, vI first.Num, vU first.Color.Red, vU first.Color.Green, vU first.Color.Blue, vU first.Color.Alpha, .slice (yg7 4 0).a y8.length (yg7 4 0).c, .slice (yg7 7 0).a q14.length (yg7 7 0).c, vB least]) none [] (((((((Hb).add (hv 0 (by decide) (by decide) 13 rfl)).add (hv 1 (by decide) (by decide) 14 rfl)).add (hv 2 (by decide) (by decide) 15 rfl)).add (hv 4 (by decide) (by decide) 17 rfl)).add (hv 7 (by decide) (by decide) 20 rfl)).add (hv 8 (by decide) (by decide) 21 rfl)) rfl (by kernel_rfl) (fun q e => by cases e)) fun _ _ hq => ⟨gL [], fun _ _ => hq.1, (hS.below hq.2.below).sel [0, 1] rfl⟩
  ·intro o ho a w yg7 M Hb hv hO hS0
   obtain rfl := someE ho
   have H : Fr 23 ([(22, [], vG [vS name_, vB inherited, vU first.Kind, vS first.Word, vI first.Num, vU first.Color.Red, vU first.Color.Green, vU first.Color.Blue, vU first.Color.Alpha, .slice (yg7 4 0).a y8.length (yg7 4 0).c, .slice (yg7 7 0).a q14.length (yg7 7 0).c, vB least])] ++ (fS [0, 1, 3, 4, 5, 8, 12] [vS name_, vB inherited, vS all_, vB least, vL g_more more, vP b1, vP b4])) _ := (Hb).add (hv 9 (by decide) (by decide) 22 rfl)
   obtain ⟨X, hX⟩ : ∃ X, X = fpl [eO 9 tS y8 (yg7 4 0), eO 5 (tI .u8) q14 (yg7 7 0), eB b4 [vN, vF, vU 0, vN, vI 0, vU 0, vU 0, vU 0, vU 0, vO, vO, vF]] := ⟨_, rfl⟩
   have hS : SH M X w [eO 9 tS y8 (yg7 4 0), eO 5 (tI .u8) q14 (yg7 7 0), eB b4 [vN, vF, vU 0, vN, vI 0, vU 0, vU 0, vU 0, vU 0, vO, vO, vF]] w := by rw [hX]; exact hS0
   have hd := hS.hand [2] [0, 1] rfl rfl
   refine Stp.mono (o_store [vS name_, vB inherited, vU first.Kind, vS first.Word, vI first.Num, vU first.Color.Red, vU first.Color.Green, vU first.Color.Blue, vU first.Color.Alpha, .slice (yg7 4 0).a y8.length (yg7 4 0).c, .slice (yg7 7 0).a q14.length (yg7 7 0).c, vB least] H hd rfl rfl (by kernel_rfl) rfl rfl rfl) ?_
   rintro v w2 hq
   replace hS : SH M X w [eB b4 [vS name_, vB inherited, vU first.Kind, vS first.Word, vI first.Num, vU first.Color.Red, vU first.Color.Green, vU first.Color.Blue, vU first.Color.Alpha, .slice (yg7 4 0).a y8.length (yg7 4 0).c, .slice (yg7 7 0).a q14.length (yg7 7 0).c, vB least], eO 9 tS y8 (yg7 4 0), eO 5 (tI .u8) q14 (yg7 7 0)] _ := hS.join [2] [0, 1] rfl rfl hq
   clear hq
   rw [hX] at hS
   exact ⟨gL [], (fun _ h => by cases h), hS.sel [0, 1, 2] rfl⟩
 have H18 : Fr 23 [(12, [], vP b4)] _ := (FrG.keep (ks := [12]) H17 (by kernel_rfl))
 replace hS : SH M X w [eO 9 tS y8 (yg7 4 0), eO 5 (tI .u8) q14 (yg7 7 0), eB b4 [vS name_, vB inherited, vU first.Kind, vS first.Word, vI first.Num, vU first.Color.Red, vU first.Color.Green, vU first.Color.Blue, vU first.Color.Alpha, .slice (yg7 4 0).a y8.length (yg7 4 0).c, .slice (yg7 7 0).a q14.length (yg7 7 0).c, vB least], eB b1 (cV first), eI (tI .u8) more g_more, gE0] _ := hS
 clear hv H17
 generalize yg7 4 0 = g19 at H18 hS
 generalize yg7 7 0 = g20 at H18 hS
 replace hS : SH M X w [eO 9 tS y8 g19, eO 5 (tI .u8) q14 g20, eB b4 [vS name_, vB inherited, vU first.Kind, vS first.Word, vI first.Num, vU first.Color.Red, vU first.Color.Green, vU first.Color.Blue, vU first.Color.Alpha, vL g19 y8, vL g20 q14, vB least], gE0] _ := hS.sel [0, 1, 2, 5] rfl
 apply w_ret
 obtain rfl := someE hm
 exact retR1 H18 rfl (oneRes_agg rfl (hS.bk 2 rfl) Tryz.underlying100 rfl (by kernel_rfl)) ⟨_, rfl, g19, g20, rfl, (hS.sel [0, 1] rfl)⟩
theorem props_length_ok {g_more : Gh} (m : Nat) (name_ : Str) (inherited : Bool) (first : TVal) (all_ : Str) (least : Bool) (more : List Int) (r : TProp) (hm : props_length m name_ inherited first all_ least more = some r) (M : Av) (w : World) (hS : S0 M [eI (tI .u8) more g_more, gE0] w) : DoesX Tryz.prog 79 ⟨[vS name_, vB inherited, vG (cV first), vS all_, vB least, vL g_more more]⟩ w (fun v w' => ∃ (g901 : Gh) (g903 : Gh), v = vG [vS r.Name, vB r.Inherited, vU r.Initial.Kind, vS r.Initial.Word, vI r.Initial.Num, vU r.Initial.Color.Red, vU r.Initial.Color.Green, vU r.Initial.Color.Blue, vU r.Initial.Color.Alpha, vL g901 r.Words, vL g903 r.Kinds, vB r.Least] ∧ SH M (fpl [eI (tI .u8) more g_more, gE0]) w [eO 9 tS r.Words g901, eO 5 (tI .u8) r.Kinds g903] w') := ⟨Tryz.call79 _, props_length_w M m   name_ inherited first all_ least more r hm w hS⟩

theorem props_Table_w  (M : Av) (m : Nat)  (r : List TProp) (hm : props_Table m = some r) (w : World) (hS : S0 M [gE0] w) : Calls Tryz.prog 54 ⟨[]⟩ w (fun e w' => ∃ v, e = .returned v ∧ ∃ (g901 : Gh), v = vL g901 r ∧ SH M (fpl [gE0]) w [eO 100 tyProp r g901] w') := by
 rw [props_Table] at hm
 have hS0 : SH M (fpl [gE0]) w [gE0] w := hS
 generalize hX : fpl [gE0] = X at hS0 ⊢
 clear hS hX
 have hS := hS0
 clear hS0
 refine calls_entryP Tryz.func54 rfl Tryz.ntmps54 rfl fun _ H => ?_
 refine s_reg [] [] [] [] H (by kernel_rfl) trivial fun _ _ H2 hb => ?_
 replace hS := hS.below hb
 clear H hb
 apply w_seq
 apply wl_start
 obtain ⟨y3, hy3, hm⟩ := letE hm
 refine wl_batch 0 2 [(vG (cV y3))] [6, 7] (fS [6, 7] [vG (cV y3), vG [vU 2, vN, vI 0, vU 0, vU 0, vU 0, vU 0]]) [rB 76 [vS [97, 117, 116, 111]] (vG (cV y3))] H2 (by decide) (by subst hy3; kernel_rfl) ⟨((by rw [hy3]; exact (props_word_ok _).b)), trivial⟩ fun _ _ H5 hb => ?_
 replace hS := hS.below hb
 clear H2 hb
 have hd := hS.hand [] [0] rfl rfl
 refine m_stp [1, 6, 7] (fS [6, 7] [vG (cV y3), vG [vU 2, vN, vI 0, vU 0, vU 0, vU 0, vU 0]]) H5 rfl rfl rfl rfl (o_alloc [vU 0, vN, vI 0, vU 0, vU 0, vU 0, vU 0] (z := vG [vU 0, vN, vI 0, vU 0, vU 0, vU 0, vU 0]) hd (by kernel_rfl) rfl) (fun _ => rfl) fun _ _ v H8 hq => ?_
 clear H5 hd
 obtain ⟨b6, rfl, hq⟩ := hq
 replace hS : SH M X w [eB b6 [vU 0, vN, vI 0, vU 0, vU 0, vU 0, vU 0], gE0] _ := hS.join [] [0] rfl rfl hq
 clear hq
 have hd := hS.hand [] [0, 1] rfl rfl
 refine m_stp [2, 1, 6, 7] (fS [1, 6, 7] [vP b6, vG (cV y3), vG [vU 2, vN, vI 0, vU 0, vU 0, vU 0, vU 0]]) H8 rfl rfl rfl rfl (o_alloc [vU 0, vN, vI 0, vU 0, vU 0, vU 0, vU 0] (z := vG [vU 0, vN, vI 0, vU 0, vU 0, vU 0, vU 0]) hd (by kernel_rfl) rfl) (fun _ => rfl) fun _ _ v H11 hq => ?_
 clear H8 hd
 obtain ⟨b9, rfl, hq⟩ := hq
 replace hS : SH M X w [eB b9 [vU 0, vN, vI 0, vU 0, vU 0, vU 0, vU 0], eB b6 [vU 0, vN, vI 0, vU 0, vU 0, vU 0, vU 0], gE0] _ := hS.join [] [0, 1] rfl rfl hq
 clear hq
 have hd := hS.hand [1] [0, 2] rfl rfl
 refine m_stp0 [1, 2, 7] (fS [1, 2, 7] [vP b6, vP b9, vG [vU 2, vN, vI 0, vU 0, vU 0, vU 0, vU 0]]) H11 rfl rfl rfl (o_store (cV y3) H11 hd rfl rfl (by kernel_rfl) rfl rfl rfl) rfl fun _ _ H13 hq => ?_
 clear H11 hd
 obtain ⟨_, hq⟩ := hq
 replace hS : SH M X w [eB b6 (cV y3), eB b9 [vU 0, vN, vI 0, vU 0, vU 0, vU 0, vU 0], gE0] _ := hS.join [1] [0, 2] rfl rfl hq
 clear hq
 have hd := hS.hand [1] [0, 2] rfl rfl
 refine m_stp0 [1, 2] (fS [1, 2] [vP b6, vP b9]) H13 rfl rfl rfl (o_store [vU 2, vN, vI 0, vU 0, vU 0, vU 0, vU 0] H13 hd rfl rfl (by kernel_rfl) rfl rfl rfl) rfl fun _ _ H15 hq => ?_
 clear H13 hd
 obtain ⟨_, hq⟩ := hq
 replace hS : SH M X w [eB b9 [vU 2, vN, vI 0, vU 0, vU 0, vU 0, vU 0], eB b6 (cV y3), gE0] _ := hS.join [1] [0, 2] rfl rfl hq
 clear hq
 apply wl_end rfl
 obtain ⟨y17, hy17, hm⟩ := letE hm
 obtain ⟨y22, hy22, hm⟩ := letE hm
 obtain ⟨y27, hy27, hm⟩ := letE hm
 obtain ⟨y32, hy32, hm⟩ := letE hm
 obtain ⟨y37, hy37, hm⟩ := bindE hm
 obtain ⟨y42, hy42, hm⟩ := bindE hm
 obtain ⟨y48, hy48, hm⟩ := bindE hm
 obtain ⟨y54, hy54, hm⟩ := bindE hm
 refine s_drawS (base := (fS [1, 2] [vP b6, vP b9])) (L := [eB b9 [vU 2, vN, vI 0, vU 0, vU 0, vU 0, vU 0], eB b6 (cV y3), gE0]) 17 3 (fun yg16 => [vG [vU 0, vU 0, vU 0, vU 255], vG [vU 7, vN, vI 0, vU 0, vU 0, vU 0, vU 255], vG [vS y17.Name, vB y17.Inherited, vU y17.Initial.Kind, vS y17.Initial.Word, vI y17.Initial.Num, vU y17.Initial.Color.Red, vU y17.Initial.Color.Green, vU y17.Initial.Color.Blue, vU y17.Initial.Color.Alpha, .slice (yg16 2 0).a y17.Words.length (yg16 2 0).c, .slice (yg16 2 1).a y17.Kinds.length (yg16 2 1).c, vB y17.Least], vG [vU 7, vN, vI 0, vU 0, vU 0, vU 0, vU 0], vG [vS y22.Name, vB y22.Inherited, vU y22.Initial.Kind, vS y22.Initial.Word, vI y22.Initial.Num, vU y22.Initial.Color.Red, vU y22.Initial.Color.Green, vU y22.Initial.Color.Blue, vU y22.Initial.Color.Alpha, .slice (yg16 4 0).a y22.Words.length (yg16 4 0).c, .slice (yg16 4 1).a y22.Kinds.length (yg16 4 1).c, vB y22.Least], vG [vU 8, vN, vI 0, vU 0, vU 0, vU 0, vU 0], vG [vS y27.Name, vB y27.Inherited, vU y27.Initial.Kind, vS y27.Initial.Word, vI y27.Initial.Num, vU y27.Initial.Color.Red, vU y27.Initial.Color.Green, vU y27.Initial.Color.Blue, vU y27.Initial.Color.Alpha, .slice (yg16 6 0).a y27.Words.length (yg16 6 0).c, .slice (yg16 6 1).a y27.Kinds.length (yg16 6 1).c, vB y27.Least], vG [vU 8, vN, vI 0, vU 0, vU 0, vU 0, vU 0], vG [vS y32.Name, vB y32.Inherited, vU y32.Initial.Kind, vS y32.Initial.Word, vI y32.Initial.Num, vU y32.Initial.Color.Red, vU y32.Initial.Color.Green, vU y32.Initial.Color.Blue, vU y32.Initial.Color.Alpha, .slice (yg16 8 0).a y32.Words.length (yg16 8 0).c, .slice (yg16 8 1).a y32.Kinds.length (yg16 8 1).c, vB y32.Least], vG [vS y37.Name, vB y37.Inherited, vU y37.Initial.Kind, vS y37.Initial.Word, vI y37.Initial.Num, vU y37.Initial.Color.Red, vU y37.Initial.Color.Green, vU y37.Initial.Color.Blue, vU y37.Initial.Color.Alpha, .slice (yg16 9 0).a y37.Words.length (yg16 9 0).c, .slice (yg16 9 1).a y37.Kinds.length (yg16 9 1).c, vB y37.Least], vG [vS y42.Name, vB y42.Inherited, vU y42.Initial.Kind, vS y42.Initial.Word, vI y42.Initial.Num, vU y42.Initial.Color.Red, vU y42.Initial.Color.Green, vU y42.Initial.Color.Blue, vU y42.Initial.Color.Alpha, .slice (yg16 10 0).a y42.Words.length (yg16 10 0).c, .slice (yg16 10 1).a y42.Kinds.length (yg16 10 1).c, vB y42.Least], vG (cV y3), vG [vS y48.Name, vB y48.Inherited, vU y48.Initial.Kind, vS y48.Initial.Word, vI y48.Initial.Num, vU y48.Initial.Color.Red, vU y48.Initial.Color.Green, vU y48.Initial.Color.Blue, vU y48.Initial.Color.Alpha, .slice (yg16 12 0).a y48.Words.length (yg16 12 0).c, .slice (yg16 12 1).a y48.Kinds.length (yg16 12 1).c, vB y48.Least], vG (cV y3), vG [vS y54.Name, vB y54.Inherited, vU y54.Initial.Kind, vS y54.Initial.Word, vI y54.Initial.Num, vU y54.Initial.Color.Red, vU y54.Initial.Color.Green, vU y54.Initial.Color.Blue, vU y54.Initial.Color.Alpha, .slice (yg16 14 0).a y54.Words.length (yg16 14 0).c, .slice (yg16 14 1).a y54.Kinds.length (yg16 14 1).c, vB y54.Least], vK (yg16 15 0) 8, vK (yg16 15 0) 8]) (fun yg16 => [[], [], [eO 9 tS y17.Words (yg16 2 0), eO 5 (tI .u8) y17.Kinds (yg16 2 1)], [], [eO 9 tS y22.Words (yg16 4 0), eO 5 (tI .u8) y22.Kinds (yg16 4 1)], [], [eO 9 tS y27.Words (yg16 6 0), eO 5 (tI .u8) y27.Kinds (yg16 6 1)], [], [eO 9 tS y32.Words (yg16 8 0), eO 5 (tI .u8) y32.Kinds (yg16 8 1)], [eO 9 tS y37.Words (yg16 9 0), eO 5 (tI .u8) y37.Kinds (yg16 9 1)], [eO 9 tS y42.Words (yg16 10 0), eO 5 (tI .u8) y42.Kinds (yg16 10 1)], [], [eO 9 tS y48.Words (yg16 12 0), eO 5 (tI .u8) y48.Kinds (yg16 12 1), eI (tI .u8) ([] : List Int) (.nil)], [], [eO 9 tS y54.Words (yg16 14 0), eO 5 (tI .u8) y54.Kinds (yg16 14 1), eI (tI .u8) ([] : List Int) (.nil)], [eO 100 tyProp ([y17, y22, y27, y32, y37, y42, y48, y54] : List TProp) (yg16 15 0), eI (tI .u8) y54.Kinds (yg16 14 1), eI tS y54.Words (yg16 14 0), eI (tI .u8) y48.Kinds (yg16 12 1), eI tS y48.Words (yg16 12 0), eI (tI .u8) y42.Kinds (yg16 10 1), eI tS y42.Words (yg16 10 0), eI (tI .u8) y37.Kinds (yg16 9 1), eI tS y37.Words (yg16 9 0), eI (tI .u8) y32.Kinds (yg16 8 1), eI tS y32.Words (yg16 8 0), eI (tI .u8) y27.Kinds (yg16 6 1), eI tS y27.Words (yg16 6 0), eI (tI .u8) y22.Kinds (yg16 4 1), eI tS y22.Words (yg16 4 0), eI (tI .u8) y17.Kinds (yg16 2 1), eI tS y17.Words (yg16 2 0), eI (tI .u8) ([] : List Int) (.nil), eI (tI .u8) ([] : List Int) (.nil)], []]) [[], [], [], [], [], [], [], [], [], [19], [19], [18], [19], [18], [19], [2, 4, 6, 8, 9, 10, 12, 14], [15]] [[], [], [], [], [], [], [], [], [], [], [], [], [], [], [], [2, 4, 6, 8, 9, 10, 12, 14], []] [[0], [0, 1], [0, 1, 2], [3], [3, 4], [5], [5, 6], [7], [7, 8], [9], [10], [11], [11, 12], [13], [13, 14], [0, 1, 2, 3, 4, 5, 6, 7, 8, 9, 10, 11, 12, 13, 14, 15], [0, 1, 2, 3, 4, 5, 6, 7, 8, 9, 10, 11, 12, 13, 14, 15, 16]] [] (FrG.keep (ks := [1, 2]) H15 (by kernel_rfl)) (fun _ _ h => by cases h) (by kernel_rfl) hS (by kernel_rfl) rfl rfl (by kernel_rfl) (by kernel_rfl) (by kernel_rfl) (gd_none (by kernel_rfl) _ _) ?hloc_yg16 ?hstep_yg16 fun _ _ yg16 H62 hv hS => ?hK_yg16
 case hloc_yg16 => exact ⟨(fun _ _ _ _ => ⟨rfl, rfl⟩), (fun _ _ _ _ => ⟨rfl, rfl⟩), (fun _ i g hi => lcG [2] (fun yg16 => (vG [vS y17.Name, vB y17.Inherited, vU y17.Initial.Kind, vS y17.Initial.Word, vI y17.Initial.Num, vU y17.Initial.Color.Red, vU y17.Initial.Color.Green, vU y17.Initial.Color.Blue, vU y17.Initial.Color.Alpha, .slice (yg16 2 0).a y17.Words.length (yg16 2 0).c, .slice (yg16 2 1).a y17.Kinds.length (yg16 2 1).c, vB y17.Least], [eO 9 tS y17.Words (yg16 2 0), eO 5 (tI .u8) y17.Kinds (yg16 2 1)])) hi rfl), (fun _ _ _ _ => ⟨rfl, rfl⟩), (fun _ i g hi => lcG [4] (fun yg16 => (vG [vS y22.Name, vB y22.Inherited, vU y22.Initial.Kind, vS y22.Initial.Word, vI y22.Initial.Num, vU y22.Initial.Color.Red, vU y22.Initial.Color.Green, vU y22.Initial.Color.Blue, vU y22.Initial.Color.Alpha, .slice (yg16 4 0).a y22.Words.length (yg16 4 0).c, .slice (yg16 4 1).a y22.Kinds.length (yg16 4 1).c, vB y22.Least], [eO 9 tS y22.Words (yg16 4 0), eO 5 (tI .u8) y22.Kinds (yg16 4 1)])) hi rfl), (fun _ _ _ _ => ⟨rfl, rfl⟩), (fun _ i g hi => lcG [6] (fun yg16 => (vG [vS y27.Name, vB y27.Inherited, vU y27.Initial.Kind, vS y27.Initial.Word, vI y27.Initial.Num, vU y27.Initial.Color.Red, vU y27.Initial.Color.Green, vU y27.Initial.Color.Blue, vU y27.Initial.Color.Alpha, .slice (yg16 6 0).a y27.Words.length (yg16 6 0).c, .slice (yg16 6 1).a y27.Kinds.length (yg16 6 1).c, vB y27.Least], [eO 9 tS y27.Words (yg16 6 0), eO 5 (tI .u8) y27.Kinds (yg16 6 1)])) hi rfl), (fun _ _ _ _ => ⟨rfl, rfl⟩), (fun _ i g hi => lcG [8] (fun yg16 => (vG [vS y32.Name, vB y32.Inherited, vU y32.Initial.Kind, vS y32.Initial.Word, vI y32.Initial.Num, vU y32.Initial.Color.Red, vU y32.Initial.Color.Green, vU y32.Initial.Color.Blue, vU y32.Initial.Color.Alpha, .slice (yg16 8 0).a y32.Words.length (yg16 8 0).c, .slice (yg16 8 1).a y32.Kinds.length (yg16 8 1).c, vB y32.Least], [eO 9 tS y32.Words (yg16 8 0), eO 5 (tI .u8) y32.Kinds (yg16 8 1)])) hi rfl), (fun _ i g hi => lcG [9] (fun yg16 => (vG [vS y37.Name, vB y37.Inherited, vU y37.Initial.Kind, vS y37.Initial.Word, vI y37.Initial.Num, vU y37.Initial.Color.Red, vU y37.Initial.Color.Green, vU y37.Initial.Color.Blue, vU y37.Initial.Color.Alpha, .slice (yg16 9 0).a y37.Words.length (yg16 9 0).c, .slice (yg16 9 1).a y37.Kinds.length (yg16 9 1).c, vB y37.Least], [eO 9 tS y37.Words (yg16 9 0), eO 5 (tI .u8) y37.Kinds (yg16 9 1)])) hi rfl), (fun _ i g hi => lcG [10] (fun yg16 => (vG [vS y42.Name, vB y42.Inherited, vU y42.Initial.Kind, vS y42.Initial.Word, vI y42.Initial.Num, vU y42.Initial.Color.Red, vU y42.Initial.Color.Green, vU y42.Initial.Color.Blue, vU y42.Initial.Color.Alpha, .slice (yg16 10 0).a y42.Words.length (yg16 10 0).c, .slice (yg16 10 1).a y42.Kinds.length (yg16 10 1).c, vB y42.Least], [eO 9 tS y42.Words (yg16 10 0), eO 5 (tI .u8) y42.Kinds (yg16 10 1)])) hi rfl), (fun _ _ _ _ => ⟨rfl, rfl⟩), (fun _ i g hi => lcG [12] (fun yg16 => (vG [vS y48.Name, vB y48.Inherited, vU y48.Initial.Kind, vS y48.Initial.Word, vI y48.Initial.Num, vU y48.Initial.Color.Red, vU y48.Initial.Color.Green, vU y48.Initial.Color.Blue, vU y48.Initial.Color.Alpha, .slice (yg16 12 0).a y48.Words.length (yg16 12 0).c, .slice (yg16 12 1).a y48.Kinds.length (yg16 12 1).c, vB y48.Least], [eO 9 tS y48.Words (yg16 12 0), eO 5 (tI .u8) y48.Kinds (yg16 12 1), eI (tI .u8) ([] : List Int) (.nil)])) hi rfl), (fun _ _ _ _ => ⟨rfl, rfl⟩), (fun _ i g hi => lcG [14] (fun yg16 => (vG [vS y54.Name, vB y54.Inherited, vU y54.Initial.Kind, vS y54.Initial.Word, vI y54.Initial.Num, vU y54.Initial.Color.Red, vU y54.Initial.Color.Green, vU y54.Initial.Color.Blue, vU y54.Initial.Color.Alpha, .slice (yg16 14 0).a y54.Words.length (yg16 14 0).c, .slice (yg16 14 1).a y54.Kinds.length (yg16 14 1).c, vB y54.Least], [eO 9 tS y54.Words (yg16 14 0), eO 5 (tI .u8) y54.Kinds (yg16 14 1), eI (tI .u8) ([] : List Int) (.nil)])) hi rfl), (fun _ i g hi => lcG [2, 4, 6, 8, 9, 10, 12, 14, 15] (fun yg16 => (vK (yg16 15 0) 8, [eO 100 tyProp ([y17, y22, y27, y32, y37, y42, y48, y54] : List TProp) (yg16 15 0), eI (tI .u8) y54.Kinds (yg16 14 1), eI tS y54.Words (yg16 14 0), eI (tI .u8) y48.Kinds (yg16 12 1), eI tS y48.Words (yg16 12 0), eI (tI .u8) y42.Kinds (yg16 10 1), eI tS y42.Words (yg16 10 0), eI (tI .u8) y37.Kinds (yg16 9 1), eI tS y37.Words (yg16 9 0), eI (tI .u8) y32.Kinds (yg16 8 1), eI tS y32.Words (yg16 8 0), eI (tI .u8) y27.Kinds (yg16 6 1), eI tS y27.Words (yg16 6 0), eI (tI .u8) y22.Kinds (yg16 4 1), eI tS y22.Words (yg16 4 0), eI (tI .u8) y17.Kinds (yg16 2 1), eI tS y17.Words (yg16 2 0), eI (tI .u8) ([] : List Int) (.nil), eI (tI .u8) ([] : List Int) (.nil)])) hi rfl), (fun _ i g hi => lcG [15] (fun yg16 => (vK (yg16 15 0) 8, [])) hi rfl), trivial⟩
 case hstep_yg16 =>
  refine ⟨?_, ?_, ?_, ?_, ?_, ?_, ?_, ?_, ?_, ?_, ?_, ?_, ?_, ?_, ?_, ?_, ?_, trivial⟩
  ·intro o ho a w yg16 M Hb hv hO hS
   obtain rfl := someE ho
   exact Stp.mono (o_evs [] (vG [vU 0, vU 0, vU 0, vU 255]) none [] Hb rfl (by kernel_rfl) (fun q e => by cases e)) fun _ _ hq => ⟨gL [], fun _ _ => hq.1, (hS.below hq.2.below).sel [] rfl⟩
  ·intro o ho a w yg16 M Hb hv hO hS
   obtain rfl := someE ho
   exact Stp.mono (o_evs [] (vG [vU 7, vN, vI 0, vU 0, vU 0, vU 0, vU 255]) none [] ((Hb).add (hv 0 (by decide) (by decide) 8 rfl)) rfl (by kernel_rfl) (fun q e => by cases e)) fun _ _ hq => ⟨gL [], fun _ _ => hq.1, (hS.below hq.2.below).sel [] rfl⟩
  ·intro o ho a w yg16 M Hb hv hO hS0
   obtain rfl := someE ho
   have H : Fr 57 ([(9, [], vG [vU 7, vN, vI 0, vU 0, vU 0, vU 0, vU 255])] ++ (fS [1, 2] [vP b6, vP b9])) _ := (Hb).add (hv 1 (by decide) (by decide) 9 rfl)
   obtain ⟨X, hX⟩ : ∃ X, X = fpl [] := ⟨_, rfl⟩
   have hS : SH M X w [] w := by rw [hX]; exact hS0
   have hd := hS.hand [] [] rfl rfl
   refine Stp.mono (o_callx H rfl rfl (props_color_ok _ _ _ _ hy17.symm _ _ hd)) ?_
   rintro v w2 hq
   obtain ⟨g18, g20, rfl, hq⟩ := hq
   replace hS : SH M X w [eO 9 tS y17.Words g18, eO 5 (tI .u8) y17.Kinds g20] _ := hS.join [] [] rfl rfl hq
   clear hq
   rw [hX] at hS
   exact ⟨gL [g18, g20], fun _ _ => rfl, hS.sel [0, 1] rfl⟩
  ·intro o ho a w yg16 M Hb hv hO hS
   obtain rfl := someE ho
   exact Stp.mono (o_evs [] (vG [vU 7, vN, vI 0, vU 0, vU 0, vU 0, vU 0]) none [] Hb rfl (by kernel_rfl) (fun q e => by cases e)) fun _ _ hq => ⟨gL [], fun _ _ => hq.1, (hS.below hq.2.below).sel [] rfl⟩
  ·intro o ho a w yg16 M Hb hv hO hS0
   obtain rfl := someE ho
   have H : Fr 57 ([(11, [], vG [vU 7, vN, vI 0, vU 0, vU 0, vU 0, vU 0])] ++ (fS [1, 2] [vP b6, vP b9])) _ := (Hb).add (hv 3 (by decide) (by decide) 11 rfl)
   obtain ⟨X, hX⟩ : ∃ X, X = fpl [] := ⟨_, rfl⟩
   have hS : SH M X w [] w := by rw [hX]; exact hS0
   have hd := hS.hand [] [] rfl rfl
   refine Stp.mono (o_callx H rfl rfl (props_color_ok _ _ _ _ hy22.symm _ _ hd)) ?_
   rintro v w2 hq
   obtain ⟨g23, g25, rfl, hq⟩ := hq
   replace hS : SH M X w [eO 9 tS y22.Words g23, eO 5 (tI .u8) y22.Kinds g25] _ := hS.join [] [] rfl rfl hq
   clear hq
   rw [hX] at hS
   exact ⟨gL [g23, g25], fun _ _ => rfl, hS.sel [0, 1] rfl⟩
  ·intro o ho a w yg16 M Hb hv hO hS
   obtain rfl := someE ho
   exact Stp.mono (o_evs [] (vG [vU 8, vN, vI 0, vU 0, vU 0, vU 0, vU 0]) none [] Hb rfl (by kernel_rfl) (fun q e => by cases e)) fun _ _ hq => ⟨gL [], fun _ _ => hq.1, (hS.below hq.2.below).sel [] rfl⟩
  ·intro o ho a w yg16 M Hb hv hO hS0
   obtain rfl := someE ho
   have H : Fr 57 ([(13, [], vG [vU 8, vN, vI 0, vU 0, vU 0, vU 0, vU 0])] ++ (fS [1, 2] [vP b6, vP b9])) _ := (Hb).add (hv 5 (by decide) (by decide) 13 rfl)
   obtain ⟨X, hX⟩ : ∃ X, X = fpl [] := ⟨_, rfl⟩
   have hS : SH M X w [] w := by rw [hX]; exact hS0
   have hd := hS.hand [] [] rfl rfl
   refine Stp.mono (o_callx H rfl rfl (props_color_ok _ _ _ _ hy27.symm _ _ hd)) ?_
   rintro v w2 hq
   obtain ⟨g28, g30, rfl, hq⟩ := hq
   replace hS : SH M X w [eO 9 tS y27.Words g28, eO 5 (tI .u8) y27.Kinds g30] _ := hS.join [] [] rfl rfl hq
   clear hq
   rw [hX] at hS
   exact ⟨gL [g28, g30], fun _ _ => rfl, hS.sel [0, 1] rfl⟩
  ·intro o ho a w yg16 M Hb hv hO hS
   obtain rfl := someE ho
   exact Stp.mono (o_evs [] (vG [vU 8, vN, vI 0, vU 0, vU 0, vU 0, vU 0]) none [] Hb rfl (by kernel_rfl) (fun q e => by cases e)) fun _ _ hq => ⟨gL [], fun _ _ => hq.1, (hS.below hq.2.below).sel [] rfl⟩
  ·intro o ho a w yg16 M Hb hv hO hS0
   obtain rfl := someE ho
   have H : Fr 57 ([(15, [], vG [vU 8, vN, vI 0, vU 0, vU 0, vU 0, vU 0])] ++ (fS [1, 2] [vP b6, vP b9])) _ := (Hb).add (hv 7 (by decide) (by decide) 15 rfl)
   obtain ⟨X, hX⟩ : ∃ X, X = fpl [] := ⟨_, rfl⟩
   have hS : SH M X w [] w := by rw [hX]; exact hS0
   have hd := hS.hand [] [] rfl rfl
   refine Stp.mono (o_callx H rfl rfl (props_color_ok _ _ _ _ hy32.symm _ _ hd)) ?_
   rintro v w2 hq
   obtain ⟨g33, g35, rfl, hq⟩ := hq
   replace hS : SH M X w [eO 9 tS y32.Words g33, eO 5 (tI .u8) y32.Kinds g35] _ := hS.join [] [] rfl rfl hq
   clear hq
   rw [hX] at hS
   exact ⟨gL [g33, g35], fun _ _ => rfl, hS.sel [0, 1] rfl⟩
  ·intro o ho a w yg16 M Hb hv hO hS0
   obtain rfl := someE ho
   have H : Fr 57 ([] ++ (fS [1, 2] [vP b6, vP b9])) _ := Hb
   obtain ⟨X, hX⟩ : ∃ X, X = fpl [gE0] := ⟨_, rfl⟩
   have hS : SH M X w [gE0] w := by rw [hX]; exact hS0
   have hd := hS.hand [0] [0] rfl rfl
   refine Stp.mono (o_callx H rfl rfl (props_words_ok m _ _ _ _ _ hy37 _ _ hd)) ?_
   rintro v w2 hq
   obtain ⟨g38, g40, rfl, hq⟩ := hq
   replace hS : SH M X w [eO 9 tS y37.Words g38, eO 5 (tI .u8) y37.Kinds g40, gE0] _ := hS.join [0] [0] rfl rfl hq
   clear hq
   rw [hX] at hS
   exact ⟨gL [g38, g40], fun _ _ => rfl, hS.sel [0, 1, 2] rfl⟩
  ·intro o ho a w yg16 M Hb hv hO hS0
   obtain rfl := someE ho
   have H : Fr 57 ([] ++ (fS [1, 2] [vP b6, vP b9])) _ := Hb
   obtain ⟨X, hX⟩ : ∃ X, X = fpl [gE0] := ⟨_, rfl⟩
   have hS : SH M X w [gE0] w := by rw [hX]; exact hS0
   have hd := hS.hand [0] [0] rfl rfl
   refine Stp.mono (o_callx H rfl rfl (props_words_ok m _ _ _ _ _ hy42 _ _ hd)) ?_
   rintro v w2 hq
   obtain ⟨g43, g45, rfl, hq⟩ := hq
   replace hS : SH M X w [eO 9 tS y42.Words g43, eO 5 (tI .u8) y42.Kinds g45, gE0] _ := hS.join [0] [0] rfl rfl hq
   clear hq
   rw [hX] at hS
   exact ⟨gL [g43, g45], fun _ _ => rfl, hS.sel [0, 1, 2] rfl⟩
  ·intro o ho a w yg16 M Hb hv hO hS
   obtain rfl := someE ho
   exact Stp.mono (o_evs [(vG (cV y3))] (vG (cV y3)) (some (rN b6 0 (cV y3))) [] Hb rfl (by kernel_rfl) (fun q e => by cases e; exact ((hS.bk 0 rfl).atD rfl))) fun _ _ hq => ⟨gL [], fun _ _ => hq.1, (hS.below hq.2.below).sel [0] rfl⟩
  ·intro o ho a w yg16 M Hb hv hO hS0
   obtain rfl := someE ho
   have H : Fr 57 ([(19, [], vG (cV y3))] ++ (fS [1, 2] [vP b6, vP b9])) _ := (Hb).add (hv 11 (by decide) (by decide) 19 rfl)
   obtain ⟨X, hX⟩ : ∃ X, X = fpl [gE0] := ⟨_, rfl⟩
   have hS : SH M X w [gE0] w := by rw [hX]; exact hS0
   replace hS : SH M X w [eO 5 (tI .u8) ([] : List Int) (.nil), gE0] _ := hS.addNil 5 (tI .u8)
   replace hS : SH M X w [eI (tI .u8) ([] : List Int) (.nil), gE0] _ := SH.frz1 (hS.sel [0, 1] rfl)
   have hd := hS.hand [0, 1] [0, 1] rfl rfl
   refine Stp.mono (o_callx H rfl rfl (props_length_ok (g_more := Gh.nil) m _ _ _ _ _ _ _ hy48 _ _ hd)) ?_
   rintro v w2 hq
   obtain ⟨g49, g51, rfl, hq⟩ := hq
   replace hS : SH M X w [eO 9 tS y48.Words g49, eO 5 (tI .u8) y48.Kinds g51, eI (tI .u8) ([] : List Int) (.nil), gE0] _ := hS.join [0, 1] [0, 1] rfl rfl hq
   clear hq
   rw [hX] at hS
   exact ⟨gL [g49, g51], fun _ _ => rfl, hS.sel [0, 1, 2, 3] rfl⟩
  ·intro o ho a w yg16 M Hb hv hO hS
   obtain rfl := someE ho
   exact Stp.mono (o_evs [(vG (cV y3))] (vG (cV y3)) (some (rN b6 0 (cV y3))) [] Hb rfl (by kernel_rfl) (fun q e => by cases e; exact ((hS.bk 0 rfl).atD rfl))) fun _ _ hq => ⟨gL [], fun _ _ => hq.1, (hS.below hq.2.below).sel [0] rfl⟩
  ·intro o ho a w yg16 M Hb hv hO hS0
   obtain rfl := someE ho
   have H : Fr 57 ([(21, [], vG (cV y3))] ++ (fS [1, 2] [vP b6, vP b9])) _ := (Hb).add (hv 13 (by decide) (by decide) 21 rfl)
   obtain ⟨X, hX⟩ : ∃ X, X = fpl [gE0] := ⟨_, rfl⟩
   have hS : SH M X w [gE0] w := by rw [hX]; exact hS0
   replace hS : SH M X w [eO 5 (tI .u8) ([] : List Int) (.nil), gE0] _ := hS.addNil 5 (tI .u8)
   replace hS : SH M X w [eI (tI .u8) ([] : List Int) (.nil), gE0] _ := SH.frz1 (hS.sel [0, 1] rfl)
   have hd := hS.hand [0, 1] [0, 1] rfl rfl
   refine Stp.mono (o_callx H rfl rfl (props_length_ok (g_more := Gh.nil) m _ _ _ _ _ _ _ hy54 _ _ hd)) ?_
   rintro v w2 hq
   obtain ⟨g55, g57, rfl, hq⟩ := hq
   replace hS : SH M X w [eO 9 tS y54.Words g55, eO 5 (tI .u8) y54.Kinds g57, eI (tI .u8) ([] : List Int) (.nil), gE0] _ := hS.join [0, 1] [0, 1] rfl rfl hq
   clear hq
   rw [hX] at hS
   exact ⟨gL [g55, g57], fun _ _ => rfl, hS.sel [0, 1, 2, 3] rfl⟩
  ·intro o ho a w yg16 M Hb hv hO hS0
   obtain rfl := someE ho
   have H : Fr 57 ((fS [22, 20, 18, 17, 16, 14, 12, 10] [vG [vS y54.Name, vB y54.Inherited, vU y54.Initial.Kind, vS y54.Initial.Word, vI y54.Initial.Num, vU y54.Initial.Color.Red, vU y54.Initial.Color.Green, vU y54.Initial.Color.Blue, vU y54.Initial.Color.Alpha, .slice (yg16 14 0).a y54.Words.length (yg16 14 0).c, .slice (yg16 14 1).a y54.Kinds.length (yg16 14 1).c, vB y54.Least], vG [vS y48.Name, vB y48.Inherited, vU y48.Initial.Kind, vS y48.Initial.Word, vI y48.Initial.Num, vU y48.Initial.Color.Red, vU y48.Initial.Color.Green, vU y48.Initial.Color.Blue, vU y48.Initial.Color.Alpha, .slice (yg16 12 0).a y48.Words.length (yg16 12 0).c, .slice (yg16 12 1).a y48.Kinds.length (yg16 12 1).c, vB y48.Least], vG [vS y42.Name, vB y42.Inherited, vU y42.Initial.Kind, vS y42.Initial.Word, vI y42.Initial.Num, vU y42.Initial.Color.Red, vU y42.Initial.Color.Green, vU y42.Initial.Color.Blue, vU y42.Initial.Color.Alpha, .slice (yg16 10 0).a y42.Words.length (yg16 10 0).c, .slice (yg16 10 1).a y42.Kinds.length (yg16 10 1).c, vB y42.Least], vG [vS y37.Name, vB y37.Inherited, vU y37.Initial.Kind, vS y37.Initial.Word, vI y37.Initial.Num, vU y37.Initial.Color.Red, vU y37.Initial.Color.Green, vU y37.Initial.Color.Blue, vU y37.Initial.Color.Alpha, .slice (yg16 9 0).a y37.Words.length (yg16 9 0).c, .slice (yg16 9 1).a y37.Kinds.length (yg16 9 1).c, vB y37.Least], vG [vS y32.Name, vB y32.Inherited, vU y32.Initial.Kind, vS y32.Initial.Word, vI y32.Initial.Num, vU y32.Initial.Color.Red, vU y32.Initial.Color.Green, vU y32.Initial.Color.Blue, vU y32.Initial.Color.Alpha, .slice (yg16 8 0).a y32.Words.length (yg16 8 0).c, .slice (yg16 8 1).a y32.Kinds.length (yg16 8 1).c, vB y32.Least], vG [vS y27.Name, vB y27.Inherited, vU y27.Initial.Kind, vS y27.Initial.Word, vI y27.Initial.Num, vU y27.Initial.Color.Red, vU y27.Initial.Color.Green, vU y27.Initial.Color.Blue, vU y27.Initial.Color.Alpha, .slice (yg16 6 0).a y27.Words.length (yg16 6 0).c, .slice (yg16 6 1).a y27.Kinds.length (yg16 6 1).c, vB y27.Least], vG [vS y22.Name, vB y22.Inherited, vU y22.Initial.Kind, vS y22.Initial.Word, vI y22.Initial.Num, vU y22.Initial.Color.Red, vU y22.Initial.Color.Green, vU y22.Initial.Color.Blue, vU y22.Initial.Color.Alpha, .slice (yg16 4 0).a y22.Words.length (yg16 4 0).c, .slice (yg16 4 1).a y22.Kinds.length (yg16 4 1).c, vB y22.Least], vG [vS y17.Name, vB y17.Inherited, vU y17.Initial.Kind, vS y17.Initial.Word, vI y17.Initial.Num, vU y17.Initial.Color.Red, vU y17.Initial.Color.Green, vU y17.Initial.Color.Blue, vU y17.Initial.Color.Alpha, .slice (yg16 2 0).a y17.Words.length (yg16 2 0).c, .slice (yg16 2 1).a y17.Kinds.length (yg16 2 1).c, vB y17.Least]]) ++ (fS [1, 2] [vP b6, vP b9])) _ := ((((((((Hb).add (hv 2 (by decide) (by decide) 10 rfl)).add (hv 4 (by decide) (by decide) 12 rfl)).add (hv 6 (by decide) (by decide) 14 rfl)).add (hv 8 (by decide) (by decide) 16 rfl)).add (hv 9 (by decide) (by decide) 17 rfl)).add (hv 10 (by decide) (by decide) 18 rfl)).add (hv 12 (by decide) (by decide) 20 rfl)).add (hv 14 (by decide) (by decide) 22 rfl)
   obtain ⟨X, hX⟩ : ∃ X, X = fpl [eO 9 tS y17.Words (yg16 2 0), eO 5 (tI .u8) y17.Kinds (yg16 2 1), eO 9 tS y22.Words (yg16 4 0), eO 5 (tI .u8) y22.Kinds (yg16 4 1), eO 9 tS y27.Words (yg16 6 0), eO 5 (tI .u8) y27.Kinds (yg16 6 1), eO 9 tS y32.Words (yg16 8 0), eO 5 (tI .u8) y32.Kinds (yg16 8 1), eO 9 tS y37.Words (yg16 9 0), eO 5 (tI .u8) y37.Kinds (yg16 9 1), eO 9 tS y42.Words (yg16 10 0), eO 5 (tI .u8) y42.Kinds (yg16 10 1), eO 9 tS y48.Words (yg16 12 0), eO 5 (tI .u8) y48.Kinds (yg16 12 1), eI (tI .u8) ([] : List Int) (.nil), eO 9 tS y54.Words (yg16 14 0), eO 5 (tI .u8) y54.Kinds (yg16 14 1), eI (tI .u8) ([] : List Int) (.nil)] := ⟨_, rfl⟩
   have hS : SH M X w [eO 9 tS y17.Words (yg16 2 0), eO 5 (tI .u8) y17.Kinds (yg16 2 1), eO 9 tS y22.Words (yg16 4 0), eO 5 (tI .u8) y22.Kinds (yg16 4 1), eO 9 tS y27.Words (yg16 6 0), eO 5 (tI .u8) y27.Kinds (yg16 6 1), eO 9 tS y32.Words (yg16 8 0), eO 5 (tI .u8) y32.Kinds (yg16 8 1), eO 9 tS y37.Words (yg16 9 0), eO 5 (tI .u8) y37.Kinds (yg16 9 1), eO 9 tS y42.Words (yg16 10 0), eO 5 (tI .u8) y42.Kinds (yg16 10 1), eO 9 tS y48.Words (yg16 12 0), eO 5 (tI .u8) y48.Kinds (yg16 12 1), eI (tI .u8) ([] : List Int) (.nil), eO 9 tS y54.Words (yg16 14 0), eO 5 (tI .u8) y54.Kinds (yg16 14 1), eI (tI .u8) ([] : List Int) (.nil)] w := by rw [hX]; exact hS0
   replace hS : SH M X w [eI tS y17.Words (yg16 2 0), eO 5 (tI .u8) y17.Kinds (yg16 2 1), eO 9 tS y22.Words (yg16 4 0), eO 5 (tI .u8) y22.Kinds (yg16 4 1), eO 9 tS y27.Words (yg16 6 0), eO 5 (tI .u8) y27.Kinds (yg16 6 1), eO 9 tS y32.Words (yg16 8 0), eO 5 (tI .u8) y32.Kinds (yg16 8 1), eO 9 tS y37.Words (yg16 9 0), eO 5 (tI .u8) y37.Kinds (yg16 9 1), eO 9 tS y42.Words (yg16 10 0), eO 5 (tI .u8) y42.Kinds (yg16 10 1), eO 9 tS y48.Words (yg16 12 0), eO 5 (tI .u8) y48.Kinds (yg16 12 1), eI (tI .u8) ([] : List Int) (.nil), eO 9 tS y54.Words (yg16 14 0), eO 5 (tI .u8) y54.Kinds (yg16 14 1), eI (tI .u8) ([] : List Int) (.nil)] _ := SH.frz1 (hS.sel [0, 1, 2, 3, 4, 5, 6, 7, 8, 9, 10, 11, 12, 13, 14, 15, 16, 17] rfl)
   replace hS : SH M X w [eI (tI .u8) y17.Kinds (yg16 2 1), eI tS y17.Words (yg16 2 0), eO 9 tS y22.Words (yg16 4 0), eO 5 (tI .u8) y22.Kinds (yg16 4 1), eO 9 tS y27.Words (yg16 6 0), eO 5 (tI .u8) y27.Kinds (yg16 6 1), eO 9 tS y32.Words (yg16 8 0), eO 5 (tI .u8) y32.Kinds (yg16 8 1), eO 9 tS y37.Words (yg16 9 0), eO 5 (tI .u8) y37.Kinds (yg16 9 1), eO 9 tS y42.Words (yg16 10 0), eO 5 (tI .u8) y42.Kinds (yg16 10 1), eO 9 tS y48.Words (yg16 12 0), eO 5 (tI .u8) y48.Kinds (yg16 12 1), eI (tI .u8) ([] : List Int) (.nil), eO 9 tS y54.Words (yg16 14 0), eO 5 (tI .u8) y54.Kinds (yg16 14 1), eI (tI .u8) ([] : List Int) (.nil)] _ := SH.frz1 (hS.sel [1, 0, 2, 3, 4, 5, 6, 7, 8, 9, 10, 11, 12, 13, 14, 15, 16, 17] rfl)
   replace hS : SH M X w [eI tS y22.Words (yg16 4 0), eI (tI .u8) y17.Kinds (yg16 2 1), eI tS y17.Words (yg16 2 0), eO 5 (tI .u8) y22.Kinds (yg16 4 1), eO 9 tS y27.Words (yg16 6 0), eO 5 (tI .u8) y27.Kinds (yg16 6 1), eO 9 tS y32.Words (yg16 8 0), eO 5 (tI .u8) y32.Kinds (yg16 8 1), eO 9 tS y37.Words (yg16 9 0), eO 5 (tI .u8) y37.Kinds (yg16 9 1), eO 9 tS y42.Words (yg16 10 0), eO 5 (tI .u8) y42.Kinds (yg16 10 1), eO 9 tS y48.Words (yg16 12 0), eO 5 (tI .u8) y48.Kinds (yg16 12 1), eI (tI .u8) ([] : List Int) (.nil), eO 9 tS y54.Words (yg16 14 0), eO 5 (tI .u8) y54.Kinds (yg16 14 1), eI (tI .u8) ([] : List Int) (.nil)] _ := SH.frz1 (hS.sel [2, 0, 1, 3, 4, 5, 6, 7, 8, 9, 10, 11, 12, 13, 14, 15, 16, 17] rfl)
   replace hS : SH M X w [eI (tI .u8) y22.Kinds (yg16 4 1), eI tS y22.Words (yg16 4 0), eI (tI .u8) y17.Kinds (yg16 2 1), eI tS y17.Words (yg16 2 0), eO 9 tS y27.Words (yg16 6 0), eO 5 (tI .u8) y27.Kinds (yg16 6 1), eO 9 tS y32.Words (yg16 8 0), eO 5 (tI .u8) y32.Kinds (yg16 8 1), eO 9 tS y37.Words (yg16 9 0), eO 5 (tI .u8) y37.Kinds (yg16 9 1), eO 9 tS y42.Words (yg16 10 0), eO 5 (tI .u8) y42.Kinds (yg16 10 1), eO 9 tS y48.Words (yg16 12 0), eO 5 (tI .u8) y48.Kinds (yg16 12 1), eI (tI .u8) ([] : List Int) (.nil), eO 9 tS y54.Words (yg16 14 0), eO 5 (tI .u8) y54.Kinds (yg16 14 1), eI (tI .u8) ([] : List Int) (.nil)] _ := SH.frz1 (hS.sel [3, 0, 1, 2, 4, 5, 6, 7, 8, 9, 10, 11, 12, 13, 14, 15, 16, 17] rfl)
   replace hS : SH M X w [eI tS y27.Words (yg16 6 0), eI (tI .u8) y22.Kinds (yg16 4 1), eI tS y22.Words (yg16 4 0), eI (tI .u8) y17.Kinds (yg16 2 1), eI tS y17.Words (yg16 2 0), eO 5 (tI .u8) y27.Kinds (yg16 6 1), eO 9 tS y32.Words (yg16 8 0), eO 5 (tI .u8) y32.Kinds (yg16 8 1), eO 9 tS y37.Words (yg16 9 0), eO 5 (tI .u8) y37.Kinds (yg16 9 1), eO 9 tS y42.Words (yg16 10 0), eO 5 (tI .u8) y42.Kinds (yg16 10 1), eO 9 tS y48.Words (yg16 12 0), eO 5 (tI .u8) y48.Kinds (yg16 12 1), eI (tI .u8) ([] : List Int) (.nil), eO 9 tS y54.Words (yg16 14 0), eO 5 (tI .u8) y54.Kinds (yg16 14 1), eI (tI .u8) ([] : List Int) (.nil)] _ := SH.frz1 (hS.sel [4, 0, 1, 2, 3, 5, 6, 7, 8, 9, 10, 11, 12, 13, 14, 15, 16, 17] rfl)
   replace hS : SH M X w [eI (tI .u8) y27.Kinds (yg16 6 1), eI tS y27.Words (yg16 6 0), eI (tI .u8) y22.Kinds (yg16 4 1), eI tS y22.Words (yg16 4 0), eI (tI .u8) y17.Kinds (yg16 2 1), eI tS y17.Words (yg16 2 0), eO 9 tS y32.Words (yg16 8 0), eO 5 (tI .u8) y32.Kinds (yg16 8 1), eO 9 tS y37.Words (yg16 9 0), eO 5 (tI .u8) y37.Kinds (yg16 9 1), eO 9 tS y42.Words (yg16 10 0), eO 5 (tI .u8) y42.Kinds (yg16 10 1), eO 9 tS y48.Words (yg16 12 0), eO 5 (tI .u8) y48.Kinds (yg16 12 1), eI (tI .u8) ([] : List Int) (.nil), eO 9 tS y54.Words (yg16 14 0), eO 5 (tI .u8) y54.Kinds (yg16 14 1), eI (tI .u8) ([] : List Int) (.nil)] _ := SH.frz1 (hS.sel [5, 0, 1, 2, 3, 4, 6, 7, 8, 9, 10, 11, 12, 13, 14, 15, 16, 17] rfl)
   replace hS : SH M X w [eI tS y32.Words (yg16 8 0), eI (tI .u8) y27.Kinds (yg16 6 1), eI tS y27.Words (yg16 6 0), eI (tI .u8) y22.Kinds (yg16 4 1), eI tS y22.Words (yg16 4 0), eI (tI .u8) y17.Kinds (yg16 2 1), eI tS y17.Words (yg16 2 0), eO 5 (tI .u8) y32.Kinds (yg16 8 1), eO 9 tS y37.Words (yg16 9 0), eO 5 (tI .u8) y37.Kinds (yg16 9 1), eO 9 tS y42.Words (yg16 10 0), eO 5 (tI .u8) y42.Kinds (yg16 10 1), eO 9 tS y48.Words (yg16 12 0), eO 5 (tI .u8) y48.Kinds (yg16 12 1), eI (tI .u8) ([] : List Int) (.nil), eO 9 tS y54.Words (yg16 14 0), eO 5 (tI .u8) y54.Kinds (yg16 14 1), eI (tI .u8) ([] : List Int) (.nil)] _ := SH.frz1 (hS.sel [6, 0, 1, 2, 3, 4, 5, 7, 8, 9, 10, 11, 12, 13, 14, 15, 16, 17] rfl)
   replace hS : SH M X w [eI (tI .u8) y32.Kinds (yg16 8 1), eI tS y32.Words (yg16 8 0), eI (tI .u8) y27.Kinds (yg16 6 1), eI tS y27.Words (yg16 6 0), eI (tI .u8) y22.Kinds (yg16 4 1), eI tS y22.Words (yg16 4 0), eI (tI .u8) y17.Kinds (yg16 2 1), eI tS y17.Words (yg16 2 0), eO 9 tS y37.Words (yg16 9 0), eO 5 (tI .u8) y37.Kinds (yg16 9 1), eO 9 tS y42.Words (yg16 10 0), eO 5 (tI .u8) y42.Kinds (yg16 10 1), eO 9 tS y48.Words (yg16 12 0), eO 5 (tI .u8) y48.Kinds (yg16 12 1), eI (tI .u8) ([] : List Int) (.nil), eO 9 tS y54.Words (yg16 14 0), eO 5 (tI .u8) y54.Kinds (yg16 14 1), eI (tI .u8) ([] : List Int) (.nil)] _ := SH.frz1 (hS.sel [7, 0, 1, 2, 3, 4, 5, 6, 8, 9, 10, 11, 12, 13, 14, 15, 16, 17] rfl)
   replace hS : SH M X w [eI tS y37.Words (yg16 9 0), eI (tI .u8) y32.Kinds (yg16 8 1), eI tS y32.Words (yg16 8 0), eI (tI .u8) y27.Kinds (yg16 6 1), eI tS y27.Words (yg16 6 0), eI (tI .u8) y22.Kinds (yg16 4 1), eI tS y22.Words (yg16 4 0), eI (tI .u8) y17.Kinds (yg16 2 1), eI tS y17.Words (yg16 2 0), eO 5 (tI .u8) y37.Kinds (yg16 9 1), eO 9 tS y42.Words (yg16 10 0), eO 5 (tI .u8) y42.Kinds (yg16 10 1), eO 9 tS y48.Words (yg16 12 0), eO 5 (tI .u8) y48.Kinds (yg16 12 1), eI (tI .u8) ([] : List Int) (.nil), eO 9 tS y54.Words (yg16 14 0), eO 5 (tI .u8) y54.Kinds (yg16 14 1), eI (tI .u8) ([] : List Int) (.nil)] _ := SH.frz1 (hS.sel [8, 0, 1, 2, 3, 4, 5, 6, 7, 9, 10, 11, 12, 13, 14, 15, 16, 17] rfl)
   replace hS : SH M X w [eI (tI .u8) y37.Kinds (yg16 9 1), eI tS y37.Words (yg16 9 0), eI (tI .u8) y32.Kinds (yg16 8 1), eI tS y32.Words (yg16 8 0), eI (tI .u8) y27.Kinds (yg16 6 1), eI tS y27.Words (yg16 6 0), eI (tI .u8) y22.Kinds (yg16 4 1), eI tS y22.Words (yg16 4 0), eI (tI .u8) y17.Kinds (yg16 2 1), eI tS y17.Words (yg16 2 0), eO 9 tS y42.Words (yg16 10 0), eO 5 (tI .u8) y42.Kinds (yg16 10 1), eO 9 tS y48.Words (yg16 12 0), eO 5 (tI .u8) y48.Kinds (yg16 12 1), eI (tI .u8) ([] : List Int) (.nil), eO 9 tS y54.Words (yg16 14 0), eO 5 (tI .u8) y54.Kinds (yg16 14 1), eI (tI .u8) ([] : List Int) (.nil)] _ := SH.frz1 (hS.sel [9, 0, 1, 2, 3, 4, 5, 6, 7, 8, 10, 11, 12, 13, 14, 15, 16, 17] rfl)
   replace hS : SH M X w [eI tS y42.Words (yg16 10 0), eI (tI .u8) y37.Kinds (yg16 9 1), eI tS y37.Words (yg16 9 0), eI (tI .u8) y32.Kinds (yg16 8 1), eI tS y32.Words (yg16 8 0), eI (tI .u8) y27.Kinds (yg16 6 1), eI tS y27.Words (yg16 6 0), eI (tI .u8) y22.Kinds (yg16 4 1), eI tS y22.Words (yg16 4 0), eI (tI .u8) y17.Kinds (yg16 2 1), eI tS y17.Words (yg16 2 0), eO 5 (tI .u8) y42.Kinds (yg16 10 1), eO 9 tS y48.Words (yg16 12 0), eO 5 (tI .u8) y48.Kinds (yg16 12 1), eI (tI .u8) ([] : List Int) (.nil), eO 9 tS y54.Words (yg16 14 0), eO 5 (tI .u8) y54.Kinds (yg16 14 1), eI (tI .u8) ([] : List Int) (.nil)] _ := SH.frz1 (hS.sel [10, 0, 1, 2, 3, 4, 5, 6, 7, 8, 9, 11, 12, 13, 14, 15, 16, 17] rfl)
   replace hS : SH M X w [eI (tI .u8) y42.Kinds (yg16 10 1), eI tS y42.Words (yg16 10 0), eI (tI .u8) y37.Kinds (yg16 9 1), eI tS y37.Words (yg16 9 0), eI (tI .u8) y32.Kinds (yg16 8 1), eI tS y32.Words (yg16 8 0), eI (tI .u8) y27.Kinds (yg16 6 1), eI tS y27.Words (yg16 6 0), eI (tI .u8) y22.Kinds (yg16 4 1), eI tS y22.Words (yg16 4 0), eI (tI .u8) y17.Kinds (yg16 2 1), eI tS y17.Words (yg16 2 0), eO 9 tS y48.Words (yg16 12 0), eO 5 (tI .u8) y48.Kinds (yg16 12 1), eI (tI .u8) ([] : List Int) (.nil), eO 9 tS y54.Words (yg16 14 0), eO 5 (tI .u8) y54.Kinds (yg16 14 1), eI (tI .u8) ([] : List Int) (.nil)] _ := SH.frz1 (hS.sel [11, 0, 1, 2, 3, 4, 5, 6, 7, 8, 9, 10, 12, 13, 14, 15, 16, 17] rfl)
   replace hS : SH M X w [eI tS y48.Words (yg16 12 0), eI (tI .u8) y42.Kinds (yg16 10 1), eI tS y42.Words (yg16 10 0), eI (tI .u8) y37.Kinds (yg16 9 1), eI tS y37.Words (yg16 9 0), eI (tI .u8) y32.Kinds (yg16 8 1), eI tS y32.Words (yg16 8 0), eI (tI .u8) y27.Kinds (yg16 6 1), eI tS y27.Words (yg16 6 0), eI (tI .u8) y22.Kinds (yg16 4 1), eI tS y22.Words (yg16 4 0), eI (tI .u8) y17.Kinds (yg16 2 1), eI tS y17.Words (yg16 2 0), eO 5 (tI .u8) y48.Kinds (yg16 12 1), eI (tI .u8) ([] : List Int) (.nil), eO 9 tS y54.Words (yg16 14 0), eO 5 (tI .u8) y54.Kinds (yg16 14 1), eI (tI .u8) ([] : List Int) (.nil)] _ := SH.frz1 (hS.sel [12, 0, 1, 2, 3, 4, 5, 6, 7, 8, 9, 10, 11, 13, 14, 15, 16, 17] rfl)
   replace hS : SH M X w [eI (tI .u8) y48.Kinds (yg16 12 1), eI tS y48.Words (yg16 12 0), eI (tI .u8) y42.Kinds (yg16 10 1), eI tS y42.Words (yg16 10 0), eI (tI .u8) y37.Kinds (yg16 9 1), eI tS y37.Words (yg16 9 0), eI (tI .u8) y32.Kinds (yg16 8 1), eI tS y32.Words (yg16 8 0), eI (tI .u8) y27.Kinds (yg16 6 1), eI tS y27.Words (yg16 6 0), eI (tI .u8) y22.Kinds (yg16 4 1), eI tS y22.Words (yg16 4 0), eI (tI .u8) y17.Kinds (yg16 2 1), eI tS y17.Words (yg16 2 0), eI (tI .u8) ([] : List Int) (.nil), eO 9 tS y54.Words (yg16 14 0), eO 5 (tI .u8) y54.Kinds (yg16 14 1), eI (tI .u8) ([] : List Int) (.nil)] _ := SH.frz1 (hS.sel [13, 0, 1, 2, 3, 4, 5, 6, 7, 8, 9, 10, 11, 12, 14, 15, 16, 17] rfl)
   replace hS : SH M X w [eI tS y54.Words (yg16 14 0), eI (tI .u8) y48.Kinds (yg16 12 1), eI tS y48.Words (yg16 12 0), eI (tI .u8) y42.Kinds (yg16 10 1), eI tS y42.Words (yg16 10 0), eI (tI .u8) y37.Kinds (yg16 9 1), eI tS y37.Words (yg16 9 0), eI (tI .u8) y32.Kinds (yg16 8 1), eI tS y32.Words (yg16 8 0), eI (tI .u8) y27.Kinds (yg16 6 1), eI tS y27.Words (yg16 6 0), eI (tI .u8) y22.Kinds (yg16 4 1), eI tS y22.Words (yg16 4 0), eI (tI .u8) y17.Kinds (yg16 2 1), eI tS y17.Words (yg16 2 0), eI (tI .u8) ([] : List Int) (.nil), eO 5 (tI .u8) y54.Kinds (yg16 14 1), eI (tI .u8) ([] : List Int) (.nil)] _ := SH.frz1 (hS.sel [15, 0, 1, 2, 3, 4, 5, 6, 7, 8, 9, 10, 11, 12, 13, 14, 16, 17] rfl)
   replace hS : SH M X w [eI (tI .u8) y54.Kinds (yg16 14 1), eI tS y54.Words (yg16 14 0), eI (tI .u8) y48.Kinds (yg16 12 1), eI tS y48.Words (yg16 12 0), eI (tI .u8) y42.Kinds (yg16 10 1), eI tS y42.Words (yg16 10 0), eI (tI .u8) y37.Kinds (yg16 9 1), eI tS y37.Words (yg16 9 0), eI (tI .u8) y32.Kinds (yg16 8 1), eI tS y32.Words (yg16 8 0), eI (tI .u8) y27.Kinds (yg16 6 1), eI tS y27.Words (yg16 6 0), eI (tI .u8) y22.Kinds (yg16 4 1), eI tS y22.Words (yg16 4 0), eI (tI .u8) y17.Kinds (yg16 2 1), eI tS y17.Words (yg16 2 0), eI (tI .u8) ([] : List Int) (.nil), eI (tI .u8) ([] : List Int) (.nil)] _ := SH.frz1 (hS.sel [16, 0, 1, 2, 3, 4, 5, 6, 7, 8, 9, 10, 11, 12, 13, 14, 15, 17] rfl)
   have hd := hS.hand [15, 14, 13, 12, 11, 10, 9, 8, 7, 6, 5, 4, 3, 2, 1, 0] [0, 1, 2, 3, 4, 5, 6, 7, 8, 9, 10, 11, 12, 13, 14, 15, 16, 17] rfl rfl
   refine Stp.mono (o_lit (T := tyProp) (E := 100) (zv := vG [vN, vF, vU 0, vN, vI 0, vU 0, vU 0, vU 0, vU 0, vO, vO, vF]) [vS y17.Name, vB y17.Inherited, vU y17.Initial.Kind, vS y17.Initial.Word, vI y17.Initial.Num, vU y17.Initial.Color.Red, vU y17.Initial.Color.Green, vU y17.Initial.Color.Blue, vU y17.Initial.Color.Alpha, .slice (yg16 2 0).a y17.Words.length (yg16 2 0).c, .slice (yg16 2 1).a y17.Kinds.length (yg16 2 1).c, vB y17.Least, vS y22.Name, vB y22.Inherited, vU y22.Initial.Kind, vS y22.Initial.Word, vI y22.Initial.Num, vU y22.Initial.Color.Red, vU y22.Initial.Color.Green, vU y22.Initial.Color.Blue, vU y22.Initial.Color.Alpha, .slice (yg16 4 0).a y22.Words.length (yg16 4 0).c, .slice (yg16 4 1).a y22.Kinds.length (yg16 4 1).c, vB y22.Least, vS y27.Name, vB y27.Inherited, vU y27.Initial.Kind, vS y27.Initial.Word, vI y27.Initial.Num, vU y27.Initial.Color.Red, vU y27.Initial.Color.Green, vU y27.Initial.Color.Blue, vU y27.Initial.Color.Alpha, .slice (yg16 6 0).a y27.Words.length (yg16 6 0).c, .slice (yg16 6 1).a y27.Kinds.length (yg16 6 1).c, vB y27.Least, vS y32.Name, vB y32.Inherited, vU y32.Initial.Kind, vS y32.Initial.Word, vI y32.Initial.Num, vU y32.Initial.Color.Red, vU y32.Initial.Color.Green, vU y32.Initial.Color.Blue, vU y32.Initial.Color.Alpha, .slice (yg16 8 0).a y32.Words.length (yg16 8 0).c, .slice (yg16 8 1).a y32.Kinds.length (yg16 8 1).c, vB y32.Least, vS y37.Name, vB y37.Inherited, vU y37.Initial.Kind, vS y37.Initial.Word, vI y37.Initial.Num, vU y37.Initial.Color.Red, vU y37.Initial.Color.Green, vU y37.Initial.Color.Blue, vU y37.Initial.Color.Alpha, .slice (yg16 9 0).a y37.Words.length (yg16 9 0).c, .slice (yg16 9 1).a y37.Kinds.length (yg16 9 1).c, vB y37.Least, vS y42.Name, vB y42.Inherited, vU y42.Initial.Kind, vS y42.Initial.Word, vI y42.Initial.Num, vU y42.Initial.Color.Red, vU y42.Initial.Color.Green, vU y42.Initial.Color.Blue, vU y42.Initial.Color.Alpha, .slice (yg16 10 0).a y42.Words.length (yg16 10 0).c, .slice (yg16 10 1).a y42.Kinds.length (yg16 10 1).c, vB y42.Least, vS y48.Name, vB y48.Inherited, vU y48.Initial.Kind, vS y48.Initial.Word, vI y48.Initial.Num, vU y48.Initial.Color.Red, vU y48.Initial.Color.Green, vU y48.Initial.Color.Blue, vU y48.Initial.Color.Alpha, .slice (yg16 12 0).a y48.Words.length (yg16 12 0).c, .slice (yg16 12 1).a y48.Kinds.length (yg16 12 1).c, vB y48.Least, vS y54.Name, vB y54.Inherited, vU y54.Initial.Kind, vS y54.Initial.Word, vI y54.Initial.Num, vU y54.Initial.Color.Red, vU y54.Initial.Color.Green, vU y54.Initial.Color.Blue, vU y54.Initial.Color.Alpha, .slice (yg16 14 0).a y54.Words.length (yg16 14 0).c, .slice (yg16 14 1).a y54.Kinds.length (yg16 14 1).c, vB y54.Least] ([y17, y22, y27, y32, y37, y42, y48, y54] : List TProp) [gL [(yg16 2 0), (yg16 2 1)], gL [(yg16 4 0), (yg16 4 1)], gL [(yg16 6 0), (yg16 6 1)], gL [(yg16 8 0), (yg16 8 1)], gL [(yg16 9 0), (yg16 9 1)], gL [(yg16 10 0), (yg16 10 1)], gL [(yg16 12 0), (yg16 12 1)], gL [(yg16 14 0), (yg16 14 1)]] _ H hd rfl (by kernel_rfl) (by kernel_rfl) (by kernel_rfl) (by kernel_rfl) (by kernel_rfl) (by kernel_rfl) (by kernel_rfl) rfl (InnL.cons (tyProp_mk (hd.im 0 rfl) (hd.im 1 rfl)) (InnL.cons (tyProp_mk (hd.im 2 rfl) (hd.im 3 rfl)) (InnL.cons (tyProp_mk (hd.im 4 rfl) (hd.im 5 rfl)) (InnL.cons (tyProp_mk (hd.im 6 rfl) (hd.im 7 rfl)) (InnL.cons (tyProp_mk (hd.im 8 rfl) (hd.im 9 rfl)) (InnL.cons (tyProp_mk (hd.im 10 rfl) (hd.im 11 rfl)) (InnL.cons (tyProp_mk (hd.im 12 rfl) (hd.im 13 rfl)) (InnL.cons (tyProp_mk (hd.im 14 rfl) (hd.im 15 rfl)) InnL.nil))))))))) ?_
   rintro v w2 hq
   obtain ⟨g59, rfl, hq⟩ := hq
   replace hS : SH M X w [eO 100 tyProp ([y17, y22, y27, y32, y37, y42, y48, y54] : List TProp) g59, eI (tI .u8) y54.Kinds (yg16 14 1), eI tS y54.Words (yg16 14 0), eI (tI .u8) y48.Kinds (yg16 12 1), eI tS y48.Words (yg16 12 0), eI (tI .u8) y42.Kinds (yg16 10 1), eI tS y42.Words (yg16 10 0), eI (tI .u8) y37.Kinds (yg16 9 1), eI tS y37.Words (yg16 9 0), eI (tI .u8) y32.Kinds (yg16 8 1), eI tS y32.Words (yg16 8 0), eI (tI .u8) y27.Kinds (yg16 6 1), eI tS y27.Words (yg16 6 0), eI (tI .u8) y22.Kinds (yg16 4 1), eI tS y22.Words (yg16 4 0), eI (tI .u8) y17.Kinds (yg16 2 1), eI tS y17.Words (yg16 2 0), eI (tI .u8) ([] : List Int) (.nil), eI (tI .u8) ([] : List Int) (.nil)] _ := hS.join [15, 14, 13, 12, 11, 10, 9, 8, 7, 6, 5, 4, 3, 2, 1, 0] [0, 1, 2, 3, 4, 5, 6, 7, 8, 9, 10, 11, 12, 13, 14, 15, 16, 17] rfl rfl hq
   clear hq
   rw [hX] at hS
   exact ⟨gL [g59], fun _ _ => rfl, hS.sel [0, 1, 2, 3, 4, 5, 6, 7, 8, 9, 10, 11, 12, 13, 14, 15, 16, 17, 18] rfl⟩
  ·intro o ho a w yg16 M Hb hv hO hS
   obtain rfl := someE ho
   exact Stp.mono (o_evs [] (vK (yg16 15 0) 8) none [] ((Hb).add (hv 15 (by decide) (by decide) 23 rfl)) rfl (by kernel_rfl) (fun q e => by cases e)) fun _ _ hq => ⟨gL [], fun _ _ => hq.1, (hS.below hq.2.below).sel [0, 1, 2, 3, 4, 5, 6, 7, 8, 9, 10, 11, 12, 13, 14, 15, 16, 17, 18] rfl⟩
 have H63 : Fr 57 (fS [3, 1, 2] [vK (yg16 15 0) 8, vP b6, vP b9]) _ := (FrG.add (FrG.keep (ks := [1, 2]) H62 (by kernel_rfl)) (hv 16 3 rfl))
 replace hS : SH M X w [eO 100 tyProp ([y17, y22, y27, y32, y37, y42, y48, y54] : List TProp) (yg16 15 0), eI (tI .u8) y54.Kinds (yg16 14 1), eI tS y54.Words (yg16 14 0), eI (tI .u8) y48.Kinds (yg16 12 1), eI tS y48.Words (yg16 12 0), eI (tI .u8) y42.Kinds (yg16 10 1), eI tS y42.Words (yg16 10 0), eI (tI .u8) y37.Kinds (yg16 9 1), eI tS y37.Words (yg16 9 0), eI (tI .u8) y32.Kinds (yg16 8 1), eI tS y32.Words (yg16 8 0), eI (tI .u8) y27.Kinds (yg16 6 1), eI tS y27.Words (yg16 6 0), eI (tI .u8) y22.Kinds (yg16 4 1), eI tS y22.Words (yg16 4 0), eI (tI .u8) y17.Kinds (yg16 2 1), eI tS y17.Words (yg16 2 0), eI (tI .u8) ([] : List Int) (.nil), eI (tI .u8) ([] : List Int) (.nil), eB b9 [vU 2, vN, vI 0, vU 0, vU 0, vU 0, vU 0], eB b6 (cV y3), gE0] _ := hS
 clear hv H62
 generalize yg16 15 0 = g64 at H63 hS
 generalize yg16 14 1 = g65 at H63 hS
 generalize yg16 14 0 = g66 at H63 hS
 generalize yg16 12 1 = g67 at H63 hS
 generalize yg16 12 0 = g68 at H63 hS
 generalize yg16 10 1 = g69 at H63 hS
 generalize yg16 10 0 = g70 at H63 hS
 generalize yg16 9 1 = g71 at H63 hS
 generalize yg16 9 0 = g72 at H63 hS
 generalize yg16 8 1 = g73 at H63 hS
 generalize yg16 8 0 = g74 at H63 hS
 generalize yg16 6 1 = g75 at H63 hS
 generalize yg16 6 0 = g76 at H63 hS
 generalize yg16 4 1 = g77 at H63 hS
 generalize yg16 4 0 = g78 at H63 hS
 generalize yg16 2 1 = g79 at H63 hS
 generalize yg16 2 0 = g80 at H63 hS
 replace hS : SH M X w [eO 100 tyProp ([y17, y22, y27, y32, y37, y42, y48, y54] : List TProp) g64, eB b9 [vU 2, vN, vI 0, vU 0, vU 0, vU 0, vU 0], eB b6 (cV y3), gE0] _ := hS.sel [0, 19, 20, 21] rfl
 obtain ⟨z81, hz, hm⟩ := bindE hm
 refine w_cut (fun a' w' => ∃ (g123 : Gh), Fr 57 (fS [1, 3] [vP b6, vL g123 z81]) a' ∧ SH M X w [eO 100 tyProp z81 g123, eB b9 [vU 2, vN, vI 0, vU 0, vU 0, vU 0, vU 0], eB b6 (cV y3), gE0] w') ?_ ?_
 ·replace hm := hz
  apply w_seq
  apply wl_start
  have hd := hS.hand [] [0, 1, 2, 3] rfl rfl
  refine m_stp [24, 1, 2, 3] (fS [1, 2, 3] [vP b6, vP b9, vK g64 8]) H63 rfl rfl rfl rfl (o_lit (T := tS) (E := 9) (zv := vN) [vS [116, 111, 112], vS [114, 105, 103, 104, 116], vS [98, 111, 116, 116, 111, 109], vS [108, 101, 102, 116]] kL6 [gL [], gL [], gL [], gL []] _ H63 hd rfl (by kernel_rfl) (by kernel_rfl) (by kernel_rfl) (by kernel_rfl) (by kernel_rfl) (by kernel_rfl) (by kernel_rfl) rfl (InnL.cons trivial (InnL.cons trivial (InnL.cons trivial (InnL.cons trivial InnL.nil))))) (fun _ => rfl) fun _ _ v H85 hq => ?_
  clear H63 hd
  obtain ⟨g82, rfl, hq⟩ := hq
  replace hS : SH M X w [eO 9 tS kL6 g82, eO 100 tyProp ([y17, y22, y27, y32, y37, y42, y48, y54] : List TProp) g64, eB b9 [vU 2, vN, vI 0, vU 0, vU 0, vU 0, vU 0], eB b6 (cV y3), gE0] _ := hS.join [] [0, 1, 2, 3] rfl rfl hq
  clear hq
  refine wl_batch 1 3 [] [1, 2, 3, 24, 25, 26] (fS [1, 2, 3, 24, 25, 26] [vP b6, vP b9, vK g64 8, vK g82 4, vI 4, vI 0]) [] H85 (by decide) (by kernel_rfl) trivial fun _ _ H87 hb => ?_
  replace hS := hS.below hb
  clear H85 hb
  apply wl_end rfl
  apply w_block
  refine w_loop (fun kk a' w' => ∃ (v88 : List TProp) (v90 : Int) (g89 : Gh), props_Table_L1 m  kk v88 v90 = some _ ∧ Fr 57 (fS [1, 2, 24, 25, 3, 26] [vP b6, vP b9, vK g82 4, vI 4, vL g89 v88, vI v90]) a' ∧ SH M X w [eO 9 tS kL6 g82, eO 100 tyProp v88 g89, eB b9 [vU 2, vN, vI 0, vU 0, vU 0, vU 0, vU 0], eB b6 (cV y3), gE0] w') ⟨_, ([y17, y22, y27, y32, y37, y42, y48, y54] : List TProp), 0, g64, hm, FrG.keep (ks := [1, 2, 24, 25, 3, 26]) H87 (by kernel_rfl), hS⟩ ?_
  clear hm H87 hS
  rintro kk _ _ ⟨v88, v90, g89, hm, H, hS⟩
  cases kk with
  | zero => exact noneE hm
  | succ kk =>
   rw [props_Table_L1] at hm
   refine s_reg [] [1, 2, 3, 24, 25, 26, 27] (fS [1, 2, 3, 24, 25, 26, 27] [vP b6, vP b9, vL g89 v88, vK g82 4, vI 4, vI v90, vB (decide (v90 < 4))]) [] H (by kernel_rfl) trivial fun _ _ H92 hb => ?_
   replace hS := hS.below hb
   clear H hb
   apply w_seq
   refine w_if H92 rfl (fun hc => ?_) (fun hc => ?c121)
   case c121 =>
    replace hm := bF hc hm
    apply w_exit rfl
    obtain rfl := someE hm
    replace hS : SH M X w [eO 100 tyProp v88 g89, eB b9 [vU 2, vN, vI 0, vU 0, vU 0, vU 0, vU 0], eB b6 (cV y3), gE0] _ := hS.sel [1, 2, 3, 4] rfl
    exact ⟨g89, FrG.keep (ks := [1, 3]) H92 (by kernel_rfl), hS⟩
   replace hm := bT hc hm
   apply w_skip
   apply w_seq
   apply w_block
   obtain ⟨ho93, hm⟩ := chkE hm
   obtain ⟨x94, hx94, hm⟩ := letE hm
   refine s_reg [(vS (gi kL6 v90))] [1, 2, 3, 5, 24, 25, 26] (fS [1, 2, 3, 5, 24, 25, 26] [vP b6, vP b9, vL g89 v88, vS x94, vK g82 4, vI 4, vI v90]) [fun _ => oka g82.a ∧ 0 ≤ v90 ∧ v90 < ln kL6, fun wz => V.at1 ⟨ab g82.a, ao g82.a + (v90).toNat * 1, none⟩ (vS (gi kL6 v90)) wz] H92 (by subst hx94; kernel_rfl) ⟨((hS.osl 0 rfl).oki ho93), ((hS.osl 0 rfl).at1 ho93 0 rfl), trivial⟩ fun _ _ H96 hb => ?_
   replace hS := hS.below hb
   clear H92 hb
   apply wl_start
   obtain ⟨ho97, hm⟩ := chkE hm
   refine wl_batch 0 4 [(vG [vU 2, vN, vI 0, vU 0, vU 0, vU 0, vU 0])] [1, 2, 24, 25, 26, 30, 32, 33] (fS [1, 2, 24, 25, 26, 30, 32, 33] [vP b6, vP b9, vK g82 4, vI 4, vI v90, vL g89 v88, vS ([109, 97, 114, 103, 105, 110, 45] ++ x94), vG [vU 2, vN, vI 0, vU 0, vU 0, vU 0, vU 0]]) [fun _ => ln [109, 97, 114, 103, 105, 110, 45] + ln x94 ≤ 9223372036854775807, rN b9 0 [vU 2, vN, vI 0, vU 0, vU 0, vU 0, vU 0]] H96 (by decide) (by kernel_rfl) ⟨ho97, ((hS.bk 2 rfl).atD rfl), trivial⟩ fun _ _ H99 hb => ?_
   replace hS := hS.below hb
   clear H96 hb
   replace hS : SH M X w [eO 5 (tI .u8) ([] : List Int) (.nil), eO 9 tS kL6 g82, eO 100 tyProp v88 g89, eB b9 [vU 2, vN, vI 0, vU 0, vU 0, vU 0, vU 0], eB b6 (cV y3), gE0] _ := hS.addNil 5 (tI .u8)
   replace hS : SH M X w [eI (tI .u8) ([] : List Int) (.nil), eO 9 tS kL6 g82, eO 100 tyProp v88 g89, eB b9 [vU 2, vN, vI 0, vU 0, vU 0, vU 0, vU 0], eB b6 (cV y3), gE0] _ := SH.frz1 (hS.sel [0, 1, 2, 3, 4, 5] rfl)
   obtain ⟨y101, hy101, hm⟩ := bindE hm
   have hd := hS.hand [0, 5] [0, 1, 2, 3, 4, 5] rfl rfl
   refine m_stp [34, 1, 2, 24, 25, 26, 30] (fS [1, 2, 24, 25, 26, 30] [vP b6, vP b9, vK g82 4, vI 4, vI v90, vL g89 v88]) H99 rfl rfl rfl rfl (o_callx H99 rfl rfl (props_length_ok (g_more := Gh.nil) m _ _ _ _ _ _ _ hy101 _ _ hd)) (fun _ => rfl) fun _ _ v H107 hq => ?_
   clear H99 hd
   obtain ⟨g102, g104, rfl, hq⟩ := hq
   replace hS : SH M X w [eO 9 tS y101.Words g102, eO 5 (tI .u8) y101.Kinds g104, eI (tI .u8) ([] : List Int) (.nil), eO 9 tS kL6 g82, eO 100 tyProp v88 g89, eB b9 [vU 2, vN, vI 0, vU 0, vU 0, vU 0, vU 0], eB b6 (cV y3), gE0] _ := hS.join [0, 5] [0, 1, 2, 3, 4, 5] rfl rfl hq
   clear hq
   replace hS : SH M X w [eI tS y101.Words g102, eO 5 (tI .u8) y101.Kinds g104, eI (tI .u8) ([] : List Int) (.nil), eO 9 tS kL6 g82, eO 100 tyProp v88 g89, eB b9 [vU 2, vN, vI 0, vU 0, vU 0, vU 0, vU 0], eB b6 (cV y3), gE0] _ := SH.frz1 (hS.sel [0, 1, 2, 3, 4, 5, 6, 7] rfl)
   replace hS : SH M X w [eI (tI .u8) y101.Kinds g104, eI tS y101.Words g102, eI (tI .u8) ([] : List Int) (.nil), eO 9 tS kL6 g82, eO 100 tyProp v88 g89, eB b9 [vU 2, vN, vI 0, vU 0, vU 0, vU 0, vU 0], eB b6 (cV y3), gE0] _ := SH.frz1 (hS.sel [1, 0, 2, 3, 4, 5, 6, 7] rfl)
   have hd := hS.hand [1, 0] [0, 1, 2, 3, 4, 5, 6, 7] rfl rfl
   refine m_stp [35, 1, 2, 24, 25, 26, 30] (fS [1, 2, 24, 25, 26, 30] [vP b6, vP b9, vK g82 4, vI 4, vI v90, vL g89 v88]) H107 rfl rfl rfl rfl (o_lit (T := tyProp) (E := 100) (zv := vG [vN, vF, vU 0, vN, vI 0, vU 0, vU 0, vU 0, vU 0, vO, vO, vF]) [vS y101.Name, vB y101.Inherited, vU y101.Initial.Kind, vS y101.Initial.Word, vI y101.Initial.Num, vU y101.Initial.Color.Red, vU y101.Initial.Color.Green, vU y101.Initial.Color.Blue, vU y101.Initial.Color.Alpha, vL g102 y101.Words, vL g104 y101.Kinds, vB y101.Least] ([y101] : List TProp) [gL [g102, g104]] _ H107 hd rfl (by kernel_rfl) (by kernel_rfl) (by kernel_rfl) (by kernel_rfl) (by kernel_rfl) (by kernel_rfl) (by kernel_rfl) rfl (InnL.cons (tyProp_mk (hd.im 0 rfl) (hd.im 1 rfl)) InnL.nil)) (fun _ => rfl) fun _ _ v H111 hq => ?_
   clear H107 hd
   obtain ⟨g108, rfl, hq⟩ := hq
   replace hS : SH M X w [eO 100 tyProp ([y101] : List TProp) g108, eI (tI .u8) y101.Kinds g104, eI tS y101.Words g102, eI (tI .u8) ([] : List Int) (.nil), eO 9 tS kL6 g82, eO 100 tyProp v88 g89, eB b9 [vU 2, vN, vI 0, vU 0, vU 0, vU 0, vU 0], eB b6 (cV y3), gE0] _ := hS.join [1, 0] [0, 1, 2, 3, 4, 5, 6, 7] rfl rfl hq
   clear hq
   obtain ⟨ho112, hm⟩ := chkE hm
   obtain ⟨q113, hq113, hm⟩ := letE hm
   have hd := hS.hand [5, 0] [1, 2, 3, 4, 6, 7, 8] rfl rfl
   refine m_stp [36, 1, 2, 24, 25, 26] (fS [1, 2, 24, 25, 26] [vP b6, vP b9, vK g82 4, vI 4, vI v90]) H111 rfl rfl rfl rfl (o_app2 (T := tyProp) (zv := vG [vN, vF, vU 0, vN, vI 0, vU 0, vU 0, vU 0, vU 0, vO, vO, vF]) (g1 := g89) (g2 := g108) (l1 := v88) (l2 := ([y101] : List TProp)) q113 hq113.symm H111 hd rfl rfl rfl rfl rfl rfl rfl (by kernel_rfl) (by kernel_rfl) rfl rfl ho112) (fun _ => rfl) fun _ _ v H115 hq => ?_
   clear H111 hd
   obtain ⟨g116, rfl, hq⟩ := hq
   replace hS : SH M X w [eO 100 tyProp q113 g116, eO 100 tyProp ([y101] : List TProp) g108, eI (tI .u8) y101.Kinds g104, eI tS y101.Words g102, eI (tI .u8) ([] : List Int) (.nil), eO 9 tS kL6 g82, eB b9 [vU 2, vN, vI 0, vU 0, vU 0, vU 0, vU 0], eB b6 (cV y3), gE0] _ := hS.join [5, 0] [1, 2, 3, 4, 6, 7, 8] rfl rfl hq
   clear hq
   refine wl_batch 7 8 [] [1, 2, 3, 24, 25, 26] (fS [1, 2, 3, 24, 25, 26] [vP b6, vP b9, vL g116 q113, vK g82 4, vI 4, vI v90]) [] H115 (by decide) (by kernel_rfl) trivial fun _ _ H118 hb => ?_
   replace hS := hS.below hb
   clear H115 hb
   apply wl_end rfl
   replace hS : SH M X w [eO 100 tyProp q113 g116, eO 9 tS kL6 g82, eB b9 [vU 2, vN, vI 0, vU 0, vU 0, vU 0, vU 0], eB b6 (cV y3), gE0] _ := hS.sel [0, 5, 6, 7, 8] rfl
   refine w_reg [] [1, 2, 3, 24, 25, 26] (fS [1, 2, 3, 24, 25, 26] [vP b6, vP b9, vL g116 q113, vK g82 4, vI 4, vI (w64 (v90 + 1))]) [] H118 (by kernel_rfl) trivial fun _ _ H120 hb => ?_
   replace hS := hS.below hb
   clear H118 hb
   replace hS : SH M X w [eO 9 tS kL6 g82, eO 100 tyProp q113 g116, eB b9 [vU 2, vN, vI 0, vU 0, vU 0, vU 0, vU 0], eB b6 (cV y3), gE0] _ := hS.sel [1, 0, 2, 3, 4] rfl
   exact ⟨_, Nat.lt_succ_self _, q113, w64 (v90 + 1), g116, hm, FrG.keep (ks := [1, 2, 24, 25, 3, 26]) H120 (by kernel_rfl), hS⟩
 ·rintro _ _ ⟨g123, H, hS⟩
  replace hS : SH M X w [eO 100 tyProp z81 g123, eB b6 (cV y3), gE0] _ := hS.sel [0, 2, 3] rfl
  obtain ⟨y126, hy126, hm⟩ := bindE hm
  obtain ⟨y131, hy131, hm⟩ := letE hm
  obtain ⟨y134, hy134, hm⟩ := bindE hm
  obtain ⟨y139, hy139, hm⟩ := bindE hm
  obtain ⟨ho154, hm⟩ := chkE hm
  obtain ⟨q155, hq155, hm⟩ := letE hm
  refine s_drawS (base := (fS [1, 3] [vP b6, vL g123 z81])) (L := [eO 100 tyProp z81 g123, eB b6 (cV y3), gE0]) 20 3 (fun yg124 => [vL g123 z81, vG [vU 2, vN, vI 16000, vU 0, vU 0, vU 0, vU 0], vG [vS y126.Name, vB y126.Inherited, vU y126.Initial.Kind, vS y126.Initial.Word, vI y126.Initial.Num, vU y126.Initial.Color.Red, vU y126.Initial.Color.Green, vU y126.Initial.Color.Blue, vU y126.Initial.Color.Alpha, .slice (yg124 2 0).a y126.Words.length (yg124 2 0).c, .slice (yg124 2 1).a y126.Kinds.length (yg124 2 1).c, vB y126.Least], vG (cV y131), vK (yg124 4 0) 1, vG [vS y134.Name, vB y134.Inherited, vU y134.Initial.Kind, vS y134.Initial.Word, vI y134.Initial.Num, vU y134.Initial.Color.Red, vU y134.Initial.Color.Green, vU y134.Initial.Color.Blue, vU y134.Initial.Color.Alpha, .slice (yg124 5 0).a y134.Words.length (yg124 5 0).c, .slice (yg124 5 1).a y134.Kinds.length (yg124 5 1).c, vB y134.Least], vG [vS y139.Name, vB y139.Inherited, vU y139.Initial.Kind, vS y139.Initial.Word, vI y139.Initial.Num, vU y139.Initial.Color.Red, vU y139.Initial.Color.Green, vU y139.Initial.Color.Blue, vU y139.Initial.Color.Alpha, .slice (yg124 6 0).a y139.Words.length (yg124 6 0).c, .slice (yg124 6 1).a y139.Kinds.length (yg124 6 1).c, vB y139.Least], vG [vU 5, vN, vI 1000, vU 0, vU 0, vU 0, vU 0], vK (yg124 8 0) 1, vG [vS [111, 112, 97, 99, 105, 116, 121], vF, vU 5, vN, vI 1000, vU 0, vU 0, vU 0, vU 0, vO, vK (yg124 8 0) 1, vF], vG (cV y3), vK (yg124 11 0) 1, vK (yg124 12 0) 1, vG [vS [122, 45, 105, 110, 100, 101, 120], vF, vU y3.Kind, vS y3.Word, vI y3.Num, vU y3.Color.Red, vU y3.Color.Green, vU y3.Color.Blue, vU y3.Color.Alpha, vK (yg124 11 0) 1, vK (yg124 12 0) 1, vF], vG [vU 6, vN, vI 0, vU 0, vU 0, vU 0, vU 0], vK (yg124 15 0) 1, vG [vS [111, 114, 100, 101, 114], vF, vU 6, vN, vI 0, vU 0, vU 0, vU 0, vU 0, vO, vK (yg124 15 0) 1, vF], vK (yg124 17 0) 6, .slice (yg124 18 0).a q155.length (yg124 18 0).c, .slice (yg124 18 0).a q155.length (yg124 18 0).c]) (fun yg124 => [[], [], [eO 9 tS y126.Words (yg124 2 0), eO 5 (tI .u8) y126.Kinds (yg124 2 1), eI (tI .u8) ([] : List Int) (.nil)], [], [eO 5 (tI .u8) ([5] : List Int) (yg124 4 0)], [eO 9 tS y134.Words (yg124 5 0), eO 5 (tI .u8) y134.Kinds (yg124 5 1), eI (tI .u8) ([5] : List Int) (yg124 4 0)], [eO 9 tS y139.Words (yg124 6 0), eO 5 (tI .u8) y139.Kinds (yg124 6 1)], [], [eO 5 (tI .u8) ([5] : List Int) (yg124 8 0)], [], [], [eO 9 tS kL0 (yg124 11 0)], [eO 5 (tI .u8) ([6] : List Int) (yg124 12 0)], [], [], [eO 5 (tI .u8) ([6] : List Int) (yg124 15 0)], [], [eO 100 tyProp ([y126, y134, y139, (TProp.mk [111, 112, 97, 99, 105, 116, 121] false (TVal.mk 5 [] 1000 (TColor.mk 0 0 0 0)) [] ([5] : List Int) false), (TProp.mk [122, 45, 105, 110, 100, 101, 120] false y3 kL0 ([6] : List Int) false), (TProp.mk [111, 114, 100, 101, 114] false (TVal.mk 6 [] 0 (TColor.mk 0 0 0 0)) [] ([6] : List Int) false)] : List TProp) (yg124 17 0), eI (tI .u8) ([6] : List Int) (yg124 15 0), eI (tI .u8) ([6] : List Int) (yg124 12 0), eI tS kL0 (yg124 11 0), eI (tI .u8) ([5] : List Int) (yg124 8 0), eI (tI .u8) y139.Kinds (yg124 6 1), eI tS y139.Words (yg124 6 0), eI (tI .u8) y134.Kinds (yg124 5 1), eI tS y134.Words (yg124 5 0), eI (tI .u8) y126.Kinds (yg124 2 1), eI tS y126.Words (yg124 2 0), eI (tI .u8) ([] : List Int) (.nil), eI (tI .u8) ([5] : List Int) (yg124 4 0)], [eO 100 tyProp q155 (yg124 18 0)], []]) [[], [], [22], [], [], [4, 22], [22], [], [], [8], [21], [], [], [11, 12], [], [], [15], [2, 5, 6, 8, 11, 12, 15], [17, 20], [18]] [[], [], [], [], [], [4], [], [], [], [], [], [], [], [], [], [], [], [2, 5, 6, 8, 11, 12, 15], [20], []] [[0], [1], [1, 2], [3], [4], [3, 4, 5], [6], [7], [8], [7, 8, 9], [10], [11], [12], [10, 11, 12, 13], [14], [15], [14, 15, 16], [1, 2, 3, 4, 5, 6, 7, 8, 9, 10, 11, 12, 13, 14, 15, 16, 17], [0, 1, 2, 3, 4, 5, 6, 7, 8, 9, 10, 11, 12, 13, 14, 15, 16, 17, 18], [0, 1, 2, 3, 4, 5, 6, 7, 8, 9, 10, 11, 12, 13, 14, 15, 16, 17, 18, 19]] [] (FrG.keep (ks := [1, 3]) H (by kernel_rfl)) (fun _ _ h => by cases h) (by kernel_rfl) hS (by kernel_rfl) rfl rfl (by kernel_rfl) (by kernel_rfl) (by kernel_rfl) (gd_none (by kernel_rfl) _ _) ?hloc_yg124 ?hstep_yg124 fun _ _ yg124 H158 hv hS => ?hK_yg124
  case hloc_yg124 => exact ⟨(fun _ _ _ _ => ⟨rfl, rfl⟩), (fun _ _ _ _ => ⟨rfl, rfl⟩), (fun _ i g hi => lcG [2] (fun yg124 => (vG [vS y126.Name, vB y126.Inherited, vU y126.Initial.Kind, vS y126.Initial.Word, vI y126.Initial.Num, vU y126.Initial.Color.Red, vU y126.Initial.Color.Green, vU y126.Initial.Color.Blue, vU y126.Initial.Color.Alpha, .slice (yg124 2 0).a y126.Words.length (yg124 2 0).c, .slice (yg124 2 1).a y126.Kinds.length (yg124 2 1).c, vB y126.Least], [eO 9 tS y126.Words (yg124 2 0), eO 5 (tI .u8) y126.Kinds (yg124 2 1), eI (tI .u8) ([] : List Int) (.nil)])) hi rfl), (fun _ _ _ _ => ⟨rfl, rfl⟩), (fun _ i g hi => lcG [4] (fun yg124 => (vK (yg124 4 0) 1, [eO 5 (tI .u8) ([5] : List Int) (yg124 4 0)])) hi rfl), (fun _ i g hi => lcG [4, 5] (fun yg124 => (vG [vS y134.Name, vB y134.Inherited, vU y134.Initial.Kind, vS y134.Initial.Word, vI y134.Initial.Num, vU y134.Initial.Color.Red, vU y134.Initial.Color.Green, vU y134.Initial.Color.Blue, vU y134.Initial.Color.Alpha, .slice (yg124 5 0).a y134.Words.length (yg124 5 0).c, .slice (yg124 5 1).a y134.Kinds.length (yg124 5 1).c, vB y134.Least], [eO 9 tS y134.Words (yg124 5 0), eO 5 (tI .u8) y134.Kinds (yg124 5 1), eI (tI .u8) ([5] : List Int) (yg124 4 0)])) hi rfl), (fun _ i g hi => lcG [6] (fun yg124 => (vG [vS y139.Name, vB y139.Inherited, vU y139.Initial.Kind, vS y139.Initial.Word, vI y139.Initial.Num, vU y139.Initial.Color.Red, vU y139.Initial.Color.Green, vU y139.Initial.Color.Blue, vU y139.Initial.Color.Alpha, .slice (yg124 6 0).a y139.Words.length (yg124 6 0).c, .slice (yg124 6 1).a y139.Kinds.length (yg124 6 1).c, vB y139.Least], [eO 9 tS y139.Words (yg124 6 0), eO 5 (tI .u8) y139.Kinds (yg124 6 1)])) hi rfl), (fun _ _ _ _ => ⟨rfl, rfl⟩), (fun _ i g hi => lcG [8] (fun yg124 => (vK (yg124 8 0) 1, [eO 5 (tI .u8) ([5] : List Int) (yg124 8 0)])) hi rfl), (fun _ i g hi => lcG [8] (fun yg124 => (vG [vS [111, 112, 97, 99, 105, 116, 121], vF, vU 5, vN, vI 1000, vU 0, vU 0, vU 0, vU 0, vO, vK (yg124 8 0) 1, vF], [])) hi rfl), (fun _ _ _ _ => ⟨rfl, rfl⟩), (fun _ i g hi => lcG [11] (fun yg124 => (vK (yg124 11 0) 1, [eO 9 tS kL0 (yg124 11 0)])) hi rfl), (fun _ i g hi => lcG [12] (fun yg124 => (vK (yg124 12 0) 1, [eO 5 (tI .u8) ([6] : List Int) (yg124 12 0)])) hi rfl), (fun _ i g hi => lcG [11, 12] (fun yg124 => (vG [vS [122, 45, 105, 110, 100, 101, 120], vF, vU y3.Kind, vS y3.Word, vI y3.Num, vU y3.Color.Red, vU y3.Color.Green, vU y3.Color.Blue, vU y3.Color.Alpha, vK (yg124 11 0) 1, vK (yg124 12 0) 1, vF], [])) hi rfl), (fun _ _ _ _ => ⟨rfl, rfl⟩), (fun _ i g hi => lcG [15] (fun yg124 => (vK (yg124 15 0) 1, [eO 5 (tI .u8) ([6] : List Int) (yg124 15 0)])) hi rfl), (fun _ i g hi => lcG [15] (fun yg124 => (vG [vS [111, 114, 100, 101, 114], vF, vU 6, vN, vI 0, vU 0, vU 0, vU 0, vU 0, vO, vK (yg124 15 0) 1, vF], [])) hi rfl), (fun _ i g hi => lcG [2, 4, 5, 6, 8, 11, 12, 15, 17] (fun yg124 => (vK (yg124 17 0) 6, [eO 100 tyProp ([y126, y134, y139, (TProp.mk [111, 112, 97, 99, 105, 116, 121] false (TVal.mk 5 [] 1000 (TColor.mk 0 0 0 0)) [] ([5] : List Int) false), (TProp.mk [122, 45, 105, 110, 100, 101, 120] false y3 kL0 ([6] : List Int) false), (TProp.mk [111, 114, 100, 101, 114] false (TVal.mk 6 [] 0 (TColor.mk 0 0 0 0)) [] ([6] : List Int) false)] : List TProp) (yg124 17 0), eI (tI .u8) ([6] : List Int) (yg124 15 0), eI (tI .u8) ([6] : List Int) (yg124 12 0), eI tS kL0 (yg124 11 0), eI (tI .u8) ([5] : List Int) (yg124 8 0), eI (tI .u8) y139.Kinds (yg124 6 1), eI tS y139.Words (yg124 6 0), eI (tI .u8) y134.Kinds (yg124 5 1), eI tS y134.Words (yg124 5 0), eI (tI .u8) y126.Kinds (yg124 2 1), eI tS y126.Words (yg124 2 0), eI (tI .u8) ([] : List Int) (.nil), eI (tI .u8) ([5] : List Int) (yg124 4 0)])) hi rfl), (fun _ i g hi => lcG [18] (fun yg124 => (.slice (yg124 18 0).a q155.length (yg124 18 0).c, [eO 100 tyProp q155 (yg124 18 0)])) hi rfl), (fun _ i g hi => lcG [18] (fun yg124 => (.slice (yg124 18 0).a q155.length (yg124 18 0).c, [])) hi rfl), trivial⟩
  case hstep_yg124 =>
   refine ⟨?_, ?_, ?_, ?_, ?_, ?_, ?_, ?_, ?_, ?_, ?_, ?_, ?_, ?_, ?_, ?_, ?_, ?_, ?_, ?_, trivial⟩
   ·intro o ho a w yg124 M Hb hv hO hS
    obtain rfl := someE ho
    exact Stp.mono (o_evs [] (vL g123 z81) none [] Hb rfl (by kernel_rfl) (fun q e => by cases e)) fun _ _ hq => ⟨gL [], fun _ _ => hq.1, (hS.below hq.2.below).sel [] rfl⟩
   ·intro o ho a w yg124 M Hb hv hO hS
    obtain rfl := someE ho
    exact Stp.mono (o_evs [] (vG [vU 2, vN, vI 16000, vU 0, vU 0, vU 0, vU 0]) none [] Hb rfl (by kernel_rfl) (fun q e => by cases e)) fun _ _ hq => ⟨gL [], fun _ _ => hq.1, (hS.below hq.2.below).sel [] rfl⟩
   ·intro o ho a w yg124 M Hb hv hO hS0
    obtain rfl := someE ho
    have H : Fr 57 ([(39, [], vG [vU 2, vN, vI 16000, vU 0, vU 0, vU 0, vU 0])] ++ (fS [1, 3] [vP b6, vL g123 z81])) _ := (Hb).add (hv 1 (by decide) (by decide) 39 rfl)
    obtain ⟨X, hX⟩ : ∃ X, X = fpl [gE0] := ⟨_, rfl⟩
    have hS : SH M X w [gE0] w := by rw [hX]; exact hS0
    replace hS : SH M X w [eO 5 (tI .u8) ([] : List Int) (.nil), gE0] _ := hS.addNil 5 (tI .u8)
    replace hS : SH M X w [eI (tI .u8) ([] : List Int) (.nil), gE0] _ := SH.frz1 (hS.sel [0, 1] rfl)
    have hd := hS.hand [0, 1] [0, 1] rfl rfl
    refine Stp.mono (o_callx H rfl rfl (props_length_ok (g_more := Gh.nil) m _ _ _ _ _ _ _ hy126 _ _ hd)) ?_
    rintro v w2 hq
    obtain ⟨g127, g129, rfl, hq⟩ := hq
    replace hS : SH M X w [eO 9 tS y126.Words g127, eO 5 (tI .u8) y126.Kinds g129, eI (tI .u8) ([] : List Int) (.nil), gE0] _ := hS.join [0, 1] [0, 1] rfl rfl hq
    clear hq
    rw [hX] at hS
    exact ⟨gL [g127, g129], fun _ _ => rfl, hS.sel [0, 1, 2, 3] rfl⟩
   ·intro o ho a w yg124 M Hb hv hO hS
    obtain rfl := someE ho
    exact Stp.mono (o_evs [(vG (cV y131))] (vG (cV y131)) (some (rB 76 [vS [110, 111, 114, 109, 97, 108]] (vG (cV y131)))) [] Hb rfl (by subst hy131; kernel_rfl) (fun q e => by cases e; exact ((by rw [hy131]; exact (props_word_ok _).b)))) fun _ _ hq => ⟨gL [], fun _ _ => hq.1, (hS.below hq.2.below).sel [] rfl⟩
   ·intro o ho a w yg124 M Hb hv hO hS0
    obtain rfl := someE ho
    have H : Fr 57 ([] ++ (fS [1, 3] [vP b6, vL g123 z81])) _ := Hb
    obtain ⟨X, hX⟩ : ∃ X, X = fpl [] := ⟨_, rfl⟩
    have hS : SH M X w [] w := by rw [hX]; exact hS0
    have hd := hS.hand [] [] rfl rfl
    refine Stp.mono (o_lit (T := (tI .u8)) (E := 5) (zv := vU 0) [vU 5] ([5] : List Int) [gL []] _ H hd rfl (by kernel_rfl) (by kernel_rfl) (by kernel_rfl) (by kernel_rfl) (by kernel_rfl) (by kernel_rfl) (by kernel_rfl) rfl (InnL.cons trivial InnL.nil)) ?_
    rintro v w2 hq
    obtain ⟨g132, rfl, hq⟩ := hq
    replace hS : SH M X w [eO 5 (tI .u8) ([5] : List Int) g132] _ := hS.join [] [] rfl rfl hq
    clear hq
    rw [hX] at hS
    exact ⟨gL [g132], fun _ _ => rfl, hS.sel [0] rfl⟩
   ·intro o ho a w yg124 M Hb hv hO hS0
    obtain rfl := someE ho
    have H : Fr 57 ((fS [42, 41] [vK (yg124 4 0) 1, vG (cV y131)]) ++ (fS [1, 3] [vP b6, vL g123 z81])) _ := ((Hb).add (hv 3 (by decide) (by decide) 41 rfl)).add (hv 4 (by decide) (by decide) 42 rfl)
    obtain ⟨X, hX⟩ : ∃ X, X = fpl [eO 5 (tI .u8) ([5] : List Int) (yg124 4 0), gE0] := ⟨_, rfl⟩
    have hS : SH M X w [eO 5 (tI .u8) ([5] : List Int) (yg124 4 0), gE0] w := by rw [hX]; exact hS0
    replace hS : SH M X w [eI (tI .u8) ([5] : List Int) (yg124 4 0), gE0] _ := SH.frz1 (hS.sel [0, 1] rfl)
    have hd := hS.hand [0, 1] [0, 1] rfl rfl
    refine Stp.mono (o_callx H rfl rfl (props_length_ok (g_more := (yg124 4 0)) m _ _ _ _ _ _ _ hy134 _ _ hd)) ?_
    rintro v w2 hq
    obtain ⟨g135, g137, rfl, hq⟩ := hq
    replace hS : SH M X w [eO 9 tS y134.Words g135, eO 5 (tI .u8) y134.Kinds g137, eI (tI .u8) ([5] : List Int) (yg124 4 0), gE0] _ := hS.join [0, 1] [0, 1] rfl rfl hq
    clear hq
    rw [hX] at hS
    exact ⟨gL [g135, g137], fun _ _ => rfl, hS.sel [0, 1, 2, 3] rfl⟩
   ·intro o ho a w yg124 M Hb hv hO hS0
    obtain rfl := someE ho
    have H : Fr 57 ([] ++ (fS [1, 3] [vP b6, vL g123 z81])) _ := Hb
    obtain ⟨X, hX⟩ : ∃ X, X = fpl [gE0] := ⟨_, rfl⟩
    have hS : SH M X w [gE0] w := by rw [hX]; exact hS0
    have hd := hS.hand [0] [0] rfl rfl
    refine Stp.mono (o_callx H rfl rfl (props_words_ok m _ _ _ _ _ hy139 _ _ hd)) ?_
    rintro v w2 hq
    obtain ⟨g140, g142, rfl, hq⟩ := hq
    replace hS : SH M X w [eO 9 tS y139.Words g140, eO 5 (tI .u8) y139.Kinds g142, gE0] _ := hS.join [0] [0] rfl rfl hq
    clear hq
    rw [hX] at hS
    exact ⟨gL [g140, g142], fun _ _ => rfl, hS.sel [0, 1, 2] rfl⟩
   ·intro o ho a w yg124 M Hb hv hO hS
    obtain rfl := someE ho
    exact Stp.mono (o_evs [] (vG [vU 5, vN, vI 1000, vU 0, vU 0, vU 0, vU 0]) none [] Hb rfl (by kernel_rfl) (fun q e => by cases e)) fun _ _ hq => ⟨gL [], fun _ _ => hq.1, (hS.below hq.2.below).sel [] rfl⟩
   ·intro o ho a w yg124 M Hb hv hO hS0
    obtain rfl := someE ho
    have H : Fr 57 ([] ++ (fS [1, 3] [vP b6, vL g123 z81])) _ := Hb
    obtain ⟨X, hX⟩ : ∃ X, X = fpl [] := ⟨_, rfl⟩
    have hS : SH M X w [] w := by rw [hX]; exact hS0
    have hd := hS.hand [] [] rfl rfl
    refine Stp.mono (o_lit (T := (tI .u8)) (E := 5) (zv := vU 0) [vU 5] ([5] : List Int) [gL []] _ H hd rfl (by kernel_rfl) (by kernel_rfl) (by kernel_rfl) (by kernel_rfl) (by kernel_rfl) (by kernel_rfl) (by kernel_rfl) rfl (InnL.cons trivial InnL.nil)) ?_
    rintro v w2 hq
    obtain ⟨g144, rfl, hq⟩ := hq
    replace hS : SH M X w [eO 5 (tI .u8) ([5] : List Int) g144] _ := hS.join [] [] rfl rfl hq
    clear hq
    rw [hX] at hS
    exact ⟨gL [g144], fun _ _ => rfl, hS.sel [0] rfl⟩
   ·intro o ho a w yg124 M Hb hv hO hS
    obtain rfl := someE ho
    exact Stp.mono (o_evs [] (vG [vS [111, 112, 97, 99, 105, 116, 121], vF, vU 5, vN, vI 1000, vU 0, vU 0, vU 0, vU 0, vO, vK (yg124 8 0) 1, vF]) none [] (((Hb).add (hv 7 (by decide) (by decide) 45 rfl)).add (hv 8 (by decide) (by decide) 46 rfl)) rfl (by kernel_rfl) (fun q e => by cases e)) fun _ _ hq => ⟨gL [], fun _ _ => hq.1, (hS.below hq.2.below).sel [0] rfl⟩
   ·intro o ho a w yg124 M Hb hv hO hS
    obtain rfl := someE ho
    exact Stp.mono (o_evs [(vG (cV y3))] (vG (cV y3)) (some (rN b6 0 (cV y3))) [] Hb rfl (by kernel_rfl) (fun q e => by cases e; exact ((hS.bk 0 rfl).atD rfl))) fun _ _ hq => ⟨gL [], fun _ _ => hq.1, (hS.below hq.2.below).sel [0] rfl⟩
   ·intro o ho a w yg124 M Hb hv hO hS0
    obtain rfl := someE ho
    have H : Fr 57 ([] ++ (fS [1, 3] [vP b6, vL g123 z81])) _ := Hb
    obtain ⟨X, hX⟩ : ∃ X, X = fpl [] := ⟨_, rfl⟩
    have hS : SH M X w [] w := by rw [hX]; exact hS0
    have hd := hS.hand [] [] rfl rfl
    refine Stp.mono (o_lit (T := tS) (E := 9) (zv := vN) [vS [97, 117, 116, 111]] kL0 [gL []] _ H hd rfl (by kernel_rfl) (by kernel_rfl) (by kernel_rfl) (by kernel_rfl) (by kernel_rfl) (by kernel_rfl) (by kernel_rfl) rfl (InnL.cons trivial InnL.nil)) ?_
    rintro v w2 hq
    obtain ⟨g146, rfl, hq⟩ := hq
    replace hS : SH M X w [eO 9 tS kL0 g146] _ := hS.join [] [] rfl rfl hq
    clear hq
    rw [hX] at hS
    exact ⟨gL [g146], fun _ _ => rfl, hS.sel [0] rfl⟩
   ·intro o ho a w yg124 M Hb hv hO hS0
    obtain rfl := someE ho
    have H : Fr 57 ([] ++ (fS [1, 3] [vP b6, vL g123 z81])) _ := Hb
    obtain ⟨X, hX⟩ : ∃ X, X = fpl [] := ⟨_, rfl⟩
    have hS : SH M X w [] w := by rw [hX]; exact hS0
    have hd := hS.hand [] [] rfl rfl
    refine Stp.mono (o_lit (T := (tI .u8)) (E := 5) (zv := vU 0) [vU 6] ([6] : List Int) [gL []] _ H hd rfl (by kernel_rfl) (by kernel_rfl) (by kernel_rfl) (by kernel_rfl) (by kernel_rfl) (by kernel_rfl) (by kernel_rfl) rfl (InnL.cons trivial InnL.nil)) ?_
    rintro v w2 hq
    obtain ⟨g148, rfl, hq⟩ := hq
    replace hS : SH M X w [eO 5 (tI .u8) ([6] : List Int) g148] _ := hS.join [] [] rfl rfl hq
    clear hq
    rw [hX] at hS
    exact ⟨gL [g148], fun _ _ => rfl, hS.sel [0] rfl⟩
   ·intro o ho a w yg124 M Hb hv hO hS
    obtain rfl := someE ho
    exact Stp.mono (o_evs [] (vG [vS [122, 45, 105, 110, 100, 101, 120], vF, vU y3.Kind, vS y3.Word, vI y3.Num, vU y3.Color.Red, vU y3.Color.Green, vU y3.Color.Blue, vU y3.Color.Alpha, vK (yg124 11 0) 1, vK (yg124 12 0) 1, vF]) none [] ((((Hb).add (hv 10 (by decide) (by decide) 48 rfl)).add (hv 11 (by decide) (by decide) 49 rfl)).add (hv 12 (by decide) (by decide) 50 rfl)) rfl (by kernel_rfl) (fun q e => by cases e)) fun _ _ hq => ⟨gL [], fun _ _ => hq.1, (hS.below hq.2.below).sel [0, 1] rfl⟩
   ·intro o ho a w yg124 M Hb hv hO hS
    obtain rfl := someE ho
    exact Stp.mono (o_evs [] (vG [vU 6, vN, vI 0, vU 0, vU 0, vU 0, vU 0]) none [] Hb rfl (by kernel_rfl) (fun q e => by cases e)) fun _ _ hq => ⟨gL [], fun _ _ => hq.1, (hS.below hq.2.below).sel [] rfl⟩
   ·intro o ho a w yg124 M Hb hv hO hS0
    obtain rfl := someE ho
    have H : Fr 57 ([] ++ (fS [1, 3] [vP b6, vL g123 z81])) _ := Hb
    obtain ⟨X, hX⟩ : ∃ X, X = fpl [] := ⟨_, rfl⟩
    have hS : SH M X w [] w := by rw [hX]; exact hS0
    have hd := hS.hand [] [] rfl rfl
    refine Stp.mono (o_lit (T := (tI .u8)) (E := 5) (zv := vU 0) [vU 6] ([6] : List Int) [gL []] _ H hd rfl (by kernel_rfl) (by kernel_rfl) (by kernel_rfl) (by kernel_rfl) (by kernel_rfl) (by kernel_rfl) (by kernel_rfl) rfl (InnL.cons trivial InnL.nil)) ?_
    rintro v w2 hq
    obtain ⟨g150, rfl, hq⟩ := hq
    replace hS : SH M X w [eO 5 (tI .u8) ([6] : List Int) g150] _ := hS.join [] [] rfl rfl hq
    clear hq
    rw [hX] at hS
    exact ⟨gL [g150], fun _ _ => rfl, hS.sel [0] rfl⟩
   ·intro o ho a w yg124 M Hb hv hO hS
    obtain rfl := someE ho
    exact Stp.mono (o_evs [] (vG [vS [111, 114, 100, 101, 114], vF, vU 6, vN, vI 0, vU 0, vU 0, vU 0, vU 0, vO, vK (yg124 15 0) 1, vF]) none [] (((Hb).add (hv 14 (by decide) (by decide) 52 rfl)).add (hv 15 (by decide) (by decide) 53 rfl)) rfl (by kernel_rfl) (fun q e => by cases e)) fun _ _ hq => ⟨gL [], fun _ _ => hq.1, (hS.below hq.2.below).sel [0] rfl⟩
   ·intro o ho a w yg124 M Hb hv hO hS0
    obtain rfl := someE ho
    have H : Fr 57 ((fS [54, 51, 47, 44, 43, 40] [vG [vS [111, 114, 100, 101, 114], vF, vU 6, vN, vI 0, vU 0, vU 0, vU 0, vU 0, vO, vK (yg124 15 0) 1, vF], vG [vS [122, 45, 105, 110, 100, 101, 120], vF, vU y3.Kind, vS y3.Word, vI y3.Num, vU y3.Color.Red, vU y3.Color.Green, vU y3.Color.Blue, vU y3.Color.Alpha, vK (yg124 11 0) 1, vK (yg124 12 0) 1, vF], vG [vS [111, 112, 97, 99, 105, 116, 121], vF, vU 5, vN, vI 1000, vU 0, vU 0, vU 0, vU 0, vO, vK (yg124 8 0) 1, vF], vG [vS y139.Name, vB y139.Inherited, vU y139.Initial.Kind, vS y139.Initial.Word, vI y139.Initial.Num, vU y139.Initial.Color.Red, vU y139.Initial.Color.Green, vU y139.Initial.Color.Blue, vU y139.Initial.Color.Alpha, .slice (yg124 6 0).a y139.Words.length (yg124 6 0).c, .slice (yg124 6 1).a y139.Kinds.length (yg124 6 1).c, vB y139.Least], vG [vS y134.Name, vB y134.Inherited, vU y134.Initial.Kind, vS y134.Initial.Word, vI y134.Initial.Num, vU y134.Initial.Color.Red, vU y134.Initial.Color.Green, vU y134.Initial.Color.Blue, vU y134.Initial.Color.Alpha, .slice (yg124 5 0).a y134.Words.length (yg124 5 0).c, .slice (yg124 5 1).a y134.Kinds.length (yg124 5 1).c, vB y134.Least], vG [vS y126.Name, vB y126.Inherited, vU y126.Initial.Kind, vS y126.Initial.Word, vI y126.Initial.Num, vU y126.Initial.Color.Red, vU y126.Initial.Color.Green, vU y126.Initial.Color.Blue, vU y126.Initial.Color.Alpha, .slice (yg124 2 0).a y126.Words.length (yg124 2 0).c, .slice (yg124 2 1).a y126.Kinds.length (yg124 2 1).c, vB y126.Least]]) ++ (fS [1, 3] [vP b6, vL g123 z81])) _ := ((((((Hb).add (hv 2 (by decide) (by decide) 40 rfl)).add (hv 5 (by decide) (by decide) 43 rfl)).add (hv 6 (by decide) (by decide) 44 rfl)).add (hv 9 (by decide) (by decide) 47 rfl)).add (hv 13 (by decide) (by decide) 51 rfl)).add (hv 16 (by decide) (by decide) 54 rfl)
    obtain ⟨X, hX⟩ : ∃ X, X = fpl [eO 9 tS y126.Words (yg124 2 0), eO 5 (tI .u8) y126.Kinds (yg124 2 1), eI (tI .u8) ([] : List Int) (.nil), eO 9 tS y134.Words (yg124 5 0), eO 5 (tI .u8) y134.Kinds (yg124 5 1), eI (tI .u8) ([5] : List Int) (yg124 4 0), eO 9 tS y139.Words (yg124 6 0), eO 5 (tI .u8) y139.Kinds (yg124 6 1), eO 5 (tI .u8) ([5] : List Int) (yg124 8 0), eO 9 tS kL0 (yg124 11 0), eO 5 (tI .u8) ([6] : List Int) (yg124 12 0), eO 5 (tI .u8) ([6] : List Int) (yg124 15 0)] := ⟨_, rfl⟩
    have hS : SH M X w [eO 9 tS y126.Words (yg124 2 0), eO 5 (tI .u8) y126.Kinds (yg124 2 1), eI (tI .u8) ([] : List Int) (.nil), eO 9 tS y134.Words (yg124 5 0), eO 5 (tI .u8) y134.Kinds (yg124 5 1), eI (tI .u8) ([5] : List Int) (yg124 4 0), eO 9 tS y139.Words (yg124 6 0), eO 5 (tI .u8) y139.Kinds (yg124 6 1), eO 5 (tI .u8) ([5] : List Int) (yg124 8 0), eO 9 tS kL0 (yg124 11 0), eO 5 (tI .u8) ([6] : List Int) (yg124 12 0), eO 5 (tI .u8) ([6] : List Int) (yg124 15 0)] w := by rw [hX]; exact hS0
    replace hS : SH M X w [eI tS y126.Words (yg124 2 0), eO 5 (tI .u8) y126.Kinds (yg124 2 1), eI (tI .u8) ([] : List Int) (.nil), eO 9 tS y134.Words (yg124 5 0), eO 5 (tI .u8) y134.Kinds (yg124 5 1), eI (tI .u8) ([5] : List Int) (yg124 4 0), eO 9 tS y139.Words (yg124 6 0), eO 5 (tI .u8) y139.Kinds (yg124 6 1), eO 5 (tI .u8) ([5] : List Int) (yg124 8 0), eO 9 tS kL0 (yg124 11 0), eO 5 (tI .u8) ([6] : List Int) (yg124 12 0), eO 5 (tI .u8) ([6] : List Int) (yg124 15 0)] _ := SH.frz1 (hS.sel [0, 1, 2, 3, 4, 5, 6, 7, 8, 9, 10, 11] rfl)
    replace hS : SH M X w [eI (tI .u8) y126.Kinds (yg124 2 1), eI tS y126.Words (yg124 2 0), eI (tI .u8) ([] : List Int) (.nil), eO 9 tS y134.Words (yg124 5 0), eO 5 (tI .u8) y134.Kinds (yg124 5 1), eI (tI .u8) ([5] : List Int) (yg124 4 0), eO 9 tS y139.Words (yg124 6 0), eO 5 (tI .u8) y139.Kinds (yg124 6 1), eO 5 (tI .u8) ([5] : List Int) (yg124 8 0), eO 9 tS kL0 (yg124 11 0), eO 5 (tI .u8) ([6] : List Int) (yg124 12 0), eO 5 (tI .u8) ([6] : List Int) (yg124 15 0)] _ := SH.frz1 (hS.sel [1, 0, 2, 3, 4, 5, 6, 7, 8, 9, 10, 11] rfl)
    replace hS : SH M X w [eI tS y134.Words (yg124 5 0), eI (tI .u8) y126.Kinds (yg124 2 1), eI tS y126.Words (yg124 2 0), eI (tI .u8) ([] : List Int) (.nil), eO 5 (tI .u8) y134.Kinds (yg124 5 1), eI (tI .u8) ([5] : List Int) (yg124 4 0), eO 9 tS y139.Words (yg124 6 0), eO 5 (tI .u8) y139.Kinds (yg124 6 1), eO 5 (tI .u8) ([5] : List Int) (yg124 8 0), eO 9 tS kL0 (yg124 11 0), eO 5 (tI .u8) ([6] : List Int) (yg124 12 0), eO 5 (tI .u8) ([6] : List Int) (yg124 15 0)] _ := SH.frz1 (hS.sel [3, 0, 1, 2, 4, 5, 6, 7, 8, 9, 10, 11] rfl)
    replace hS : SH M X w [eI (tI .u8) y134.Kinds (yg124 5 1), eI tS y134.Words (yg124 5 0), eI (tI .u8) y126.Kinds (yg124 2 1), eI tS y126.Words (yg124 2 0), eI (tI .u8) ([] : List Int) (.nil), eI (tI .u8) ([5] : List Int) (yg124 4 0), eO 9 tS y139.Words (yg124 6 0), eO 5 (tI .u8) y139.Kinds (yg124 6 1), eO 5 (tI .u8) ([5] : List Int) (yg124 8 0), eO 9 tS kL0 (yg124 11 0), eO 5 (tI .u8) ([6] : List Int) (yg124 12 0), eO 5 (tI .u8) ([6] : List Int) (yg124 15 0)] _ := SH.frz1 (hS.sel [4, 0, 1, 2, 3, 5, 6, 7, 8, 9, 10, 11] rfl)
    replace hS : SH M X w [eI tS y139.Words (yg124 6 0), eI (tI .u8) y134.Kinds (yg124 5 1), eI tS y134.Words (yg124 5 0), eI (tI .u8) y126.Kinds (yg124 2 1), eI tS y126.Words (yg124 2 0), eI (tI .u8) ([] : List Int) (.nil), eI (tI .u8) ([5] : List Int) (yg124 4 0), eO 5 (tI .u8) y139.Kinds (yg124 6 1), eO 5 (tI .u8) ([5] : List Int) (yg124 8 0), eO 9 tS kL0 (yg124 11 0), eO 5 (tI .u8) ([6] : List Int) (yg124 12 0), eO 5 (tI .u8) ([6] : List Int) (yg124 15 0)] _ := SH.frz1 (hS.sel [6, 0, 1, 2, 3, 4, 5, 7, 8, 9, 10, 11] rfl)
    replace hS : SH M X w [eI (tI .u8) y139.Kinds (yg124 6 1), eI tS y139.Words (yg124 6 0), eI (tI .u8) y134.Kinds (yg124 5 1), eI tS y134.Words (yg124 5 0), eI (tI .u8) y126.Kinds (yg124 2 1), eI tS y126.Words (yg124 2 0), eI (tI .u8) ([] : List Int) (.nil), eI (tI .u8) ([5] : List Int) (yg124 4 0), eO 5 (tI .u8) ([5] : List Int) (yg124 8 0), eO 9 tS kL0 (yg124 11 0), eO 5 (tI .u8) ([6] : List Int) (yg124 12 0), eO 5 (tI .u8) ([6] : List Int) (yg124 15 0)] _ := SH.frz1 (hS.sel [7, 0, 1, 2, 3, 4, 5, 6, 8, 9, 10, 11] rfl)
    replace hS : SH M X w [eI (tI .u8) ([5] : List Int) (yg124 8 0), eI (tI .u8) y139.Kinds (yg124 6 1), eI tS y139.Words (yg124 6 0), eI (tI .u8) y134.Kinds (yg124 5 1), eI tS y134.Words (yg124 5 0), eI (tI .u8) y126.Kinds (yg124 2 1), eI tS y126.Words (yg124 2 0), eI (tI .u8) ([] : List Int) (.nil), eI (tI .u8) ([5] : List Int) (yg124 4 0), eO 9 tS kL0 (yg124 11 0), eO 5 (tI .u8) ([6] : List Int) (yg124 12 0), eO 5 (tI .u8) ([6] : List Int) (yg124 15 0)] _ := SH.frz1 (hS.sel [8, 0, 1, 2, 3, 4, 5, 6, 7, 9, 10, 11] rfl)
    replace hS : SH M X w [eI tS kL0 (yg124 11 0), eI (tI .u8) ([5] : List Int) (yg124 8 0), eI (tI .u8) y139.Kinds (yg124 6 1), eI tS y139.Words (yg124 6 0), eI (tI .u8) y134.Kinds (yg124 5 1), eI tS y134.Words (yg124 5 0), eI (tI .u8) y126.Kinds (yg124 2 1), eI tS y126.Words (yg124 2 0), eI (tI .u8) ([] : List Int) (.nil), eI (tI .u8) ([5] : List Int) (yg124 4 0), eO 5 (tI .u8) ([6] : List Int) (yg124 12 0), eO 5 (tI .u8) ([6] : List Int) (yg124 15 0)] _ := SH.frz1 (hS.sel [9, 0, 1, 2, 3, 4, 5, 6, 7, 8, 10, 11] rfl)
    replace hS : SH M X w [eI (tI .u8) ([6] : List Int) (yg124 12 0), eI tS kL0 (yg124 11 0), eI (tI .u8) ([5] : List Int) (yg124 8 0), eI (tI .u8) y139.Kinds (yg124 6 1), eI tS y139.Words (yg124 6 0), eI (tI .u8) y134.Kinds (yg124 5 1), eI tS y134.Words (yg124 5 0), eI (tI .u8) y126.Kinds (yg124 2 1), eI tS y126.Words (yg124 2 0), eI (tI .u8) ([] : List Int) (.nil), eI (tI .u8) ([5] : List Int) (yg124 4 0), eO 5 (tI .u8) ([6] : List Int) (yg124 15 0)] _ := SH.frz1 (hS.sel [10, 0, 1, 2, 3, 4, 5, 6, 7, 8, 9, 11] rfl)
    replace hS : SH M X w [eI (tI .u8) ([6] : List Int) (yg124 15 0), eI (tI .u8) ([6] : List Int) (yg124 12 0), eI tS kL0 (yg124 11 0), eI (tI .u8) ([5] : List Int) (yg124 8 0), eI (tI .u8) y139.Kinds (yg124 6 1), eI tS y139.Words (yg124 6 0), eI (tI .u8) y134.Kinds (yg124 5 1), eI tS y134.Words (yg124 5 0), eI (tI .u8) y126.Kinds (yg124 2 1), eI tS y126.Words (yg124 2 0), eI (tI .u8) ([] : List Int) (.nil), eI (tI .u8) ([5] : List Int) (yg124 4 0)] _ := SH.frz1 (hS.sel [11, 0, 1, 2, 3, 4, 5, 6, 7, 8, 9, 10] rfl)
    have hd := hS.hand [9, 8, 7, 6, 5, 4, 3, 2, 1, 0] [0, 1, 2, 3, 4, 5, 6, 7, 8, 9, 10, 11] rfl rfl
    refine Stp.mono (o_lit (T := tyProp) (E := 100) (zv := vG [vN, vF, vU 0, vN, vI 0, vU 0, vU 0, vU 0, vU 0, vO, vO, vF]) [vS y126.Name, vB y126.Inherited, vU y126.Initial.Kind, vS y126.Initial.Word, vI y126.Initial.Num, vU y126.Initial.Color.Red, vU y126.Initial.Color.Green, vU y126.Initial.Color.Blue, vU y126.Initial.Color.Alpha, .slice (yg124 2 0).a y126.Words.length (yg124 2 0).c, .slice (yg124 2 1).a y126.Kinds.length (yg124 2 1).c, vB y126.Least, vS y134.Name, vB y134.Inherited, vU y134.Initial.Kind, vS y134.Initial.Word, vI y134.Initial.Num, vU y134.Initial.Color.Red, vU y134.Initial.Color.Green, vU y134.Initial.Color.Blue, vU y134.Initial.Color.Alpha, .slice (yg124 5 0).a y134.Words.length (yg124 5 0).c, .slice (yg124 5 1).a y134.Kinds.length (yg124 5 1).c, vB y134.Least, vS y139.Name, vB y139.Inherited, vU y139.Initial.Kind, vS y139.Initial.Word, vI y139.Initial.Num, vU y139.Initial.Color.Red, vU y139.Initial.Color.Green, vU y139.Initial.Color.Blue, vU y139.Initial.Color.Alpha, .slice (yg124 6 0).a y139.Words.length (yg124 6 0).c, .slice (yg124 6 1).a y139.Kinds.length (yg124 6 1).c, vB y139.Least, vS [111, 112, 97, 99, 105, 116, 121], vF, vU 5, vN, vI 1000, vU 0, vU 0, vU 0, vU 0, vO, vK (yg124 8 0) 1, vF, vS [122, 45, 105, 110, 100, 101, 120], vF, vU y3.Kind, vS y3.Word, vI y3.Num, vU y3.Color.Red, vU y3.Color.Green, vU y3.Color.Blue, vU y3.Color.Alpha, vK (yg124 11 0) 1, vK (yg124 12 0) 1, vF, vS [111, 114, 100, 101, 114], vF, vU 6, vN, vI 0, vU 0, vU 0, vU 0, vU 0, vO, vK (yg124 15 0) 1, vF] ([y126, y134, y139, (TProp.mk [111, 112, 97, 99, 105, 116, 121] false (TVal.mk 5 [] 1000 (TColor.mk 0 0 0 0)) [] ([5] : List Int) false), (TProp.mk [122, 45, 105, 110, 100, 101, 120] false y3 kL0 ([6] : List Int) false), (TProp.mk [111, 114, 100, 101, 114] false (TVal.mk 6 [] 0 (TColor.mk 0 0 0 0)) [] ([6] : List Int) false)] : List TProp) [gL [(yg124 2 0), (yg124 2 1)], gL [(yg124 5 0), (yg124 5 1)], gL [(yg124 6 0), (yg124 6 1)], gL [Gh.nil, (yg124 8 0)], gL [(yg124 11 0), (yg124 12 0)], gL [Gh.nil, (yg124 15 0)]] _ H hd rfl (by kernel_rfl) (by kernel_rfl) (by kernel_rfl) (by kernel_rfl) (by kernel_rfl) (by kernel_rfl) (by kernel_rfl) rfl (InnL.cons (tyProp_mk (hd.im 0 rfl) (hd.im 1 rfl)) (InnL.cons (tyProp_mk (hd.im 2 rfl) (hd.im 3 rfl)) (InnL.cons (tyProp_mk (hd.im 4 rfl) (hd.im 5 rfl)) (InnL.cons (tyProp_mk SlG.nil (hd.im 6 rfl)) (InnL.cons (tyProp_mk (hd.im 7 rfl) (hd.im 8 rfl)) (InnL.cons (tyProp_mk SlG.nil (hd.im 9 rfl)) InnL.nil))))))) ?_
    rintro v w2 hq
    obtain ⟨g152, rfl, hq⟩ := hq
    replace hS : SH M X w [eO 100 tyProp ([y126, y134, y139, (TProp.mk [111, 112, 97, 99, 105, 116, 121] false (TVal.mk 5 [] 1000 (TColor.mk 0 0 0 0)) [] ([5] : List Int) false), (TProp.mk [122, 45, 105, 110, 100, 101, 120] false y3 kL0 ([6] : List Int) false), (TProp.mk [111, 114, 100, 101, 114] false (TVal.mk 6 [] 0 (TColor.mk 0 0 0 0)) [] ([6] : List Int) false)] : List TProp) g152, eI (tI .u8) ([6] : List Int) (yg124 15 0), eI (tI .u8) ([6] : List Int) (yg124 12 0), eI tS kL0 (yg124 11 0), eI (tI .u8) ([5] : List Int) (yg124 8 0), eI (tI .u8) y139.Kinds (yg124 6 1), eI tS y139.Words (yg124 6 0), eI (tI .u8) y134.Kinds (yg124 5 1), eI tS y134.Words (yg124 5 0), eI (tI .u8) y126.Kinds (yg124 2 1), eI tS y126.Words (yg124 2 0), eI (tI .u8) ([] : List Int) (.nil), eI (tI .u8) ([5] : List Int) (yg124 4 0)] _ := hS.join [9, 8, 7, 6, 5, 4, 3, 2, 1, 0] [0, 1, 2, 3, 4, 5, 6, 7, 8, 9, 10, 11] rfl rfl hq
    clear hq
    rw [hX] at hS
    exact ⟨gL [g152], fun _ _ => rfl, hS.sel [0, 1, 2, 3, 4, 5, 6, 7, 8, 9, 10, 11, 12] rfl⟩
   ·intro o ho a w yg124 M Hb hv hO hS0
    obtain rfl := someE ho
    have H : Fr 57 ((fS [55, 38] [vK (yg124 17 0) 6, vL g123 z81]) ++ (fS [1, 3] [vP b6, vL g123 z81])) _ := ((Hb).add (hv 0 (by decide) (by decide) 38 rfl)).add (hv 17 (by decide) (by decide) 55 rfl)
    obtain ⟨X, hX⟩ : ∃ X, X = fpl [eO 100 tyProp ([y126, y134, y139, (TProp.mk [111, 112, 97, 99, 105, 116, 121] false (TVal.mk 5 [] 1000 (TColor.mk 0 0 0 0)) [] ([5] : List Int) false), (TProp.mk [122, 45, 105, 110, 100, 101, 120] false y3 kL0 ([6] : List Int) false), (TProp.mk [111, 114, 100, 101, 114] false (TVal.mk 6 [] 0 (TColor.mk 0 0 0 0)) [] ([6] : List Int) false)] : List TProp) (yg124 17 0), eI (tI .u8) ([6] : List Int) (yg124 15 0), eI (tI .u8) ([6] : List Int) (yg124 12 0), eI tS kL0 (yg124 11 0), eI (tI .u8) ([5] : List Int) (yg124 8 0), eI (tI .u8) y139.Kinds (yg124 6 1), eI tS y139.Words (yg124 6 0), eI (tI .u8) y134.Kinds (yg124 5 1), eI tS y134.Words (yg124 5 0), eI (tI .u8) y126.Kinds (yg124 2 1), eI tS y126.Words (yg124 2 0), eI (tI .u8) ([] : List Int) (.nil), eI (tI .u8) ([5] : List Int) (yg124 4 0), eO 100 tyProp z81 g123] := ⟨_, rfl⟩
    have hS : SH M X w [eO 100 tyProp ([y126, y134, y139, (TProp.mk [111, 112, 97, 99, 105, 116, 121] false (TVal.mk 5 [] 1000 (TColor.mk 0 0 0 0)) [] ([5] : List Int) false), (TProp.mk [122, 45, 105, 110, 100, 101, 120] false y3 kL0 ([6] : List Int) false), (TProp.mk [111, 114, 100, 101, 114] false (TVal.mk 6 [] 0 (TColor.mk 0 0 0 0)) [] ([6] : List Int) false)] : List TProp) (yg124 17 0), eI (tI .u8) ([6] : List Int) (yg124 15 0), eI (tI .u8) ([6] : List Int) (yg124 12 0), eI tS kL0 (yg124 11 0), eI (tI .u8) ([5] : List Int) (yg124 8 0), eI (tI .u8) y139.Kinds (yg124 6 1), eI tS y139.Words (yg124 6 0), eI (tI .u8) y134.Kinds (yg124 5 1), eI tS y134.Words (yg124 5 0), eI (tI .u8) y126.Kinds (yg124 2 1), eI tS y126.Words (yg124 2 0), eI (tI .u8) ([] : List Int) (.nil), eI (tI .u8) ([5] : List Int) (yg124 4 0), eO 100 tyProp z81 g123] w := by rw [hX]; exact hS0
    have hd := hS.hand [13, 0] [1, 2, 3, 4, 5, 6, 7, 8, 9, 10, 11, 12] rfl rfl
    refine Stp.mono (o_app2 (T := tyProp) (zv := vG [vN, vF, vU 0, vN, vI 0, vU 0, vU 0, vU 0, vU 0, vO, vO, vF]) (g1 := g123) (g2 := (yg124 17 0)) (l1 := z81) (l2 := ([y126, y134, y139, (TProp.mk [111, 112, 97, 99, 105, 116, 121] false (TVal.mk 5 [] 1000 (TColor.mk 0 0 0 0)) [] ([5] : List Int) false), (TProp.mk [122, 45, 105, 110, 100, 101, 120] false y3 kL0 ([6] : List Int) false), (TProp.mk [111, 114, 100, 101, 114] false (TVal.mk 6 [] 0 (TColor.mk 0 0 0 0)) [] ([6] : List Int) false)] : List TProp)) q155 hq155.symm H hd rfl rfl rfl rfl rfl rfl rfl (by kernel_rfl) (by kernel_rfl) rfl rfl ho154) ?_
    rintro v w2 hq
    obtain ⟨g156, rfl, hq⟩ := hq
    replace hS : SH M X w [eO 100 tyProp q155 g156, eO 100 tyProp ([y126, y134, y139, (TProp.mk [111, 112, 97, 99, 105, 116, 121] false (TVal.mk 5 [] 1000 (TColor.mk 0 0 0 0)) [] ([5] : List Int) false), (TProp.mk [122, 45, 105, 110, 100, 101, 120] false y3 kL0 ([6] : List Int) false), (TProp.mk [111, 114, 100, 101, 114] false (TVal.mk 6 [] 0 (TColor.mk 0 0 0 0)) [] ([6] : List Int) false)] : List TProp) (yg124 17 0), eI (tI .u8) ([6] : List Int) (yg124 15 0), eI (tI .u8) ([6] : List Int) (yg124 12 0), eI tS kL0 (yg124 11 0), eI (tI .u8) ([5] : List Int) (yg124 8 0), eI (tI .u8) y139.Kinds (yg124 6 1), eI tS y139.Words (yg124 6 0), eI (tI .u8) y134.Kinds (yg124 5 1), eI tS y134.Words (yg124 5 0), eI (tI .u8) y126.Kinds (yg124 2 1), eI tS y126.Words (yg124 2 0), eI (tI .u8) ([] : List Int) (.nil), eI (tI .u8) ([5] : List Int) (yg124 4 0)] _ := hS.join [13, 0] [1, 2, 3, 4, 5, 6, 7, 8, 9, 10, 11, 12] rfl rfl hq
    clear hq
    rw [hX] at hS
    exact ⟨gL [g156], fun _ _ => rfl, hS.sel [0, 1, 2, 3, 4, 5, 6, 7, 8, 9, 10, 11, 12, 13] rfl⟩
   ·intro o ho a w yg124 M Hb hv hO hS
    obtain rfl := someE ho
    exact Stp.mono (o_evs [] (.slice (yg124 18 0).a q155.length (yg124 18 0).c) none [] ((Hb).add (hv 18 (by decide) (by decide) 56 rfl)) rfl (by kernel_rfl) (fun q e => by cases e)) fun _ _ hq => ⟨gL [], fun _ _ => hq.1, (hS.below hq.2.below).sel [0] rfl⟩
  have H159 : Fr 57 [(0, [], .slice (yg124 18 0).a q155.length (yg124 18 0).c)] _ := (FrG.add (FrG.keep (ks := []) H158 (by kernel_rfl)) (hv 19 0 rfl))
  replace hS : SH M X w [eO 100 tyProp ([y126, y134, y139, (TProp.mk [111, 112, 97, 99, 105, 116, 121] false (TVal.mk 5 [] 1000 (TColor.mk 0 0 0 0)) [] ([5] : List Int) false), (TProp.mk [122, 45, 105, 110, 100, 101, 120] false y3 kL0 ([6] : List Int) false), (TProp.mk [111, 114, 100, 101, 114] false (TVal.mk 6 [] 0 (TColor.mk 0 0 0 0)) [] ([6] : List Int) false)] : List TProp) (yg124 17 0), eI (tI .u8) ([6] : List Int) (yg124 15 0), eI (tI .u8) ([6] : List Int) (yg124 12 0), eI tS kL0 (yg124 11 0), eI (tI .u8) ([5] : List Int) (yg124 8 0), eI (tI .u8) y139.Kinds (yg124 6 1), eI tS y139.Words (yg124 6 0), eI (tI .u8) y134.Kinds (yg124 5 1), eI tS y134.Words (yg124 5 0), eI (tI .u8) y126.Kinds (yg124 2 1), eI tS y126.Words (yg124 2 0), eI (tI .u8) ([] : List Int) (.nil), eI (tI .u8) ([5] : List Int) (yg124 4 0), eO 100 tyProp q155 (yg124 18 0), eB b6 (cV y3), gE0] _ := hS
  clear hv H158
  generalize yg124 18 0 = g160 at H159 hS
  generalize yg124 17 0 = g161 at H159 hS
  generalize yg124 15 0 = g162 at H159 hS
  generalize yg124 12 0 = g163 at H159 hS
  generalize yg124 11 0 = g164 at H159 hS
  generalize yg124 8 0 = g165 at H159 hS
  generalize yg124 6 1 = g166 at H159 hS
  generalize yg124 6 0 = g167 at H159 hS
  generalize yg124 5 1 = g168 at H159 hS
  generalize yg124 5 0 = g169 at H159 hS
  generalize yg124 2 1 = g170 at H159 hS
  generalize yg124 2 0 = g171 at H159 hS
  generalize yg124 4 0 = g172 at H159 hS
  replace hS : SH M X w [eO 100 tyProp q155 g160, gE0] _ := hS.sel [13, 15] rfl
  apply w_ret
  obtain rfl := someE hm
  exact retR1 H159 rfl rfl ⟨_, rfl, g160, rfl, (hS.sel [0] rfl)⟩
theorem props_Table_ok  (m : Nat)  (r : List TProp) (hm : props_Table m = some r) (M : Av) (w : World) (hS : S0 M [gE0] w) : DoesX Tryz.prog 54 ⟨[]⟩ w (fun v w' => ∃ (g901 : Gh), v = vL g901 r ∧ SH M (fpl [gE0]) w [eO 100 tyProp r g901] w') := ⟨Tryz.call54 _, props_Table_w M m    r hm w hS⟩

theorem props_Find_1_w {g_p_0 : Gh} {g_p_1 : Gh} {b_u0 : Nat} (M : Av) (p : TProp) (u0 : Str) (r : Bool) (hm : props_Find_1 p u0 = r) (w : World) (hS : S0 M [eI tS p.Words g_p_0, eI (tI .u8) p.Kinds g_p_1, Ent.ro b_u0 [vS u0]] w) : Calls Tryz.prog 55 ⟨[vG [vS p.Name, vB p.Inherited, vU p.Initial.Kind, vS p.Initial.Word, vI p.Initial.Num, vU p.Initial.Color.Red, vU p.Initial.Color.Green, vU p.Initial.Color.Blue, vU p.Initial.Color.Alpha, vL g_p_0 p.Words, vL g_p_1 p.Kinds, vB p.Least], vP b_u0]⟩ w (fun e w' => ∃ v, e = .returned v ∧ v = vB r ∧ SH M (fpl [eI tS p.Words g_p_0, eI (tI .u8) p.Kinds g_p_1, Ent.ro b_u0 [vS u0]]) w [] w') := by
 rw [props_Find_1] at hm
 have hS0 : SH M (fpl [eI tS p.Words g_p_0, eI (tI .u8) p.Kinds g_p_1, Ent.ro b_u0 [vS u0]]) w [eI tS p.Words g_p_0, eI (tI .u8) p.Kinds g_p_1, Ent.ro b_u0 [vS u0]] w := hS
 generalize hX : fpl [eI tS p.Words g_p_0, eI (tI .u8) p.Kinds g_p_1, Ent.ro b_u0 [vS u0]] = X at hS0 ⊢
 clear hS hX
 have hS := hS0
 clear hS0
 refine calls_entryP Tryz.func55 rfl Tryz.ntmps55 rfl fun _ H => ?_
 apply w_seq
 apply wl_start
 have hd := hS.hand [] [0, 1, 2] rfl rfl
 refine m_stp [2, 1] [(1, [], vP b_u0)] H rfl rfl rfl rfl (o_box [vS p.Name, vB p.Inherited, vU p.Initial.Kind, vS p.Initial.Word, vI p.Initial.Num, vU p.Initial.Color.Red, vU p.Initial.Color.Green, vU p.Initial.Color.Blue, vU p.Initial.Color.Alpha, vL g_p_0 p.Words, vL g_p_1 p.Kinds, vB p.Least] H hd rfl rfl) (fun _ => rfl) fun _ _ v H3 hq => ?_
 clear H hd
 obtain ⟨b1, rfl, hq⟩ := hq
 replace hS : SH M X w [eB b1 [vS p.Name, vB p.Inherited, vU p.Initial.Kind, vS p.Initial.Word, vI p.Initial.Num, vU p.Initial.Color.Red, vU p.Initial.Color.Green, vU p.Initial.Color.Blue, vU p.Initial.Color.Alpha, vL g_p_0 p.Words, vL g_p_1 p.Kinds, vB p.Least], eI tS p.Words g_p_0, eI (tI .u8) p.Kinds g_p_1, Ent.ro b_u0 [vS u0]] _ := hS.join [] [0, 1, 2] rfl rfl hq
 clear hq
 refine wl_batch 1 2 [] [1, 2] (fS [1, 2] [vP b_u0, vP b1]) [] H3 (by decide) (by kernel_rfl) trivial fun _ _ H5 hb => ?_
 replace hS := hS.below hb
 clear H3 hb
 apply wl_end rfl
 refine s_reg [(vS p.Name), (vS u0)] [3] [(3, [], vB (p.Name == u0))] [rA b1 0 (vS p.Name), rA b_u0 0 (vS u0)] H5 (by kernel_rfl) ⟨((hS.bk 0 rfl).at1 rfl), ((hS.ro 3 rfl).at1 rfl), trivial⟩ fun _ _ H7 hb => ?_
 replace hS := hS.below hb
 clear H5 hb
 replace hS : SH M X w [] _ := hS.sel [] rfl
 apply w_ret
 subst hm
 exact retR1 H7 rfl rfl ⟨_, rfl, rfl, (hS.sel [] rfl)⟩
theorem props_Find_1_ok {g_p_0 : Gh} {g_p_1 : Gh} {b_u0 : Nat} (p : TProp) (u0 : Str) (w : World) (hL : S0 F0 [eI tS p.Words g_p_0, eI (tI .u8) p.Kinds g_p_1, Ent.ro b_u0 [vS u0]] w ∧ fpl [eI tS p.Words g_p_0, eI (tI .u8) p.Kinds g_p_1, Ent.ro b_u0 [vS u0]] = []) : RetB Tryz.prog 55 ⟨[vG [vS p.Name, vB p.Inherited, vU p.Initial.Kind, vS p.Initial.Word, vI p.Initial.Num, vU p.Initial.Color.Red, vU p.Initial.Color.Green, vU p.Initial.Color.Blue, vU p.Initial.Color.Alpha, vL g_p_0 p.Words, vL g_p_1 p.Kinds, vB p.Least], vP b_u0]⟩ (vB (props_Find_1 p u0)) w := retB_of hL (Tryz.call55 _) (fun w' h => props_Find_1_w F0   p u0 _ rfl w' h)

theorem slices_IndexFunc_api_Prop_api_Prop_w {g_s : Gh} {b_f_c0 : Nat} (M : Av) (m : Nat) (s : List TProp) (f_c0 : Str) (r : Int) (hm : slices_IndexFunc_api_Prop_api_Prop m s f_c0 = some r) (w : World) (hS : S0 M [eI tyProp s g_s, Ent.ro b_f_c0 [vS f_c0]] w) : Calls Tryz.prog 53 ⟨[vL g_s s, .func (.func 55) ⟨[]⟩ ⟨[vP b_f_c0]⟩]⟩ w (fun e w' => ∃ v, e = .returned v ∧ v = vI r ∧ SH M (fpl [eI tyProp s g_s, Ent.ro b_f_c0 [vS f_c0]]) w [] w') := by
 rw [slices_IndexFunc_api_Prop_api_Prop] at hm
 have hS0 : SH M (fpl [eI tyProp s g_s, Ent.ro b_f_c0 [vS f_c0]]) w [eI tyProp s g_s, Ent.ro b_f_c0 [vS f_c0]] w := hS
 generalize hX : fpl [eI tyProp s g_s, Ent.ro b_f_c0 [vS f_c0]] = X at hS0 ⊢
 clear hS hX
 have hS := hS0
 clear hS0
 refine calls_entryP Tryz.func53 rfl Tryz.ntmps53 rfl fun _ H => ?_
 refine s_reg [] [0, 1] (fS [0, 1] [vL g_s s, .func (.func 55) ⟨[]⟩ ⟨[vP b_f_c0]⟩]) [] H (by kernel_rfl) trivial fun _ _ H2 hb => ?_
 replace hS := hS.below hb
 clear H hb
 obtain ⟨z3, hz, hm_z3⟩ := bindE hm
 refine w_cut (fun a' w' => ∃ s_z3 : Unit, z3 = Sum.inr s_z3 ∧ Fr 19 [] a' ∧ SH M X w [eI tyProp s g_s, Ent.ro b_f_c0 [vS f_c0]] w') ?_ ?_
 ·replace hm := hz
  refine s_reg [] [0, 1, 7, 8] (fS [0, 1, 7, 8] [vL g_s s, .func (.func 55) ⟨[]⟩ ⟨[vP b_f_c0]⟩, vI (ln s), vI 0]) [] H2 (by kernel_rfl) trivial fun _ _ H5 hb => ?_
  replace hS := hS.below hb
  clear H2 hb
  apply w_block
  refine w_loop (fun kk a' w' => ∃ (v6 : Int), slices_IndexFunc_api_Prop_api_Prop_L1 m s f_c0 kk v6 = some _ ∧ Fr 19 (fS [0, 1, 7, 8] [vL g_s s, .func (.func 55) ⟨[]⟩ ⟨[vP b_f_c0]⟩, vI (ln s), vI v6]) a' ∧ SH M X w [eI tyProp s g_s, Ent.ro b_f_c0 [vS f_c0]] w') ⟨_, 0, hm, FrG.keep (ks := [0, 1, 7, 8]) H5 (by kernel_rfl), hS⟩ ?_
  clear hm H5 hS
  rintro kk _ _ ⟨v6, hm, H, hS⟩
  cases kk with
  | zero => exact noneE hm
  | succ kk =>
   rw [slices_IndexFunc_api_Prop_api_Prop_L1] at hm
   refine s_reg [] [0, 1, 7, 8, 9] (fS [0, 1, 7, 8, 9] [vL g_s s, .func (.func 55) ⟨[]⟩ ⟨[vP b_f_c0]⟩, vI (ln s), vI v6, vB (decide (v6 < (ln s)))]) [] H (by kernel_rfl) trivial fun _ _ H8 hb => ?_
   replace hS := hS.below hb
   clear H hb
   apply w_seq
   refine w_if H8 rfl (fun hc => ?_) (fun hc => ?c19)
   case c19 =>
    replace hm := bF hc hm
    apply w_exit rfl
    obtain rfl := someE hm
    exact ⟨_, rfl, FrG.keep (ks := []) H8 (by kernel_rfl), hS⟩
   replace hm := bT hc hm
   apply w_skip
   apply w_seq
   apply w_block
   refine s_reg [] [0, 1, 5, 7, 8] (fS [0, 1, 5, 7, 8] [vL g_s s, .func (.func 55) ⟨[]⟩ ⟨[vP b_f_c0]⟩, vI v6, vI (ln s), vI v6]) [] H8 (by kernel_rfl) trivial fun _ _ H10 hb => ?_
   replace hS := hS.below hb
   clear H8 hb
   obtain ⟨ho11, hm⟩ := chkE hm
   refine s_reg [(vG [vS (gi s v6).Name, vB ((gi s v6).Inherited), vU ((gi s v6).Initial.Kind), vS (gi s v6).Initial.Word, vI ((gi s v6).Initial.Num), vU ((gi s v6).Initial.Color.Red), vU ((gi s v6).Initial.Color.Green), vU ((gi s v6).Initial.Color.Blue), vU ((gi s v6).Initial.Color.Alpha), .slice (g_s.s (v6).toNat 0).a (((gi s v6).Words).length) (g_s.s (v6).toNat 0).c, .slice (g_s.s (v6).toNat 1).a (((gi s v6).Kinds).length) (g_s.s (v6).toNat 1).c, vB ((gi s v6).Least)]), (vB (props_Find_1 (gi s v6) f_c0))] [0, 1, 5, 7, 8, 16] (fS [0, 1, 5, 7, 8, 16] [vL g_s s, .func (.func 55) ⟨[]⟩ ⟨[vP b_f_c0]⟩, vI v6, vI (ln s), vI v6, vB (props_Find_1 (gi s v6) f_c0)]) [fun _ => oka g_s.a ∧ 0 ≤ v6 ∧ v6 < ln s, fun wz => V.atN (ab g_s.a) (ao g_s.a + (v6).toNat * 12) [vS (gi s v6).Name, vB ((gi s v6).Inherited), vU ((gi s v6).Initial.Kind), vS (gi s v6).Initial.Word, vI ((gi s v6).Initial.Num), vU ((gi s v6).Initial.Color.Red), vU ((gi s v6).Initial.Color.Green), vU ((gi s v6).Initial.Color.Blue), vU ((gi s v6).Initial.Color.Alpha), .slice (g_s.s (v6).toNat 0).a (((gi s v6).Words).length) (g_s.s (v6).toNat 0).c, .slice (g_s.s (v6).toNat 1).a (((gi s v6).Kinds).length) (g_s.s (v6).toNat 1).c, vB ((gi s v6).Least)] 0 wz, rB 55 [vG [vS (gi s v6).Name, vB ((gi s v6).Inherited), vU ((gi s v6).Initial.Kind), vS (gi s v6).Initial.Word, vI ((gi s v6).Initial.Num), vU ((gi s v6).Initial.Color.Red), vU ((gi s v6).Initial.Color.Green), vU ((gi s v6).Initial.Color.Blue), vU ((gi s v6).Initial.Color.Alpha), .slice (g_s.s (v6).toNat 0).a (((gi s v6).Words).length) (g_s.s (v6).toNat 0).c, .slice (g_s.s (v6).toNat 1).a (((gi s v6).Kinds).length) (g_s.s (v6).toNat 1).c, vB ((gi s v6).Least)], vP b_f_c0] (vB (props_Find_1 (gi s v6) f_c0))] H10 (by kernel_rfl) ⟨((hS.im 0 rfl).oki ho11), ((hS.im 0 rfl).atA ho11 0 rfl), (props_Find_1_ok (g_p_0 := (g_s.s (v6).toNat 0)) (g_p_1 := (g_s.s (v6).toNat 1)) (b_u0 := b_f_c0) _ _ _ (s0im (s0im (s0ro s0nil (hS.ro 1 rfl)) (tyProp_i1 ((hS.im 0 rfl).el ho11))) (tyProp_i0 ((hS.im 0 rfl).el ho11)))), trivial⟩ fun _ _ H13 hb => ?_
   replace hS := hS.below hb
   clear H10 hb
   refine w_if H13 rfl (fun hc => ?_) (fun hc => ?c18)
   case c18 =>
    replace hm := bF hc hm
    apply w_skip
    refine w_reg [] [0, 1, 7, 8] (fS [0, 1, 7, 8] [vL g_s s, .func (.func 55) ⟨[]⟩ ⟨[vP b_f_c0]⟩, vI (ln s), vI (w64 (v6 + 1))]) [] H13 (by kernel_rfl) trivial fun _ _ H17 hb => ?_
    replace hS := hS.below hb
    clear H13 hb
    exact ⟨_, Nat.lt_succ_self _, w64 (v6 + 1), hm, FrG.keep (ks := [0, 1, 7, 8]) H17 (by kernel_rfl), hS⟩
   replace hm := bT hc hm
   refine s_reg [] [4] [(4, [], vI v6)] [] H13 (by kernel_rfl) trivial fun _ _ H15 hb => ?_
   replace hS := hS.below hb
   clear H13 hb
   apply w_ret
   obtain rfl := someE hm
   have hm := hm_z3
   obtain rfl := someE hm
   exact retR1 H15 rfl rfl ⟨_, rfl, rfl, (hS.sel [] rfl)⟩
 ·rintro _ _ ⟨s_z3, hz, H, hS⟩
  subst hz
  replace hm := sumR hm_z3
  replace hS : SH M X w [] _ := hS.sel [] rfl
  refine s_reg [] [4] [(4, [], vI (-1))] [] H (by kernel_rfl) trivial fun _ _ H22 hb => ?_
  replace hS := hS.below hb
  clear H hb
  apply w_ret
  obtain rfl := someE hm
  exact retR1 H22 rfl rfl ⟨_, rfl, rfl, (hS.sel [] rfl)⟩
theorem slices_IndexFunc_api_Prop_api_Prop_ok {g_s : Gh} {b_f_c0 : Nat} (m : Nat) (s : List TProp) (f_c0 : Str) (r : Int) (hm : slices_IndexFunc_api_Prop_api_Prop m s f_c0 = some r) (w : World) (hL : S0 F0 [eI tyProp s g_s, Ent.ro b_f_c0 [vS f_c0]] w ∧ fpl [eI tyProp s g_s, Ent.ro b_f_c0 [vS f_c0]] = []) : RetB Tryz.prog 53 ⟨[vL g_s s, .func (.func 55) ⟨[]⟩ ⟨[vP b_f_c0]⟩]⟩ (vI r) w := retB_of hL (Tryz.call53 _) (fun w' h => slices_IndexFunc_api_Prop_api_Prop_w F0 m   s f_c0 r hm w' h)

theorem props_Find_w  (M : Av) (m : Nat) (name_ : Str) (r : Int × Int) (hm : props_Find m name_ = some r) (w : World) (hS : S0 M [gE0] w) : Calls Tryz.prog 27 ⟨[vS name_]⟩ w (fun e w' => ∃ v, e = .returned v ∧ v = vW [vI r.1, vI r.2] ∧ SH M (fpl [gE0]) w [] w') := by
 rw [props_Find] at hm
 have hS0 : SH M (fpl [gE0]) w [gE0] w := hS
 generalize hX : fpl [gE0] = X at hS0 ⊢
 clear hS hX
 have hS := hS0
 clear hS0
 refine calls_entryP Tryz.func27 rfl Tryz.ntmps27 rfl fun _ H => ?_
 apply w_seq
 apply wl_start
 have hd := hS.hand [] [0] rfl rfl
 refine m_stp [1] [] H rfl rfl rfl rfl (o_box [vS name_] H hd rfl rfl) (fun _ => rfl) fun _ _ v H3 hq => ?_
 clear H hd
 obtain ⟨b1, rfl, hq⟩ := hq
 replace hS : SH M X w [eB b1 [vS name_], gE0] _ := hS.join [] [0] rfl rfl hq
 clear hq
 refine wl_batch 1 3 [] [1] [(1, [], vP b1)] [] H3 (by decide) (by kernel_rfl) trivial fun _ _ H5 hb => ?_
 replace hS := hS.below hb
 clear H3 hb
 apply wl_end rfl
 apply w_seq
 apply wl_start
 obtain ⟨y6, hy6, hm⟩ := bindE hm
 have hd := hS.hand [1] [0, 1] rfl rfl
 refine m_stp [5, 1] [(1, [], vP b1)] H5 rfl rfl rfl rfl (o_callx H5 rfl rfl (props_Table_ok m _ hy6 _ _ hd)) (fun _ => rfl) fun _ _ v H10 hq => ?_
 clear H5 hd
 obtain ⟨g7, rfl, hq⟩ := hq
 replace hS : SH M X w [eO 100 tyProp y6 g7, eB b1 [vS name_], gE0] _ := hS.join [1] [0, 1] rfl rfl hq
 clear hq
 obtain ⟨y11, hy11, hm⟩ := bindE hm
 refine wl_batch 1 4 [(vI y11)] [4] [(4, [], vI y11)] [rB 53 [vL g7 y6, .func (.func 55) ⟨[]⟩ ⟨[vP b1]⟩] (vI y11)] H10 (by decide) (by kernel_rfl) ⟨(slices_IndexFunc_api_Prop_api_Prop_ok (g_s := g7) (b_f_c0 := b1) m _ _ _ hy11 _ (s0im (s0ro s0nil (hS.bk 1 rfl)) (hS.osl 0 rfl))), trivial⟩ fun _ _ H13 hb => ?_
 replace hS := hS.below hb
 clear H10 hb
 apply wl_end rfl
 replace hS : SH M X w [gE0] _ := hS.sel [2] rfl
 apply w_seq
 refine s_reg [] [4, 9] (fS [4, 9] [vI y11, vB (decide (y11 < 0))]) [] H13 (by kernel_rfl) trivial fun _ _ H15 hb => ?_
 replace hS := hS.below hb
 clear H13 hb
 refine w_if H15 rfl (fun hc => ?c20) (fun hc => ?_)
 case c20 =>
  replace hm := bT hc hm
  refine s_reg [] [2, 3] (fS [2, 3] [vI 0, vI 6]) [] H15 (by kernel_rfl) trivial fun _ _ H17 hb => ?_
  replace hS := hS.below hb
  clear H15 hb
  apply w_ret
  obtain rfl := someE hm
  exact retR2 H17 rfl rfl rfl ⟨_, rfl, rfl, (hS.sel [] rfl)⟩
 replace hm := bF hc hm
 apply w_skip
 refine s_reg [] [2, 3] (fS [2, 3] [vI y11, vI 0]) [] H15 (by kernel_rfl) trivial fun _ _ H19 hb => ?_
 replace hS := hS.below hb
 clear H15 hb
 apply w_ret
 obtain rfl := someE hm
 exact retR2 H19 rfl rfl rfl ⟨_, rfl, rfl, (hS.sel [] rfl)⟩
theorem props_Find_ok  (m : Nat) (name_ : Str) (r : Int × Int) (hm : props_Find m name_ = some r) (w : World) (hL : S0 F0 [gE0] w ∧ fpl [gE0] = []) : RetB Tryz.prog 27 ⟨[vS name_]⟩ (vW [vI r.1, vI r.2]) w := retB_of hL (Tryz.call27 _) (fun w' h => props_Find_w F0 m   name_ r hm w' h)

theorem props_Inherited_w  (M : Av) (m : Nat) (name_ : Str) (r : Bool × Int) (hm : props_Inherited m name_ = some r) (w : World) (hS : S0 M [gE0] w) : Calls Tryz.prog 31 ⟨[vS name_]⟩ w (fun e w' => ∃ v, e = .returned v ∧ v = vW [vB r.1, vI r.2] ∧ SH M (fpl [gE0]) w [] w') := by
 rw [props_Inherited] at hm
 have hS0 : SH M (fpl [gE0]) w [gE0] w := hS
 generalize hX : fpl [gE0] = X at hS0 ⊢
 clear hS hX
 have hS := hS0
 clear hS0
 refine calls_entryP Tryz.func31 rfl Tryz.ntmps31 rfl fun _ H => ?_
 refine s_reg [] [0] [(0, [], vS name_)] [] H (by kernel_rfl) trivial fun _ _ H2 hb => ?_
 replace hS := hS.below hb
 clear H hb
 apply w_seq
 obtain ⟨y3, hy3, hm⟩ := bindE hm
 refine s_reg [(vB y3)] [0, 7] (fS [0, 7] [vS name_, vB y3]) [rB 26 [vS name_] (vB y3)] H2 (by kernel_rfl) ⟨((props_Custom_ok _ _ hy3).b), trivial⟩ fun _ _ H5 hb => ?_
 replace hS := hS.below hb
 clear H2 hb
 refine w_if H5 rfl (fun hc => ?c24) (fun hc => ?_)
 case c24 =>
  replace hm := bT hc hm
  refine s_reg [] [2, 3] (fS [2, 3] [vT, vI 0]) [] H5 (by kernel_rfl) trivial fun _ _ H7 hb => ?_
  replace hS := hS.below hb
  clear H5 hb
  apply w_ret
  obtain rfl := someE hm
  exact retR2 H7 rfl rfl rfl ⟨_, rfl, rfl, (hS.sel [] rfl)⟩
 replace hm := bF hc hm
 apply w_skip
 obtain ⟨y8, hy8, hm⟩ := bindE hm
 refine s_reg [(vW [vI y8.1, vI y8.2])] [4, 5] (fS [4, 5] [vI y8.1, vI y8.2]) [rB 27 [vS name_] (vW [vI y8.1, vI y8.2])] H5 (by kernel_rfl) ⟨(props_Find_ok 64 _ _ hy8 _ (s0im s0nil (hS.im 0 rfl))), trivial⟩ fun _ _ H10 hb => ?_
 replace hS := hS.below hb
 clear H5 hb
 apply w_seq
 refine s_reg [] [4, 5, 14] (fS [4, 5, 14] [vI y8.1, vI y8.2, vB (y8.2 != 0)]) [] H10 (by kernel_rfl) trivial fun _ _ H12 hb => ?_
 replace hS := hS.below hb
 clear H10 hb
 refine w_if H12 rfl (fun hc => ?c23) (fun hc => ?_)
 case c23 =>
  replace hm := bT hc hm
  refine s_reg [] [2, 3] (fS [2, 3] [vF, vI y8.2]) [] H12 (by kernel_rfl) trivial fun _ _ H14 hb => ?_
  replace hS := hS.below hb
  clear H12 hb
  apply w_ret
  obtain rfl := someE hm
  exact retR2 H14 rfl rfl rfl ⟨_, rfl, rfl, (hS.sel [] rfl)⟩
 replace hm := bF hc hm
 apply w_skip
 apply w_seq
 apply wl_start
 obtain ⟨y15, hy15, hm⟩ := bindE hm
 have hd := hS.hand [0] [0] rfl rfl
 refine m_stp [16, 4] [(4, [], vI y8.1)] H12 rfl rfl rfl rfl (o_callx H12 rfl rfl (props_Table_ok m _ hy15 _ _ hd)) (fun _ => rfl) fun _ _ v H19 hq => ?_
 clear H12 hd
 obtain ⟨g16, rfl, hq⟩ := hq
 replace hS : SH M X w [eO 100 tyProp y15 g16, gE0] _ := hS.join [0] [0] rfl rfl hq
 clear hq
 obtain ⟨ho20, hm⟩ := chkE hm
 refine wl_batch 1 7 [(vB ((gi y15 y8.1).Inherited))] [2, 3] (fS [2, 3] [vB ((gi y15 y8.1).Inherited), vI 0]) [fun _ => oka g16.a ∧ 0 ≤ y8.1 ∧ y8.1 < ln y15, fun wz => V.at1 ⟨ab g16.a, ao g16.a + (y8.1).toNat * 12 + 1, none⟩ (vB ((gi y15 y8.1).Inherited)) wz] H19 (by decide) (by kernel_rfl) ⟨((hS.osl 0 rfl).oki ho20), ((hS.osl 0 rfl).at1 ho20 1 rfl), trivial⟩ fun _ _ H22 hb => ?_
 replace hS := hS.below hb
 clear H19 hb
 apply wl_end rfl
 replace hS : SH M X w [gE0] _ := hS.sel [1] rfl
 apply w_ret
 obtain rfl := someE hm
 exact retR2 H22 rfl rfl rfl ⟨_, rfl, rfl, (hS.sel [] rfl)⟩
theorem props_Inherited_ok  (m : Nat) (name_ : Str) (r : Bool × Int) (hm : props_Inherited m name_ = some r) (w : World) (hL : S0 F0 [gE0] w ∧ fpl [gE0] = []) : RetB Tryz.prog 31 ⟨[vS name_]⟩ (vW [vB r.1, vI r.2]) w := retB_of hL (Tryz.call31 _) (fun w' h => props_Inherited_w F0 m   name_ r hm w' h)

theorem short_Longs_w  (M : Av) (m : Nat) (name_ : Str) (r : (List Str) × Int) (hm : short_Longs m name_ = some r) (w : World) (hS : S0 M [gE0] w) : Calls Tryz.prog 9 ⟨[vS name_]⟩ w (fun e w' => ∃ v, e = .returned v ∧ ∃ (g901 : Gh), v = vW [vL g901 r.1, vI r.2] ∧ SH M (fpl [gE0]) w [eO 9 tS r.1 g901] w') := by
 rw [short_Longs] at hm
 have hS0 : SH M (fpl [gE0]) w [gE0] w := hS
 generalize hX : fpl [gE0] = X at hS0 ⊢
 clear hS hX
 have hS := hS0
 clear hS0
 refine calls_entryP Tryz.func9 rfl Tryz.ntmps9 rfl fun _ H => ?_
 refine s_reg [] [0] [(0, [], vS name_)] [] H (by kernel_rfl) trivial fun _ _ H2 hb => ?_
 replace hS := hS.below hb
 clear H hb
 apply w_seq
 apply w_seq
 apply wl_start
 refine wl_batch 0 1 [] [0, 7] (fS [0, 7] [vS name_, vS name_]) [] H2 (by decide) (by kernel_rfl) trivial fun _ _ H4 hb => ?_
 replace hS := hS.below hb
 clear H2 hb
 obtain ⟨y5, hy5, hm⟩ := bindE hm
 have hd := hS.hand [] [0] rfl rfl
 refine m_stp [8, 0] [(0, [], vS name_)] H4 rfl rfl rfl rfl (o_callx H4 rfl rfl (short_of_ok 64 _ _ hy5 _ _ hd)) (fun _ => rfl) fun _ _ v H9 hq => ?_
 clear H4 hd
 obtain ⟨g6, rfl, hq⟩ := hq
 replace hS : SH M X w [eO 9 tS y5 g6, gE0] _ := hS.join [] [0] rfl rfl hq
 clear hq
 refine wl_batch 2 3 [] [0, 4] (fS [0, 4] [vS name_, vL g6 y5]) [] H9 (by decide) (by kernel_rfl) trivial fun _ _ H11 hb => ?_
 replace hS := hS.below hb
 clear H9 hb
 apply wl_end rfl
 refine s_reg [] [0, 4, 11] (fS [0, 4, 11] [vS name_, vL g6 y5, vB (decide (0 < (ln y5)))]) [] H11 (by kernel_rfl) trivial fun _ _ H13 hb => ?_
 replace hS := hS.below hb
 clear H11 hb
 refine w_if H13 rfl (fun hc => ?c33) (fun hc => ?_)
 case c33 =>
  replace hm := bT hc hm
  refine s_reg [] [2, 3] (fS [2, 3] [vL g6 y5, vI 0]) [] H13 (by kernel_rfl) trivial fun _ _ H15 hb => ?_
  replace hS := hS.below hb
  clear H13 hb
  apply w_ret
  obtain rfl := someE hm
  exact retR2 H15 rfl rfl rfl ⟨_, rfl, g6, rfl, (hS.sel [0] rfl)⟩
 replace hm := bF hc hm
 apply w_skip
 apply w_seq
 obtain ⟨y16, hy16, hm⟩ := bindE hm
 refine s_reg [(vW [vB y16.1, vI y16.2])] [0, 6] (fS [0, 6] [vS name_, vI y16.2]) [rB 31 [vS name_] (vW [vB y16.1, vI y16.2])] H13 (by kernel_rfl) ⟨(props_Inherited_ok 64 _ _ hy16 _ (s0im s0nil (hS.im 1 rfl))), trivial⟩ fun _ _ H18 hb => ?_
 replace hS := hS.below hb
 clear H13 hb
 replace hS : SH M X w [gE0] _ := hS.sel [1] rfl
 refine s_reg [] [0, 6, 19] (fS [0, 6, 19] [vS name_, vI y16.2, vB (y16.2 != 0)]) [] H18 (by kernel_rfl) trivial fun _ _ H20 hb => ?_
 replace hS := hS.below hb
 clear H18 hb
 refine w_if H20 rfl (fun hc => ?c32) (fun hc => ?_)
 case c32 =>
  replace hm := bT hc hm
  refine s_reg [] [2, 3] (fS [2, 3] [vO, vI y16.2]) [] H20 (by kernel_rfl) trivial fun _ _ H22 hb => ?_
  replace hS := hS.below hb
  clear H20 hb
  apply w_ret
  obtain rfl := someE hm
  replace hS : SH M X w [eO 9 tS ([] : List Str) (.nil), gE0] _ := hS.addNil 9 tS
  exact retR2 H22 rfl rfl rfl ⟨_, rfl, Gh.nil, rfl, (hS.sel [0] rfl)⟩
 replace hm := bF hc hm
 apply w_skip
 apply w_seq
 apply wl_start
 refine wl_batch 0 1 [] [21] [(21, [], vS name_)] [] H20 (by decide) (by kernel_rfl) trivial fun _ _ H25 hb => ?_
 replace hS := hS.below hb
 clear H20 hb
 have hd := hS.hand [] [0] rfl rfl
 refine m_stp [22] [] H25 rfl rfl rfl rfl (o_lit (T := tS) (E := 9) (zv := vN) [vS name_] ([name_] : List Str) [gL []] _ H25 hd rfl (by kernel_rfl) (by kernel_rfl) (by kernel_rfl) (by kernel_rfl) (by kernel_rfl) (by kernel_rfl) (by kernel_rfl) rfl (InnL.cons trivial InnL.nil)) (fun _ => rfl) fun _ _ v H29 hq => ?_
 clear H25 hd
 obtain ⟨g26, rfl, hq⟩ := hq
 replace hS : SH M X w [eO 9 tS ([name_] : List Str) g26, gE0] _ := hS.join [] [0] rfl rfl hq
 clear hq
 refine wl_batch 2 4 [] [2, 3] (fS [2, 3] [vK g26 1, vI 0]) [] H29 (by decide) (by kernel_rfl) trivial fun _ _ H31 hb => ?_
 replace hS := hS.below hb
 clear H29 hb
 apply wl_end rfl
 apply w_ret
 obtain rfl := someE hm
 exact retR2 H31 rfl rfl rfl ⟨_, rfl, g26, rfl, (hS.sel [0] rfl)⟩
theorem short_Longs_ok  (m : Nat) (name_ : Str) (r : (List Str) × Int) (hm : short_Longs m name_ = some r) (M : Av) (w : World) (hS : S0 M [gE0] w) : DoesX Tryz.prog 9 ⟨[vS name_]⟩ w (fun v w' => ∃ (g901 : Gh), v = vW [vL g901 r.1, vI r.2] ∧ SH M (fpl [gE0]) w [eO 9 tS r.1 g901] w') := ⟨Tryz.call9 _, short_Longs_w M m   name_ r hm w hS⟩

theorem r27_longs_w  (M : Av) (name_ : Str) (r : List Str) (hm : r27_longs name_ = some r) (w : World) (hS : S0 M [] w) : Calls Tryz.prog 32 ⟨[vS name_]⟩ w (fun e w' => ∃ v, e = .returned v ∧ ∃ (g901 : Gh), v = vL g901 r ∧ SH M (fpl []) w [eO 9 tS r g901] w') := by
 rw [r27_longs] at hm
 have hS0 : SH M (fpl []) w [] w := hS
 generalize hX : fpl [] = X at hS0 ⊢
 clear hS hX
 have hS := hS0
 clear hS0
 refine calls_entryP Tryz.func32 rfl Tryz.ntmps32 rfl fun _ H => ?_
 refine s_reg [] [0] [(0, [], vS name_)] [] H (by kernel_rfl) trivial fun _ _ H2 hb => ?_
 replace hS := hS.below hb
 clear H hb
 apply w_seq
 refine s_reg [] [0, 3] (fS [0, 3] [vS name_, vS name_]) [] H2 (by kernel_rfl) trivial fun _ _ H4 hb => ?_
 replace hS := hS.below hb
 clear H2 hb
 apply w_block
 refine s_reg [] [0, 3, 4] (fS [0, 3, 4] [vS name_, vS name_, vB (name_ == [109, 97, 114, 103, 105, 110])]) [] H4 (by kernel_rfl) trivial fun _ _ H6 hb => ?_
 replace hS := hS.below hb
 clear H4 hb
 refine w_if H6 rfl (fun hc => ?c38) (fun hc => ?_)
 case c38 =>
  replace hm := bT hc hm
  apply w_seq
  apply wl_start
  have hd := hS.hand [] [] rfl rfl
  refine m_stp [6] [] H6 rfl rfl rfl rfl (o_lit (T := tS) (E := 9) (zv := vN) [vS [109, 97, 114, 103, 105, 110, 45, 116, 111, 112], vS [109, 97, 114, 103, 105, 110, 45, 114, 105, 103, 104, 116], vS [109, 97, 114, 103, 105, 110, 45, 98, 111, 116, 116, 111, 109], vS [109, 97, 114, 103, 105, 110, 45, 108, 101, 102, 116]] kL12 [gL [], gL [], gL [], gL []] _ H6 hd rfl (by kernel_rfl) (by kernel_rfl) (by kernel_rfl) (by kernel_rfl) (by kernel_rfl) (by kernel_rfl) (by kernel_rfl) rfl (InnL.cons trivial (InnL.cons trivial (InnL.cons trivial (InnL.cons trivial InnL.nil))))) (fun _ => rfl) fun _ _ v H10 hq => ?_
  clear H6 hd
  obtain ⟨g7, rfl, hq⟩ := hq
  replace hS : SH M X w [eO 9 tS kL12 g7] _ := hS.join [] [] rfl rfl hq
  clear hq
  refine wl_batch 1 2 [] [2] [(2, [], vK g7 4)] [] H10 (by decide) (by kernel_rfl) trivial fun _ _ H12 hb => ?_
  replace hS := hS.below hb
  clear H10 hb
  apply wl_end rfl
  apply w_ret
  obtain rfl := someE hm
  exact retR1 H12 rfl rfl ⟨_, rfl, g7, rfl, (hS.sel [0] rfl)⟩
 replace hm := bF hc hm
 obtain ⟨z13, hz, hm⟩ := bindE hm
 refine w_cut (fun a' w' => Fr 14 (fS [0, 7] [vS name_, vB z13]) a' ∧ SH M X w [] w') ?_ ?_
 ·replace hm := hz
  refine s_reg [] [0, 3, 7] (fS [0, 3, 7] [vS name_, vS name_, vB (name_ == [98, 111, 114, 100, 101, 114])]) [] H6 (by kernel_rfl) trivial fun _ _ H15 hb => ?_
  replace hS := hS.below hb
  clear H6 hb
  refine w_if H15 rfl (fun hc => ?c23) (fun hc => ?_)
  case c23 =>
   replace hm := bT hc hm
   apply w_skip
   obtain rfl := someE hm
   exact ⟨FrG.keep (ks := [0, 7]) H15 (by kernel_rfl), hS⟩
  replace hm := bF hc hm
  obtain ⟨x16, hx16, hm⟩ := letE hm
  refine s_reg [] [0, 3, 7] (fS [0, 3, 7] [vS name_, vS name_, vB x16]) [] H15 (by subst hx16; kernel_rfl) trivial fun _ _ H18 hb => ?_
  replace hS := hS.below hb
  clear H15 hb
  refine w_if H18 rfl (fun hc => ?c22) (fun hc => ?_)
  case c22 =>
   replace hm := bT hc hm
   apply w_skip
   obtain rfl := someE hm
   exact ⟨FrG.keep (ks := [0, 7]) H18 (by kernel_rfl), hS⟩
  replace hm := bF hc hm
  obtain ⟨x19, hx19, hm⟩ := letE hm
  refine w_reg [] [0, 7] (fS [0, 7] [vS name_, vB x19]) [] H18 (by subst hx19; kernel_rfl) trivial fun _ _ H21 hb => ?_
  replace hS := hS.below hb
  clear H18 hb
  obtain rfl := someE hm
  exact ⟨FrG.keep (ks := [0, 7]) H21 (by kernel_rfl), hS⟩
 ·rintro _ _ ⟨H, hS⟩
  refine w_if H rfl (fun hc => ?_) (fun hc => ?c36)
  case c36 =>
   replace hm := bF hc hm
   apply w_skip
   refine s_reg [] [2] [(2, [], vO)] [] H (by kernel_rfl) trivial fun _ _ H34 hb => ?_
   replace hS := hS.below hb
   clear H hb
   apply w_ret
   obtain rfl := someE hm
   replace hS : SH M X w [eO 9 tS ([] : List Str) (.nil)] _ := hS.addNil 9 tS
   exact retR1 H34 rfl rfl ⟨_, rfl, Gh.nil, rfl, (hS.sel [0] rfl)⟩
  replace hm := bT hc hm
  apply w_seq
  apply wl_start
  obtain ⟨ho24, hm⟩ := chkE hm
  refine wl_batch 0 2 [] [12] [(12, [], vS (name_ ++ [45, 99, 111, 108, 111, 114]))] [fun _ => ln name_ + ln [45, 99, 111, 108, 111, 114] ≤ 9223372036854775807] H (by decide) (by kernel_rfl) ⟨ho24, trivial⟩ fun _ _ H26 hb => ?_
  replace hS := hS.below hb
  clear H hb
  have hd := hS.hand [] [] rfl rfl
  refine m_stp [13] [] H26 rfl rfl rfl rfl (o_lit (T := tS) (E := 9) (zv := vN) [vS (name_ ++ [45, 99, 111, 108, 111, 114])] ([name_ ++ [45, 99, 111, 108, 111, 114]] : List Str) [gL []] _ H26 hd rfl (by kernel_rfl) (by kernel_rfl) (by kernel_rfl) (by kernel_rfl) (by kernel_rfl) (by kernel_rfl) (by kernel_rfl) rfl (InnL.cons trivial InnL.nil)) (fun _ => rfl) fun _ _ v H30 hq => ?_
  clear H26 hd
  obtain ⟨g27, rfl, hq⟩ := hq
  replace hS : SH M X w [eO 9 tS ([name_ ++ [45, 99, 111, 108, 111, 114]] : List Str) g27] _ := hS.join [] [] rfl rfl hq
  clear hq
  refine wl_batch 3 4 [] [2] [(2, [], vK g27 1)] [] H30 (by decide) (by kernel_rfl) trivial fun _ _ H32 hb => ?_
  replace hS := hS.below hb
  clear H30 hb
  apply wl_end rfl
  apply w_ret
  obtain rfl := someE hm
  exact retR1 H32 rfl rfl ⟨_, rfl, g27, rfl, (hS.sel [0] rfl)⟩
theorem r27_longs_ok  (name_ : Str) (r : List Str) (hm : r27_longs name_ = some r) (M : Av) (w : World) (hS : S0 M [] w) : DoesX Tryz.prog 32 ⟨[vS name_]⟩ w (fun v w' => ∃ (g901 : Gh), v = vL g901 r ∧ SH M (fpl []) w [eO 9 tS r g901] w') := ⟨Tryz.call32 _, r27_longs_w M   name_ r hm w hS⟩

theorem r25_Custom_w  (M : Av) (s : Str) (r : Bool) (hm : r25_Custom s = some r) (w : World) (hS : S0 M [] w) : Calls Tryz.prog 57 ⟨[vS s]⟩ w (fun e w' => ∃ v, e = .returned v ∧ v = vB r ∧ SH M (fpl []) w [] w') := by
 rw [r25_Custom] at hm
 have hS0 : SH M (fpl []) w [] w := hS
 generalize hX : fpl [] = X at hS0 ⊢
 clear hS hX
 have hS := hS0
 clear hS0
 refine calls_entryP Tryz.func57 rfl Tryz.ntmps57 rfl fun _ H => ?_
 refine s_reg [] [0] [(0, [], vS s)] [] H (by kernel_rfl) trivial fun _ _ H2 hb => ?_
 replace hS := hS.below hb
 clear H hb
 obtain ⟨x3, hx3, hm⟩ := letE hm
 obtain ⟨ho4, hm⟩ := chkE hm
 refine s_reg [] [2] [(2, [], vB (cond x3 ((sub s 0 2) == [45, 45]) false))] [fun _ => (x3 = true ∧ True → 0 ≤ (2 : Int) ∧ (2 : Int) ≤ ln s)] H2 (by subst hx3; kernel_rfl) ⟨fun hg => (ho4 hg.1), trivial⟩ fun _ _ H6 hb => ?_
 replace hS := hS.below hb
 clear H2 hb
 apply w_ret
 obtain rfl := someE hm
 exact retR1 H6 rfl rfl ⟨_, rfl, rfl, (hS.sel [] rfl)⟩
theorem r25_Custom_ok  (s : Str) (r : Bool) (hm : r25_Custom s = some r) : Ret Tryz.prog 57 ⟨[vS s]⟩ (vB r) := retP_of (Tryz.call57 _) (fun w h => r25_Custom_w F0   s r hm w h)

theorem r25_word_w  (M : Av) (s : Str) (r : TVal) (hm : r25_word s = r) (w : World) (hS : S0 M [] w) : Calls Tryz.prog 80 ⟨[vS s]⟩ w (fun e w' => ∃ v, e = .returned v ∧ v = vG (cV r) ∧ SH M (fpl []) w [] w') := by
 rw [r25_word] at hm
 have hS0 : SH M (fpl []) w [] w := hS
 generalize hX : fpl [] = X at hS0 ⊢
 clear hS hX
 have hS := hS0
 clear hS0
 refine calls_entryP Tryz.func80 rfl Tryz.ntmps80 rfl fun _ H => ?_
 apply w_seq
 apply wl_start
 have hd := hS.hand [] [] rfl rfl
 refine m_stp [2, 0] [(0, [], vS s)] H rfl rfl rfl rfl (o_alloc [vU 0, vN, vI 0, vU 0, vU 0, vU 0, vU 0] (z := vG [vU 0, vN, vI 0, vU 0, vU 0, vU 0, vU 0]) hd (by kernel_rfl) rfl) (fun _ => rfl) fun _ _ v H3 hq => ?_
 clear H hd
 obtain ⟨b1, rfl, hq⟩ := hq
 replace hS : SH M X w [eB b1 [vU 0, vN, vI 0, vU 0, vU 0, vU 0, vU 0]] _ := hS.join [] [] rfl rfl hq
 clear hq
 apply wl_end rfl
 apply w_seq
 apply wl_start
 refine wl_batch 0 2 [] [2, 4] (fS [2, 4] [vP b1, vG [vU 1, vS s, vI 0, vU 0, vU 0, vU 0, vU 0]]) [] H3 (by decide) (by kernel_rfl) trivial fun _ _ H5 hb => ?_
 replace hS := hS.below hb
 clear H3 hb
 have hd := hS.hand [0] [] rfl rfl
 refine m_stp0 [2] [(2, [], vP b1)] H5 rfl rfl rfl (o_store [vU 1, vS s, vI 0, vU 0, vU 0, vU 0, vU 0] H5 hd rfl rfl (by kernel_rfl) rfl rfl rfl) rfl fun _ _ H7 hq => ?_
 clear H5 hd
 obtain ⟨_, hq⟩ := hq
 replace hS : SH M X w [eB b1 [vU 1, vS s, vI 0, vU 0, vU 0, vU 0, vU 0]] _ := hS.join [0] [] rfl rfl hq
 clear hq
 apply wl_end rfl
 apply w_ret
 subst hm
 exact retR1 H7 rfl (oneRes_agg rfl (hS.bk 0 rfl) Tryz.underlying57 rfl (by kernel_rfl)) ⟨_, rfl, rfl, (hS.sel [] rfl)⟩
theorem r25_word_ok  (s : Str) : Ret Tryz.prog 80 ⟨[vS s]⟩ (vG (cV (r25_word s))) := retP_of (Tryz.call80 _) (fun w h => r25_word_w F0   s _ rfl w h)

theorem r25_px_w  (M : Av) (n_ : Int) (r : TVal) (hm : r25_px n_ = r) (w : World) (hS : S0 M [] w) : Calls Tryz.prog 81 ⟨[vI n_]⟩ w (fun e w' => ∃ v, e = .returned v ∧ v = vG (cV r) ∧ SH M (fpl []) w [] w') := by
 rw [r25_px] at hm
 have hS0 : SH M (fpl []) w [] w := hS
 generalize hX : fpl [] = X at hS0 ⊢
 clear hS hX
 have hS := hS0
 clear hS0
 refine calls_entryP Tryz.func81 rfl Tryz.ntmps81 rfl fun _ H => ?_
 apply w_seq
 apply wl_start
 have hd := hS.hand [] [] rfl rfl
 refine m_stp [2, 0] [(0, [], vI n_)] H rfl rfl rfl rfl (o_alloc [vU 0, vN, vI 0, vU 0, vU 0, vU 0, vU 0] (z := vG [vU 0, vN, vI 0, vU 0, vU 0, vU 0, vU 0]) hd (by kernel_rfl) rfl) (fun _ => rfl) fun _ _ v H3 hq => ?_
 clear H hd
 obtain ⟨b1, rfl, hq⟩ := hq
 replace hS : SH M X w [eB b1 [vU 0, vN, vI 0, vU 0, vU 0, vU 0, vU 0]] _ := hS.join [] [] rfl rfl hq
 clear hq
 apply wl_end rfl
 apply w_seq
 apply wl_start
 refine wl_batch 0 2 [] [2, 4] (fS [2, 4] [vP b1, vG [vU 2, vN, vI n_, vU 0, vU 0, vU 0, vU 0]]) [] H3 (by decide) (by kernel_rfl) trivial fun _ _ H5 hb => ?_
 replace hS := hS.below hb
 clear H3 hb
 have hd := hS.hand [0] [] rfl rfl
 refine m_stp0 [2] [(2, [], vP b1)] H5 rfl rfl rfl (o_store [vU 2, vN, vI n_, vU 0, vU 0, vU 0, vU 0] H5 hd rfl rfl (by kernel_rfl) rfl rfl rfl) rfl fun _ _ H7 hq => ?_
 clear H5 hd
 obtain ⟨_, hq⟩ := hq
 replace hS : SH M X w [eB b1 [vU 2, vN, vI n_, vU 0, vU 0, vU 0, vU 0]] _ := hS.join [0] [] rfl rfl hq
 clear hq
 apply wl_end rfl
 apply w_ret
 subst hm
 exact retR1 H7 rfl (oneRes_agg rfl (hS.bk 0 rfl) Tryz.underlying57 rfl (by kernel_rfl)) ⟨_, rfl, rfl, (hS.sel [] rfl)⟩
theorem r25_px_ok  (n_ : Int) : Ret Tryz.prog 81 ⟨[vI n_]⟩ (vG (cV (r25_px n_))) := retP_of (Tryz.call81 _) (fun w h => r25_px_w F0   n_ _ rfl w h)

end Go.Proofs.YtpgflfjmjppmeaaGreatDoor
