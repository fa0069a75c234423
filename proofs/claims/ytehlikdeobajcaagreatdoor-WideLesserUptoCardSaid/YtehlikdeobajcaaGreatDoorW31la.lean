/-
  What the Go functions compute, as Lean functions, and that a call returns just that. Printed by a program.
-/
import Derived.Test.YtehlikdeobajcaaGreatDoorRows
import Derived.Test.YtehlikdeobajcaaGreatDoorRF
import Derived.Test.YtehlikdeobajcaaGreatDoorAF
import Derived.Test.YtehlikdeobajcaaGreatDoorM
set_option linter.unusedVariables false
set_option maxRecDepth 20000
set_option maxHeartbeats 4000000
namespace Go.Proofs.YtehlikdeobajcaaGreatDoor
open Go.V Go.RowKit

abbrev vS (l : Str) : Value := .string ⟨⟨l⟩⟩
abbrev vN : Value := .string ⟨⟨[]⟩⟩
abbrev vI (n : Int) : Value := .int .i64 n
abbrev vU (n : Int) : Value := .int .u8 n
abbrev vT : Value := .bool true
abbrev vF : Value := .bool false
abbrev vP (b : Nat) : Value := .pointer (some ⟨b, 0, none⟩)
abbrev vA (b o : Nat) : Value := .pointer (some ⟨b, o, none⟩)
abbrev vQ : Value := .pointer none
abbrev vO : Value := .slice none 0 0
abbrev vB (b : Bool) : Value := .bool b
abbrev vG (l : List Value) : Value := .agg ⟨l⟩
abbrev vW (l : List Value) : Value := .tuple ⟨l⟩
abbrev vJ (n : Int) : Value := .int .i32 n
abbrev vL {α : Type} (g : Gh) (l : List α) : Value := .slice g.a l.length g.c
abbrev eO {α : Type} (E : TypeId) (T : Ty α) (l : List α) (g : Gh) : Ent := .own E T l g
abbrev eI {α : Type} (T : Ty α) (l : List α) (g : Gh) : Ent := .im T l g
abbrev eB (b : Nat) (cs : List Value) : Ent := .blk b cs
abbrev zN : List Value := [vN, vI 0, vN, vQ, vO]
def fS : List Nat → List Value → SF
  | k :: ks, v :: vs => (k, [], v) :: fS ks vs
  | _, _ => []
abbrev cV (x : TVal) : List Value := [vU x.Kind, vS x.Word, vI x.Num, vU x.Color.Red, vU x.Color.Green, vU x.Color.Blue, vU x.Color.Alpha]
abbrev cT (x : TToken) : List Value := [vU x.Kind, vS x.Text, vI x.Num, vS x.Unit, vB x.Flag]
abbrev cC (x : TColor) : List Value := [vU x.Red, vU x.Green, vU x.Blue, vU x.Alpha]
abbrev vK (g : Gh) (n : Nat) : Value := .slice g.a n g.c
abbrev kL0 : List Str := [[97, 117, 116, 111]]
abbrev kL1 : List Int := [2, 3, 4]
abbrev kL2 : List Str := [[98, 108, 111, 99, 107], [102, 108, 101, 120], [105, 110, 108, 105, 110, 101], [105, 110, 108, 105, 110, 101, 45, 98, 108, 111, 99, 107], [110, 111, 110, 101]]
abbrev kL3 : List Str := [[99, 111, 108, 108, 97, 112, 115, 101], [104, 105, 100, 100, 101, 110], [118, 105, 115, 105, 98, 108, 101]]
abbrev kL4 : List Str := [[110, 111, 114, 109, 97, 108]]
abbrev kL5 : List Str := [[99, 101, 110, 116, 101, 114], [106, 117, 115, 116, 105, 102, 121], [108, 101, 102, 116], [114, 105, 103, 104, 116]]
abbrev kL6 : List Str := [[116, 111, 112], [114, 105, 103, 104, 116], [98, 111, 116, 116, 111, 109], [108, 101, 102, 116]]
abbrev kL7 : List Int := [239, 191, 189]
abbrev kL8 : List Str := [[105, 110, 105, 116, 105, 97, 108], [105, 110, 104, 101, 114, 105, 116], [117, 110, 115, 101, 116], [114, 101, 118, 101, 114, 116]]
abbrev kL9 : List Str := [[109, 97, 114, 103, 105, 110], [98, 111, 114, 100, 101, 114], [111, 117, 116, 108, 105, 110, 101], [98, 97, 99, 107, 103, 114, 111, 117, 110, 100]]
abbrev kL10 : List Str := [[109, 97, 114, 103, 105, 110, 45, 116, 111, 112], [109, 97, 114, 103, 105, 110, 45, 114, 105, 103, 104, 116], [109, 97, 114, 103, 105, 110, 45, 98, 111, 116, 116, 111, 109], [109, 97, 114, 103, 105, 110, 45, 108, 101, 102, 116]]
abbrev rB (f : FuncId) (l : List Value) (v : Value) : World → Prop := fun wz => RetB Tryz.prog f ⟨l⟩ v wz
abbrev rN (b o : Nat) (l : List Value) : World → Prop := fun wz => V.atN b o l 0 wz
abbrev rA (b o : Nat) (v : Value) : World → Prop := fun wz => V.at1 ⟨b, o, none⟩ v wz
def tyToken : Ty TToken where
  z:=5
  enc:=fun x g => (cT x)
  inn:=fun _ _ _ _ => True
  len:=fun _ _ => rfl
  one:=fun _ _ => rfl
  kp:=fun _ _ _ => trivial
  anti:=fun _ _ => trivial
  fresh:=fun _ => trivial
def enc_TValue (x : TValue) (g : Nat → Gh) : List Value:=[vU x.Token.Kind,vS x.Token.Text,vI x.Token.Num,vS x.Token.Unit,vB x.Token.Flag,.slice (g 0).a x.List_.length (g 0).c]
inductive Inn_TValue (M : Av) (w : World) : TValue → (Nat → Gh) → Prop
  | mk (x : TValue) (g : Nat → Gh) (h0 : SlC 6 enc_TValue M w x.List_ (g 0)) (h1 : ∀ i (h : i < x.List_.length),Inn_TValue M w x.List_[i] ((g 0).s i)) : Inn_TValue M w x g
theorem Inn_TValue_kp {M : Av} {w w' : World} {X : List Nat} {x : TValue} {g : Nat → Gh} (h : Inn_TValue M w x g) (k : Kp X w w') (hX : ∀ b ∈ X,M b) : Inn_TValue M w' x g:=by
  induction h with
  | mk x g h0 _h1 ih1 => exact .mk x g (h0.kp k hX) ih1
theorem Inn_TValue_anti {M M' : Av} {w : World} {x : TValue} {g : Nat → Gh} (h : Inn_TValue M w x g) (hM : ∀ b,M' b → M b) : Inn_TValue M' w x g:=by
  induction h with
  | mk x g h0 _h1 ih1 => exact .mk x g (h0.anti hM) ih1
theorem Inn_TValue_fresh {M : Av} {w : World} {x : TValue} {g : Nat → Gh} (h : Inn_TValue M w x g) : Inn_TValue (fun b => M b ∨ w.heap.size ≤ b) w x g:=by
  induction h with
  | mk x g h0 _h1 ih1 => exact .mk x g (h0.fresh) ih1
def tyValue : Ty TValue where
  z:=6
  enc:=enc_TValue
  inn:=Inn_TValue
  len:=fun _ _ => rfl
  one:=fun _ _ => rfl
  kp:=fun h k hX => Inn_TValue_kp h k hX
  anti:=fun h hM => Inn_TValue_anti h hM
  fresh:=fun h => Inn_TValue_fresh h
theorem tyValue_i0 {M : Av} {w : World} {x : TValue} {g : Nat → Gh} (h : tyValue.inn M w x g) : SlG tyValue M w x.List_ (g 0):=by
  have h : Inn_TValue M w x g:=h
  cases h with
  | mk _ _ h0 h1 => exact ⟨h0,h1⟩
theorem tyValue_mk {M : Av} {w : World} {x : TValue} {g : Nat → Gh} (k0 : SlG tyValue M w x.List_ (g 0)) : tyValue.inn M w x g:=(Inn_TValue.mk x g k0.1 k0.2 : Inn_TValue M w x g)
def tyLong : Ty TLong where
  z:=3
  enc:=fun x g => [vS x.Name,.slice (g 0).a x.Value.length (g 0).c,vS x.Whole]
  inn:=fun M w x g => SlG tyValue M w x.Value (g 0) ∧ True
  len:=fun _ _ => rfl
  one:=fun _ _ => rfl
  kp:=fun h k hX => ⟨h.1.kp k hX,trivial⟩
  anti:=fun h hM => ⟨h.1.anti hM,trivial⟩
  fresh:=fun h => ⟨h.1.fresh,trivial⟩
theorem tyLong_i0 {M : Av} {w : World} {x : TLong} {g : Nat → Gh} (h : tyLong.inn M w x g) : SlG tyValue M w x.Value (g 0):=(show SlG tyValue M w x.Value (g 0) ∧ True from h).1
theorem tyLong_mk {M : Av} {w : World} {x : TLong} {g : Nat → Gh} (h0 : SlG tyValue M w x.Value (g 0)) : tyLong.inn M w x g:=show SlG tyValue M w x.Value (g 0) ∧ True from ⟨h0,trivial⟩
def tyWeight : Ty TWeight where
  z:=3
  enc:=fun x g => [vI x.e0,vI x.e1,vI x.e2]
  inn:=fun _ _ _ _ => True
  len:=fun _ _ => rfl
  one:=fun _ _ => rfl
  kp:=fun _ _ _ => trivial
  anti:=fun _ _ => trivial
  fresh:=fun _ => trivial
def tyDeclared : Ty TDeclared where
  z:=11
  enc:=fun x g => [vS x.Long.Name,.slice (g 0).a x.Long.Value.length (g 0).c,vS x.Long.Whole,vB x.Important,vU x.Origin,vB x.Attached,vI x.Layer,vI x.Weight.e0,vI x.Weight.e1,vI x.Weight.e2,vI x.Order]
  inn:=fun M w x g => SlG tyValue M w x.Long.Value (g 0) ∧ True
  len:=fun _ _ => rfl
  one:=fun _ _ => rfl
  kp:=fun h k hX => ⟨h.1.kp k hX,trivial⟩
  anti:=fun h hM => ⟨h.1.anti hM,trivial⟩
  fresh:=fun h => ⟨h.1.fresh,trivial⟩
theorem tyDeclared_i0 {M : Av} {w : World} {x : TDeclared} {g : Nat → Gh} (h : tyDeclared.inn M w x g) : SlG tyValue M w x.Long.Value (g 0):=(show SlG tyValue M w x.Long.Value (g 0) ∧ True from h).1
theorem tyDeclared_mk {M : Av} {w : World} {x : TDeclared} {g : Nat → Gh} (h0 : SlG tyValue M w x.Long.Value (g 0)) : tyDeclared.inn M w x g:=show SlG tyValue M w x.Long.Value (g 0) ∧ True from ⟨h0,trivial⟩
theorem r01_Cleaned_w  (M : Av) (m : Nat) (s : Str) (r : Str) (hm : r01_Cleaned m s = some r) (w : World) (hS : S0 M [] w) : Calls Tryz.prog 93 ⟨[vS s]⟩ w (fun e w' => ∃ v,e = .returned v ∧ v = vS r ∧ SH M (fpl []) w [] w'):=by
 rw [r01_Cleaned] at hm
 have hS0 : SH M (fpl []) w [] w:=hS
 generalize hX : fpl [] = X at hS0 ⊢
 clear hS hX
 have hS:=hS0
 clear hS0
 refine calls_entryP Tryz.func93 rfl Tryz.ntmps93 rfl fun _ H => ?_
 refine s_reg [] [0] [(0,[],vS s)] [] H (by kernel_rfl) trivial fun _ _ H2 hb => ?_
 replace hS:=hS.below hb
 refine s_reg [] [0,3] (fS [0,3] [vS s,vN]) [] H2 (by kernel_rfl) trivial fun _ _ H4 hb => ?_
 replace hS:=hS.below hb
 obtain ⟨z5,hz,hm⟩:=bindE hm
 refine w_cut (fun a' w' => Fr 46 [(3,[],vS z5)] a' ∧ SH M X w [] w') ?_ ?_
 ·replace hm:=hz
  refine s_reg [] [0,3,4] (fS [0,3,4] [vS s,vN,vI 0]) [] H4 (by kernel_rfl) trivial fun _ _ H7 hb => ?_
  replace hS:=hS.below hb
  apply w_block
  refine w_loop (fun kk a' w' => ∃ (v8 : Str) (v9 : Int),r01_Cleaned_L1 m s kk v8 v9 = some _ ∧ Fr 46 (fS [0,3,4] [vS s,vS v8,vI v9]) a' ∧ SH M X w [] w') ⟨_,[],0,hm,FrG.keep (ks:=[0,3,4]) H7 (by kernel_rfl),hS⟩ ?_
  clear hm H7 hS
  rintro kk _ _ ⟨v8,v9,hm,H,hS⟩
  cases kk with
  | zero => exact noneE hm
  | succ kk =>
   rw [r01_Cleaned_L1] at hm
   apply w_seq
   refine s_reg [] [0,3,4,9] (fS [0,3,4,9] [vS s,vS v8,vI v9,vB (decide (v9 < (ln s)))]) [] H (by kernel_rfl) trivial fun _ _ H11 hb => ?_
   replace hS:=hS.below hb
   refine w_if H11 rfl (fun hc => ?_) (fun hc => ?c54)
   case c54 =>
    replace hm:=bF hc hm
    apply w_exit rfl
    obtain rfl:=someE hm
    exact ⟨FrG.keep (ks:=[3]) H11 (by kernel_rfl),hS⟩
   replace hm:=bT hc hm
   apply w_skip
   obtain ⟨z12,hz,hm⟩:=bindE hm
   refine w_cut (fun a' w' => Fr 46 (fS [0,4,3] [vS s,vI v9,vS z12]) a' ∧ SH M X w [] w') ?_ ?_
   ·replace hm:=hz
    apply w_block
    obtain ⟨ho13,hm⟩:=chkE hm
    refine s_reg [] [0,3,4,5] (fS [0,3,4,5] [vS s,vS v8,vI v9,vU (bat s v9)]) [fun _ => 0 ≤ v9 ∧ v9 < ln s] H11 (by kernel_rfl) ⟨ho13,trivial⟩ fun _ _ H15 hb => ?_
    replace hS:=hS.below hb
    apply w_seq
    obtain ⟨x16,hx16,hm⟩:=letE hm
    obtain ⟨ho17,hm⟩:=chkE hm
    obtain ⟨x18,hx18,hm⟩:=letE hm
    refine s_reg [] [0,3,4,5,27] (fS [0,3,4,5,27] [vS s,vS v8,vI v9,vU (bat s v9),vB x18]) [fun _ => (x16 = true ∧ True → 0 ≤ (w64 (v9 - 1)) ∧ (w64 (v9 - 1)) < ln s)] H15 (by subst hx16 hx18; kernel_rfl) ⟨fun hg => (ho17 hg.1),trivial⟩ fun _ _ H20 hb => ?_
    replace hS:=hS.below hb
    refine w_if H20 rfl (fun hc => ?c50) (fun hc => ?_)
    case c50 =>
     replace hm:=bT hc hm
     apply w_exit rfl
     obtain rfl:=someE hm
     exact ⟨FrG.keep (ks:=[0,4,3]) H20 (by kernel_rfl),hS⟩
    replace hm:=bF hc hm
    apply w_skip
    obtain ⟨z21,hz,hm⟩:=bindE hm
    refine w_cut (fun a' w' => Fr 46 (fS [0,3,4,5] [vS s,vS v8,vI v9,vU z21]) a' ∧ SH M X w [] w') ?_ ?_
    ·replace hm:=hz
     obtain ⟨x22,hx22,hm⟩:=letE hm
     refine s_reg [] [0,3,4,5,33] (fS [0,3,4,5,33] [vS s,vS v8,vI v9,vU (bat s v9),vB x22]) [] H20 (by subst hx22; kernel_rfl) trivial fun _ _ H24 hb => ?_
     replace hS:=hS.below hb
     refine w_if H24 rfl (fun hc => ?_) (fun hc => ?c27)
     case c27 =>
      replace hm:=bF hc hm
      apply w_skip
      obtain rfl:=someE hm
      exact ⟨FrG.keep (ks:=[0,3,4,5]) H24 (by kernel_rfl),hS⟩
     replace hm:=bT hc hm
     refine w_reg [] [0,3,4,5] (fS [0,3,4,5] [vS s,vS v8,vI v9,vU 10]) [] H24 (by kernel_rfl) trivial fun _ _ H26 hb => ?_
     replace hS:=hS.below hb
     obtain rfl:=someE hm
     exact ⟨FrG.keep (ks:=[0,3,4,5]) H26 (by kernel_rfl),hS⟩
    ·rintro _ _ ⟨H,hS⟩
     refine s_reg [] [0,3,4,5,35] (fS [0,3,4,5,35] [vS s,vS v8,vI v9,vU z21,vB (z21 == 0)]) [] H (by kernel_rfl) trivial fun _ _ H29 hb => ?_
     replace hS:=hS.below hb
     refine w_if H29 rfl (fun hc => ?_) (fun hc => ?c48)
     case c48 =>
      replace hm:=bF hc hm
      apply wl_start
      refine wl_batch 0 2 [] [0,4,40,41] (fS [0,4,40,41] [vS s,vI v9,vS v8,vU z21]) [] H29 (by decide) (by kernel_rfl) trivial fun _ _ H40 hb => ?_
      replace hS:=hS.below hb
      have hd:=hS.hand [] [] rfl rfl
      refine m_stp [42,0,4,40] (fS [0,4,40] [vS s,vI v9,vS v8]) H40 rfl rfl rfl rfl (o_lit (T:=(tI .u8)) (E:=5) (zv:=vU 0) [vU z21] ([z21] : List Int) [gL []] _ H40 hd rfl (by kernel_rfl) (by kernel_rfl) (by kernel_rfl) (by kernel_rfl) (by kernel_rfl) (by kernel_rfl) (by kernel_rfl) rfl (InnL.cons trivial InnL.nil)) (fun _ => rfl) fun _ _ v H44 hq => ?_
      obtain ⟨g41,rfl,hq⟩:=hq
      replace hS : SH M X w [eO 5 (tI .u8) ([z21] : List Int) g41] _:=hS.join [] [] rfl rfl hq
      obtain ⟨ho45,hm⟩:=chkE hm
      refine wl_batch 3 6 [(vS (toB ([z21] : List Int)))] [0,3,4] (fS [0,3,4] [vS s,vS (v8 ++ (toB ([z21] : List Int))),vI v9]) [fun wz => ∀ w',Below wz.heap.size wz w' → (convert 75 9 (vK g41 1)).run Tryz.prog w' = .ok (vS (toB ([z21] : List Int))) w',fun _ => ln v8 + ln (toB ([z21] : List Int)) ≤ 9223372036854775807] H44 (by decide) (by kernel_rfl) ⟨(conv_slG (E:=5) (by kernel_rfl) (by kernel_rfl) (by kernel_rfl) (hS.osl 0 rfl)),ho45,trivial⟩ fun _ _ H47 hb => ?_
      replace hS:=hS.below hb
      apply wl_end rfl
      replace hS : SH M X w [] _:=hS.sel [] rfl
      obtain rfl:=someE hm
      exact ⟨FrG.keep (ks:=[0,4,3]) H47 (by kernel_rfl),hS⟩
     replace hm:=bT hc hm
     apply wl_start
     refine wl_batch 0 1 [] [0,4,36] (fS [0,4,36] [vS s,vI v9,vS v8]) [] H29 (by decide) (by kernel_rfl) trivial fun _ _ H31 hb => ?_
     replace hS:=hS.below hb
     have hd:=hS.hand [] [] rfl rfl
     refine m_stp [37,0,4,36] (fS [0,4,36] [vS s,vI v9,vS v8]) H31 rfl rfl rfl rfl (o_lit (T:=(tI .u8)) (E:=5) (zv:=vU 0) [vU 239,vU 191,vU 189] kL7 [gL [],gL [],gL []] _ H31 hd rfl (by kernel_rfl) (by kernel_rfl) (by kernel_rfl) (by kernel_rfl) (by kernel_rfl) (by kernel_rfl) (by kernel_rfl) rfl (InnL.cons trivial (InnL.cons trivial (InnL.cons trivial InnL.nil)))) (fun _ => rfl) fun _ _ v H35 hq => ?_
     obtain ⟨g32,rfl,hq⟩:=hq
     replace hS : SH M X w [eO 5 (tI .u8) kL7 g32] _:=hS.join [] [] rfl rfl hq
     obtain ⟨ho36,hm⟩:=chkE hm
     refine wl_batch 2 5 [(vS (toB kL7))] [0,3,4] (fS [0,3,4] [vS s,vS (v8 ++ (toB kL7)),vI v9]) [fun wz => ∀ w',Below wz.heap.size wz w' → (convert 75 9 (vK g32 3)).run Tryz.prog w' = .ok (vS (toB kL7)) w',fun _ => ln v8 + ln (toB kL7) ≤ 9223372036854775807] H35 (by decide) (by kernel_rfl) ⟨(conv_slG (E:=5) (by kernel_rfl) (by kernel_rfl) (by kernel_rfl) (hS.osl 0 rfl)),ho36,trivial⟩ fun _ _ H38 hb => ?_
     replace hS:=hS.below hb
     apply wl_end rfl
     replace hS : SH M X w [] _:=hS.sel [] rfl
     obtain rfl:=someE hm
     exact ⟨FrG.keep (ks:=[0,4,3]) H38 (by kernel_rfl),hS⟩
   ·rintro _ _ ⟨H,hS⟩
    refine w_reg [] [0,3,4] (fS [0,3,4] [vS s,vS z12,vI (w64 (v9 + 1))]) [] H (by kernel_rfl) trivial fun _ _ H52 hb => ?_
    replace hS:=hS.below hb
    exact ⟨_,Nat.lt_succ_self _,z12,w64 (v9 + 1),hm,FrG.keep (ks:=[0,3,4]) H52 (by kernel_rfl),hS⟩
 ·rintro _ _ ⟨H,hS⟩
  refine s_reg [] [2] [(2,[],vS z5)] [] H (by kernel_rfl) trivial fun _ _ H57 hb => ?_
  replace hS:=hS.below hb
  apply w_ret
  obtain rfl:=someE hm
  exact retR1 H57 rfl rfl ⟨_,rfl,rfl,(hS.sel [] rfl)⟩
theorem r01_Cleaned_ok  (m : Nat) (s : Str) (r : Str) (hm : r01_Cleaned m s = some r) : Ret Tryz.prog 93 ⟨[vS s]⟩ (vS r):=retP_of (Tryz.call93 _) (fun w h => r01_Cleaned_w F0 m   s r hm w h)

theorem r01_Clean_w  (M : Av) (m : Nat) (s : Str) (r : Str × Int) (hm : r01_Clean m s = some r) (w : World) (hS : S0 M [] w) : Calls Tryz.prog 81 ⟨[vS s]⟩ w (fun e w' => ∃ v,e = .returned v ∧ v = vW [vS r.1,vI r.2] ∧ SH M (fpl []) w [] w'):=by
 rw [r01_Clean] at hm
 have hS0 : SH M (fpl []) w [] w:=hS
 generalize hX : fpl [] = X at hS0 ⊢
 clear hS hX
 have hS:=hS0
 clear hS0
 refine calls_entryP Tryz.func81 rfl Tryz.ntmps81 rfl fun _ H => ?_
 refine s_reg [] [0] [(0,[],vS s)] [] H (by kernel_rfl) trivial fun _ _ H2 hb => ?_
 replace hS:=hS.below hb
 apply w_seq
 refine s_reg [] [0,6] (fS [0,6] [vS s,vB (decide (4000 < (ln s)))]) [] H2 (by kernel_rfl) trivial fun _ _ H4 hb => ?_
 replace hS:=hS.below hb
 refine w_if H4 rfl (fun hc => ?c10) (fun hc => ?_)
 case c10 =>
  replace hm:=bT hc hm
  refine s_reg [] [2,3] (fS [2,3] [vN,vI 28]) [] H4 (by kernel_rfl) trivial fun _ _ H6 hb => ?_
  replace hS:=hS.below hb
  apply w_ret
  obtain rfl:=someE hm
  exact retR2 H6 rfl rfl rfl ⟨_,rfl,rfl,(hS.sel [] rfl)⟩
 replace hm:=bF hc hm
 apply w_skip
 obtain ⟨y7,hy7,hm⟩:=bindE hm
 refine s_reg [(vS y7)] [2,3] (fS [2,3] [vS y7,vI 0]) [rB 93 [vS s] (vS y7)] H4 (by kernel_rfl) ⟨((r01_Cleaned_ok m _ _ hy7).b),trivial⟩ fun _ _ H9 hb => ?_
 replace hS:=hS.below hb
 apply w_ret
 obtain rfl:=someE hm
 exact retR2 H9 rfl rfl rfl ⟨_,rfl,rfl,(hS.sel [] rfl)⟩
theorem r01_Clean_ok  (m : Nat) (s : Str) (r : Str × Int) (hm : r01_Clean m s = some r) : Ret Tryz.prog 81 ⟨[vS s]⟩ (vW [vS r.1,vI r.2]):=retP_of (Tryz.call81 _) (fun w h => r01_Clean_w F0 m   s r hm w h)

theorem r02_has_w  (M : Av) (s : Str) (i : Int) (x_ : Str) (r : Bool) (hm : r02_has s i x_ = some r) (w : World) (hS : S0 M [] w) : Calls Tryz.prog 102 ⟨[vS s,vI i,vS x_]⟩ w (fun e w' => ∃ v,e = .returned v ∧ v = vB r ∧ SH M (fpl []) w [] w'):=by
 rw [r02_has] at hm
 have hS0 : SH M (fpl []) w [] w:=hS
 generalize hX : fpl [] = X at hS0 ⊢
 clear hS hX
 have hS:=hS0
 clear hS0
 refine calls_entryP Tryz.func102 rfl Tryz.ntmps102 rfl fun _ H => ?_
 refine s_reg [] [0,1,2] (fS [0,1,2] [vS s,vI i,vS x_]) [] H (by kernel_rfl) trivial fun _ _ H2 hb => ?_
 replace hS:=hS.below hb
 obtain ⟨ho3,hm⟩:=chkE hm
 obtain ⟨x4,hx4,hm⟩:=letE hm
 refine s_reg [] [6] [(6,[],vB x4)] [fun _ => ((decide ((ln x_) ≤ (w64 ((ln s) - i)))) = true ∧ True → 0 ≤ i ∧ i ≤ (w64 (i + (ln x_))) ∧ (w64 (i + (ln x_))) ≤ ln s)] H2 (by subst hx4; kernel_rfl) ⟨fun hg => (ho3 hg.1),trivial⟩ fun _ _ H6 hb => ?_
 replace hS:=hS.below hb
 apply w_ret
 obtain rfl:=someE hm
 exact retR1 H6 rfl rfl ⟨_,rfl,rfl,(hS.sel [] rfl)⟩
theorem r02_has_ok  (s : Str) (i : Int) (x_ : Str) (r : Bool) (hm : r02_has s i x_ = some r) : Ret Tryz.prog 102 ⟨[vS s,vI i,vS x_]⟩ (vB r):=retP_of (Tryz.call102 _) (fun w h => r02_has_w F0   s i x_ r hm w h)

theorem r02_Past_w  (M : Av) (m : Nat) (s : Str) (i : Int) (r : Int) (hm : r02_Past m s i = some r) (w : World) (hS : S0 M [] w) : Calls Tryz.prog 94 ⟨[vS s,vI i]⟩ w (fun e w' => ∃ v,e = .returned v ∧ v = vI r ∧ SH M (fpl []) w [] w'):=by
 rw [r02_Past] at hm
 have hS0 : SH M (fpl []) w [] w:=hS
 generalize hX : fpl [] = X at hS0 ⊢
 clear hS hX
 have hS:=hS0
 clear hS0
 refine calls_entryP Tryz.func94 rfl Tryz.ntmps94 rfl fun _ H => ?_
 refine s_reg [] [0,1] (fS [0,1] [vS s,vI i]) [] H (by kernel_rfl) trivial fun _ _ H2 hb => ?_
 replace hS:=hS.below hb
 obtain ⟨z3,hz,hm⟩:=bindE hm
 refine w_cut (fun a' w' => Fr 28 [(1,[],vI z3)] a' ∧ SH M X w [] w') ?_ ?_
 ·replace hm:=hz
  apply w_block
  refine w_loop (fun kk a' w' => ∃ (v4 : Int),r02_Past_L1 m s kk v4 = some _ ∧ Fr 28 (fS [0,1] [vS s,vI v4]) a' ∧ SH M X w [] w') ⟨_,i,hm,FrG.keep (ks:=[0,1]) H2 (by kernel_rfl),hS⟩ ?_
  clear hm H2 hS
  rintro kk _ _ ⟨v4,hm,H,hS⟩
  cases kk with
  | zero => exact noneE hm
  | succ kk =>
   rw [r02_Past_L1] at hm
   apply w_seq
   obtain ⟨y5,hy5,hm⟩:=bindE hm
   refine s_reg [(vB y5)] [0,1,7] (fS [0,1,7] [vS s,vI v4,vB y5]) [rB 102 [vS s,vI v4,vS [47,42]] (vB y5)] H (by kernel_rfl) ⟨((r02_has_ok _ _ _ _ hy5).b),trivial⟩ fun _ _ H7 hb => ?_
   replace hS:=hS.below hb
   refine w_if H7 rfl (fun hc => ?_) (fun hc => ?c24)
   case c24 =>
    replace hm:=bF hc hm
    apply w_exit rfl
    obtain rfl:=someE hm
    exact ⟨FrG.keep (ks:=[1]) H7 (by kernel_rfl),hS⟩
   replace hm:=bT hc hm
   apply w_skip
   apply w_block
   refine s_reg [] [0,1] (fS [0,1] [vS s,vI (w64 (v4 + 2))]) [] H7 (by kernel_rfl) trivial fun _ _ H9 hb => ?_
   replace hS:=hS.below hb
   obtain ⟨z10,hz,hm⟩:=bindE hm
   refine w_cut (fun a' w' => Fr 28 (fS [0,1] [vS s,vI z10]) a' ∧ SH M X w [] w') ?_ ?_
   ·replace hm:=hz
    apply w_block
    refine w_loop (fun kk a' w' => ∃ (v11 : Int),r02_Past_L2 m s kk v11 = some _ ∧ Fr 28 (fS [0,1] [vS s,vI v11]) a' ∧ SH M X w [] w') ⟨_,w64 (v4 + 2),hm,FrG.keep (ks:=[0,1]) H9 (by kernel_rfl),hS⟩ ?_
    clear hm H9 hS
    rintro kk _ _ ⟨v11,hm,H,hS⟩
    cases kk with
    | zero => exact noneE hm
    | succ kk =>
     rw [r02_Past_L2] at hm
     apply w_seq
     obtain ⟨y12,hy12,hm⟩:=bindE hm
     obtain ⟨x13,hx13,hm⟩:=letE hm
     refine s_reg [(vB y12)] [0,1,19] (fS [0,1,19] [vS s,vI v11,vB x13]) [fun wz => ((decide (v11 < (ln s))) = true ∧ True → RetB Tryz.prog 102 ⟨[vS s,vI v11,vS [42,47]]⟩ (vB y12) wz)] H (by subst hx13; kernel_rfl) ⟨fun hg => (r02_has_ok _ _ _ _ (bT (hg.1) hy12)).b,trivial⟩ fun _ _ H15 hb => ?_
     replace hS:=hS.below hb
     refine w_if H15 rfl (fun hc => ?_) (fun hc => ?c18)
     case c18 =>
      replace hm:=bF hc hm
      apply w_exit rfl
      obtain rfl:=someE hm
      exact ⟨FrG.keep (ks:=[0,1]) H15 (by kernel_rfl),hS⟩
     replace hm:=bT hc hm
     apply w_skip
     apply w_block
     refine w_reg [] [0,1] (fS [0,1] [vS s,vI (w64 (v11 + 1))]) [] H15 (by kernel_rfl) trivial fun _ _ H17 hb => ?_
     replace hS:=hS.below hb
     exact ⟨_,Nat.lt_succ_self _,w64 (v11 + 1),hm,FrG.keep (ks:=[0,1]) H17 (by kernel_rfl),hS⟩
   ·rintro _ _ ⟨H,hS⟩
    obtain ⟨x20,hx20,hm⟩:=letE hm
    refine w_reg [] [0,1] (fS [0,1] [vS s,vI x20]) [] H (by subst hx20; kernel_rfl) trivial fun _ _ H22 hb => ?_
    replace hS:=hS.below hb
    exact ⟨_,Nat.lt_succ_self _,x20,hm,FrG.keep (ks:=[0,1]) H22 (by kernel_rfl),hS⟩
 ·rintro _ _ ⟨H,hS⟩
  refine s_reg [] [4] [(4,[],vI z3)] [] H (by kernel_rfl) trivial fun _ _ H27 hb => ?_
  replace hS:=hS.below hb
  apply w_ret
  obtain rfl:=someE hm
  exact retR1 H27 rfl rfl ⟨_,rfl,rfl,(hS.sel [] rfl)⟩
theorem r02_Past_ok  (m : Nat) (s : Str) (i : Int) (r : Int) (hm : r02_Past m s i = some r) : Ret Tryz.prog 94 ⟨[vS s,vI i]⟩ (vI r):=retP_of (Tryz.call94 _) (fun w h => r02_Past_w F0 m   s i r hm w h)

theorem r02_Space_w  (M : Av) (c_ : Int) (r : Bool) (hm : r02_Space c_ = r) (w : World) (hS : S0 M [] w) : Calls Tryz.prog 103 ⟨[vU c_]⟩ w (fun e w' => ∃ v,e = .returned v ∧ v = vB r ∧ SH M (fpl []) w [] w'):=by
 rw [r02_Space] at hm
 have hS0 : SH M (fpl []) w [] w:=hS
 generalize hX : fpl [] = X at hS0 ⊢
 clear hS hX
 have hS:=hS0
 clear hS0
 refine calls_entryP Tryz.func103 rfl Tryz.ntmps103 rfl fun _ H => ?_
 refine s_reg [] [0] [(0,[],vU c_)] [] H (by kernel_rfl) trivial fun _ _ H2 hb => ?_
 replace hS:=hS.below hb
 obtain ⟨x3,hx3,hm⟩:=letE hm
 refine s_reg [] [2] [(2,[],vB x3)] [] H2 (by subst hx3; kernel_rfl) trivial fun _ _ H5 hb => ?_
 replace hS:=hS.below hb
 apply w_ret
 subst hm
 exact retR1 H5 rfl rfl ⟨_,rfl,rfl,(hS.sel [] rfl)⟩
theorem r02_Space_ok  (c_ : Int) : Ret Tryz.prog 103 ⟨[vU c_]⟩ (vB (r02_Space c_)):=retP_of (Tryz.call103 _) (fun w h => r02_Space_w F0   c_ _ rfl w h)

theorem r02_At_w  (M : Av) (s : Str) (i : Int) (r : Int) (hm : r02_At s i = some r) (w : World) (hS : S0 M [] w) : Calls Tryz.prog 116 ⟨[vS s,vI i]⟩ w (fun e w' => ∃ v,e = .returned v ∧ v = vU r ∧ SH M (fpl []) w [] w'):=by
 rw [r02_At] at hm
 have hS0 : SH M (fpl []) w [] w:=hS
 generalize hX : fpl [] = X at hS0 ⊢
 clear hS hX
 have hS:=hS0
 clear hS0
 refine calls_entryP Tryz.func116 rfl Tryz.ntmps116 rfl fun _ H => ?_
 refine s_reg [] [0,1] (fS [0,1] [vS s,vI i]) [] H (by kernel_rfl) trivial fun _ _ H2 hb => ?_
 replace hS:=hS.below hb
 apply w_seq
 refine s_reg [] [0,1,8] (fS [0,1,8] [vS s,vI i,vB (decide (i < (ln s)))]) [] H2 (by kernel_rfl) trivial fun _ _ H4 hb => ?_
 replace hS:=hS.below hb
 refine w_if H4 rfl (fun hc => ?_) (fun hc => ?c10)
 case c10 =>
  replace hm:=bF hc hm
  apply w_skip
  refine s_reg [] [4] [(4,[],vU 0)] [] H4 (by kernel_rfl) trivial fun _ _ H9 hb => ?_
  replace hS:=hS.below hb
  apply w_ret
  obtain rfl:=someE hm
  exact retR1 H9 rfl rfl ⟨_,rfl,rfl,(hS.sel [] rfl)⟩
 replace hm:=bT hc hm
 obtain ⟨ho5,hm⟩:=chkE hm
 refine s_reg [] [4] [(4,[],vU (bat s i))] [fun _ => 0 ≤ i ∧ i < ln s] H4 (by kernel_rfl) ⟨ho5,trivial⟩ fun _ _ H7 hb => ?_
 replace hS:=hS.below hb
 apply w_ret
 obtain rfl:=someE hm
 exact retR1 H7 rfl rfl ⟨_,rfl,rfl,(hS.sel [] rfl)⟩
theorem r02_At_ok  (s : Str) (i : Int) (r : Int) (hm : r02_At s i = some r) : Ret Tryz.prog 116 ⟨[vS s,vI i]⟩ (vU r):=retP_of (Tryz.call116 _) (fun w h => r02_At_w F0   s i r hm w h)

theorem r02_spaces_w  (M : Av) (m : Nat) (s : Str) (i : Int) (r : Int) (hm : r02_spaces m s i = some r) (w : World) (hS : S0 M [] w) : Calls Tryz.prog 104 ⟨[vS s,vI i]⟩ w (fun e w' => ∃ v,e = .returned v ∧ v = vI r ∧ SH M (fpl []) w [] w'):=by
 rw [r02_spaces] at hm
 have hS0 : SH M (fpl []) w [] w:=hS
 generalize hX : fpl [] = X at hS0 ⊢
 clear hS hX
 have hS:=hS0
 clear hS0
 refine calls_entryP Tryz.func104 rfl Tryz.ntmps104 rfl fun _ H => ?_
 refine s_reg [] [0,1] (fS [0,1] [vS s,vI i]) [] H (by kernel_rfl) trivial fun _ _ H2 hb => ?_
 replace hS:=hS.below hb
 obtain ⟨z3,hz,hm⟩:=bindE hm
 refine w_cut (fun a' w' => Fr 12 [(1,[],vI z3)] a' ∧ SH M X w [] w') ?_ ?_
 ·replace hm:=hz
  apply w_block
  refine w_loop (fun kk a' w' => ∃ (v4 : Int),r02_spaces_L1 m s kk v4 = some _ ∧ Fr 12 (fS [0,1] [vS s,vI v4]) a' ∧ SH M X w [] w') ⟨_,i,hm,FrG.keep (ks:=[0,1]) H2 (by kernel_rfl),hS⟩ ?_
  clear hm H2 hS
  rintro kk _ _ ⟨v4,hm,H,hS⟩
  cases kk with
  | zero => exact noneE hm
  | succ kk =>
   rw [r02_spaces_L1] at hm
   apply w_seq
   obtain ⟨y5,hy5,hm⟩:=bindE hm
   refine s_reg [(vU y5),(vB (r02_Space y5))] [0,1,8] (fS [0,1,8] [vS s,vI v4,vB (r02_Space y5)]) [rB 116 [vS s,vI v4] (vU y5),rB 103 [vU y5] (vB (r02_Space y5))] H (by kernel_rfl) ⟨((r02_At_ok _ _ _ hy5).b),((r02_Space_ok _).b),trivial⟩ fun _ _ H7 hb => ?_
   replace hS:=hS.below hb
   refine w_if H7 rfl (fun hc => ?_) (fun hc => ?c10)
   case c10 =>
    replace hm:=bF hc hm
    apply w_exit rfl
    obtain rfl:=someE hm
    exact ⟨FrG.keep (ks:=[1]) H7 (by kernel_rfl),hS⟩
   replace hm:=bT hc hm
   apply w_skip
   apply w_block
   refine w_reg [] [0,1] (fS [0,1] [vS s,vI (w64 (v4 + 1))]) [] H7 (by kernel_rfl) trivial fun _ _ H9 hb => ?_
   replace hS:=hS.below hb
   exact ⟨_,Nat.lt_succ_self _,w64 (v4 + 1),hm,FrG.keep (ks:=[0,1]) H9 (by kernel_rfl),hS⟩
 ·rintro _ _ ⟨H,hS⟩
  refine s_reg [] [4] [(4,[],vI z3)] [] H (by kernel_rfl) trivial fun _ _ H13 hb => ?_
  replace hS:=hS.below hb
  apply w_ret
  obtain rfl:=someE hm
  exact retR1 H13 rfl rfl ⟨_,rfl,rfl,(hS.sel [] rfl)⟩
theorem r02_spaces_ok  (m : Nat) (s : Str) (i : Int) (r : Int) (hm : r02_spaces m s i = some r) : Ret Tryz.prog 104 ⟨[vS s,vI i]⟩ (vI r):=retP_of (Tryz.call104 _) (fun w h => r02_spaces_w F0 m   s i r hm w h)

theorem r02_lost_w  (M : Av)  (r : Str) (hm : r02_lost = r) (w : World) (hS : S0 M [] w) : Calls Tryz.prog 124 ⟨[]⟩ w (fun e w' => ∃ v,e = .returned v ∧ v = vS r ∧ SH M (fpl []) w [] w'):=by
 rw [r02_lost] at hm
 have hS0 : SH M (fpl []) w [] w:=hS
 generalize hX : fpl [] = X at hS0 ⊢
 clear hS hX
 have hS:=hS0
 clear hS0
 refine calls_entryP Tryz.func124 rfl Tryz.ntmps124 rfl fun _ H => ?_
 refine s_reg [] [] [] [] H (by kernel_rfl) trivial fun _ _ H2 hb => ?_
 replace hS:=hS.below hb
 apply w_seq
 apply wl_start
 have hd:=hS.hand [] [] rfl rfl
 refine m_stp [1] [] H2 rfl rfl rfl rfl (o_lit (T:=(tI .u8)) (E:=5) (zv:=vU 0) [vU 239,vU 191,vU 189] kL7 [gL [],gL [],gL []] _ H2 hd rfl (by kernel_rfl) (by kernel_rfl) (by kernel_rfl) (by kernel_rfl) (by kernel_rfl) (by kernel_rfl) (by kernel_rfl) rfl (InnL.cons trivial (InnL.cons trivial (InnL.cons trivial InnL.nil)))) (fun _ => rfl) fun _ _ v H6 hq => ?_
 obtain ⟨g3,rfl,hq⟩:=hq
 replace hS : SH M X w [eO 5 (tI .u8) kL7 g3] _:=hS.join [] [] rfl rfl hq
 refine wl_batch 1 3 [(vS (toB kL7))] [0] [(0,[],vS (toB kL7))] [fun wz => ∀ w',Below wz.heap.size wz w' → (convert 75 9 (vK g3 3)).run Tryz.prog w' = .ok (vS (toB kL7)) w'] H6 (by decide) (by kernel_rfl) ⟨(conv_slG (E:=5) (by kernel_rfl) (by kernel_rfl) (by kernel_rfl) (hS.osl 0 rfl)),trivial⟩ fun _ _ H8 hb => ?_
 replace hS:=hS.below hb
 apply wl_end rfl
 replace hS : SH M X w [] _:=hS.sel [] rfl
 apply w_ret
 subst hm
 exact retR1 H8 rfl rfl ⟨_,rfl,rfl,(hS.sel [] rfl)⟩
theorem r02_lost_ok   : Ret Tryz.prog 124 ⟨[]⟩ (vS r02_lost):=retP_of (Tryz.call124 _) (fun w h => r02_lost_w F0    _ rfl w h)

theorem r02_Digit_w  (M : Av) (c_ : Int) (r : Bool) (hm : r02_Digit c_ = r) (w : World) (hS : S0 M [] w) : Calls Tryz.prog 119 ⟨[vU c_]⟩ w (fun e w' => ∃ v,e = .returned v ∧ v = vB r ∧ SH M (fpl []) w [] w'):=by
 rw [r02_Digit] at hm
 have hS0 : SH M (fpl []) w [] w:=hS
 generalize hX : fpl [] = X at hS0 ⊢
 clear hS hX
 have hS:=hS0
 clear hS0
 refine calls_entryP Tryz.func119 rfl Tryz.ntmps119 rfl fun _ H => ?_
 refine s_reg [] [0] [(0,[],vU c_)] [] H (by kernel_rfl) trivial fun _ _ H2 hb => ?_
 replace hS:=hS.below hb
 obtain ⟨x3,hx3,hm⟩:=letE hm
 refine s_reg [] [2] [(2,[],vB x3)] [] H2 (by subst hx3; kernel_rfl) trivial fun _ _ H5 hb => ?_
 replace hS:=hS.below hb
 apply w_ret
 subst hm
 exact retR1 H5 rfl rfl ⟨_,rfl,rfl,(hS.sel [] rfl)⟩
theorem r02_Digit_ok  (c_ : Int) : Ret Tryz.prog 119 ⟨[vU c_]⟩ (vB (r02_Digit c_)):=retP_of (Tryz.call119 _) (fun w h => r02_Digit_w F0   c_ _ rfl w h)

theorem r01_Small_w  (M : Av) (c_ : Int) (r : Int) (hm : r01_Small c_ = r) (w : World) (hS : S0 M [] w) : Calls Tryz.prog 127 ⟨[vU c_]⟩ w (fun e w' => ∃ v,e = .returned v ∧ v = vU r ∧ SH M (fpl []) w [] w'):=by
 rw [r01_Small] at hm
 have hS0 : SH M (fpl []) w [] w:=hS
 generalize hX : fpl [] = X at hS0 ⊢
 clear hS hX
 have hS:=hS0
 clear hS0
 refine calls_entryP Tryz.func127 rfl Tryz.ntmps127 rfl fun _ H => ?_
 refine s_reg [] [0] [(0,[],vU c_)] [] H (by kernel_rfl) trivial fun _ _ H2 hb => ?_
 replace hS:=hS.below hb
 apply w_seq
 obtain ⟨x3,hx3,hm⟩:=letE hm
 refine s_reg [] [0,8] (fS [0,8] [vU c_,vB x3]) [] H2 (by subst hx3; kernel_rfl) trivial fun _ _ H5 hb => ?_
 replace hS:=hS.below hb
 refine w_if H5 rfl (fun hc => ?c10) (fun hc => ?_)
 case c10 =>
  replace hm:=bT hc hm
  refine s_reg [] [2] [(2,[],vU (wu8 ((wu8 (c_ - 65)) + 97)))] [] H5 (by kernel_rfl) trivial fun _ _ H7 hb => ?_
  replace hS:=hS.below hb
  apply w_ret
  subst hm
  exact retR1 H7 rfl rfl ⟨_,rfl,rfl,(hS.sel [] rfl)⟩
 replace hm:=bF hc hm
 apply w_skip
 refine s_reg [] [2] [(2,[],vU c_)] [] H5 (by kernel_rfl) trivial fun _ _ H9 hb => ?_
 replace hS:=hS.below hb
 apply w_ret
 subst hm
 exact retR1 H9 rfl rfl ⟨_,rfl,rfl,(hS.sel [] rfl)⟩
theorem r01_Small_ok  (c_ : Int) : Ret Tryz.prog 127 ⟨[vU c_]⟩ (vU (r01_Small c_)):=retP_of (Tryz.call127 _) (fun w h => r01_Small_w F0   c_ _ rfl w h)

theorem r02_Hex_w  (M : Av) (c_ : Int) (r : Int) (hm : r02_Hex c_ = r) (w : World) (hS : S0 M [] w) : Calls Tryz.prog 125 ⟨[vU c_]⟩ w (fun e w' => ∃ v,e = .returned v ∧ v = vI r ∧ SH M (fpl []) w [] w'):=by
 rw [r02_Hex] at hm
 have hS0 : SH M (fpl []) w [] w:=hS
 generalize hX : fpl [] = X at hS0 ⊢
 clear hS hX
 have hS:=hS0
 clear hS0
 refine calls_entryP Tryz.func125 rfl Tryz.ntmps125 rfl fun _ H => ?_
 refine s_reg [] [0] [(0,[],vU c_)] [] H (by kernel_rfl) trivial fun _ _ H2 hb => ?_
 replace hS:=hS.below hb
 apply w_seq
 refine s_reg [(vB (r02_Digit c_))] [0,4] (fS [0,4] [vU c_,vB (r02_Digit c_)]) [rB 119 [vU c_] (vB (r02_Digit c_))] H2 (by kernel_rfl) ⟨((r02_Digit_ok _).b),trivial⟩ fun _ _ H4 hb => ?_
 replace hS:=hS.below hb
 refine w_if H4 rfl (fun hc => ?c18) (fun hc => ?_)
 case c18 =>
  replace hm:=bT hc hm
  refine s_reg [] [2] [(2,[],vI (w64 (wu8 (c_ - 48))))] [] H4 (by kernel_rfl) trivial fun _ _ H6 hb => ?_
  replace hS:=hS.below hb
  apply w_ret
  subst hm
  exact retR1 H6 rfl rfl ⟨_,rfl,rfl,(hS.sel [] rfl)⟩
 replace hm:=bF hc hm
 apply w_skip
 refine s_reg [(vU (r01_Small c_))] [0] [(0,[],vU (r01_Small c_))] [rB 127 [vU c_] (vU (r01_Small c_))] H4 (by kernel_rfl) ⟨((r01_Small_ok _).b),trivial⟩ fun _ _ H8 hb => ?_
 replace hS:=hS.below hb
 apply w_seq
 obtain ⟨x9,hx9,hm⟩:=letE hm
 refine s_reg [] [0,15] (fS [0,15] [vU (r01_Small c_),vB x9]) [] H8 (by subst hx9; kernel_rfl) trivial fun _ _ H11 hb => ?_
 replace hS:=hS.below hb
 refine w_if H11 rfl (fun hc => ?_) (fun hc => ?c17)
 case c17 =>
  replace hm:=bF hc hm
  apply w_skip
  refine s_reg [] [2] [(2,[],vI (-1))] [] H11 (by kernel_rfl) trivial fun _ _ H16 hb => ?_
  replace hS:=hS.below hb
  apply w_ret
  subst hm
  exact retR1 H16 rfl rfl ⟨_,rfl,rfl,(hS.sel [] rfl)⟩
 replace hm:=bT hc hm
 obtain ⟨x12,hx12,hm⟩:=letE hm
 refine s_reg [] [2] [(2,[],vI x12)] [] H11 (by subst hx12; kernel_rfl) trivial fun _ _ H14 hb => ?_
 replace hS:=hS.below hb
 apply w_ret
 subst hm
 exact retR1 H14 rfl rfl ⟨_,rfl,rfl,(hS.sel [] rfl)⟩
theorem r02_Hex_ok  (c_ : Int) : Ret Tryz.prog 125 ⟨[vU c_]⟩ (vI (r02_Hex c_)):=retP_of (Tryz.call125 _) (fun w h => r02_Hex_w F0   c_ _ rfl w h)

theorem r02_UTF8_w  (M : Av) (n_ : Int) (r : Str) (hm : r02_UTF8 n_ = r) (w : World) (hS : S0 M [] w) : Calls Tryz.prog 126 ⟨[vI n_]⟩ w (fun e w' => ∃ v,e = .returned v ∧ v = vS r ∧ SH M (fpl []) w [] w'):=by
 rw [r02_UTF8] at hm
 have hS0 : SH M (fpl []) w [] w:=hS
 generalize hX : fpl [] = X at hS0 ⊢
 clear hS hX
 have hS:=hS0
 clear hS0
 refine calls_entryP Tryz.func126 rfl Tryz.ntmps126 rfl fun _ H => ?_
 refine s_reg [] [0] [(0,[],vI n_)] [] H (by kernel_rfl) trivial fun _ _ H2 hb => ?_
 replace hS:=hS.below hb
 apply w_seq
 obtain ⟨x3,hx3,hm⟩:=letE hm
 refine s_reg [] [0,16] (fS [0,16] [vI n_,vB (cond x3 true (decide (1114111 < n_)))]) [] H2 (by subst hx3; kernel_rfl) trivial fun _ _ H5 hb => ?_
 replace hS:=hS.below hb
 refine w_if H5 rfl (fun hc => ?c57) (fun hc => ?_)
 case c57 =>
  replace hm:=bT hc hm
  refine s_reg [(vS r02_lost)] [2] [(2,[],vS r02_lost)] [rB 124 [] (vS r02_lost)] H5 (by kernel_rfl) ⟨((r02_lost_ok ).b),trivial⟩ fun _ _ H7 hb => ?_
  replace hS:=hS.below hb
  apply w_ret
  subst hm
  exact retR1 H7 rfl rfl ⟨_,rfl,rfl,(hS.sel [] rfl)⟩
 replace hm:=bF hc hm
 apply w_skip
 apply w_seq
 refine s_reg [] [0,19] (fS [0,19] [vI n_,vB (decide (n_ < 128))]) [] H5 (by kernel_rfl) trivial fun _ _ H9 hb => ?_
 replace hS:=hS.below hb
 refine w_if H9 rfl (fun hc => ?c56) (fun hc => ?_)
 case c56 =>
  replace hm:=bT hc hm
  apply w_seq
  apply wl_start
  refine wl_batch 0 2 [] [21] [(21,[],vU (wu8 n_))] [] H9 (by decide) (by kernel_rfl) trivial fun _ _ H11 hb => ?_
  replace hS:=hS.below hb
  have hd:=hS.hand [] [] rfl rfl
  refine m_stp [22] [] H11 rfl rfl rfl rfl (o_lit (T:=(tI .u8)) (E:=5) (zv:=vU 0) [vU (wu8 n_)] ([wu8 n_] : List Int) [gL []] _ H11 hd rfl (by kernel_rfl) (by kernel_rfl) (by kernel_rfl) (by kernel_rfl) (by kernel_rfl) (by kernel_rfl) (by kernel_rfl) rfl (InnL.cons trivial InnL.nil)) (fun _ => rfl) fun _ _ v H15 hq => ?_
  obtain ⟨g12,rfl,hq⟩:=hq
  replace hS : SH M X w [eO 5 (tI .u8) ([wu8 n_] : List Int) g12] _:=hS.join [] [] rfl rfl hq
  refine wl_batch 3 5 [(vS (toB ([wu8 n_] : List Int)))] [2] [(2,[],vS (toB ([wu8 n_] : List Int)))] [fun wz => ∀ w',Below wz.heap.size wz w' → (convert 75 9 (vK g12 1)).run Tryz.prog w' = .ok (vS (toB ([wu8 n_] : List Int))) w'] H15 (by decide) (by kernel_rfl) ⟨(conv_slG (E:=5) (by kernel_rfl) (by kernel_rfl) (by kernel_rfl) (hS.osl 0 rfl)),trivial⟩ fun _ _ H17 hb => ?_
  replace hS:=hS.below hb
  apply wl_end rfl
  replace hS : SH M X w [] _:=hS.sel [] rfl
  apply w_ret
  subst hm
  exact retR1 H17 rfl rfl ⟨_,rfl,rfl,(hS.sel [] rfl)⟩
 replace hm:=bF hc hm
 apply w_skip
 apply w_seq
 refine s_reg [] [0,25] (fS [0,25] [vI n_,vB (decide (n_ < 2048))]) [] H9 (by kernel_rfl) trivial fun _ _ H19 hb => ?_
 replace hS:=hS.below hb
 refine w_if H19 rfl (fun hc => ?c55) (fun hc => ?_)
 case c55 =>
  replace hm:=bT hc hm
  apply w_seq
  apply wl_start
  refine wl_batch 0 8 [] [29,33] (fS [29,33] [vU (wu8 (w64 (192 + (w64 (Int.tdiv n_ 64))))),vU (wu8 (w64 (128 + (Int.tmod n_ 64))))]) [fun _ => (64 : Int) ≠ 0,fun _ => (64 : Int) ≠ 0] H19 (by decide) (by kernel_rfl) ⟨(by show (64 : Int) ≠ 0; decide),(by show (64 : Int) ≠ 0; decide),trivial⟩ fun _ _ H21 hb => ?_
  replace hS:=hS.below hb
  have hd:=hS.hand [] [] rfl rfl
  refine m_stp [34] [] H21 rfl rfl rfl rfl (o_lit (T:=(tI .u8)) (E:=5) (zv:=vU 0) [vU (wu8 (w64 (192 + (w64 (Int.tdiv n_ 64))))),vU (wu8 (w64 (128 + (Int.tmod n_ 64))))] ([wu8 (w64 (192 + (w64 (Int.tdiv n_ 64)))),wu8 (w64 (128 + (Int.tmod n_ 64)))] : List Int) [gL [],gL []] _ H21 hd rfl (by kernel_rfl) (by kernel_rfl) (by kernel_rfl) (by kernel_rfl) (by kernel_rfl) (by kernel_rfl) (by kernel_rfl) rfl (InnL.cons trivial (InnL.cons trivial InnL.nil))) (fun _ => rfl) fun _ _ v H25 hq => ?_
  obtain ⟨g22,rfl,hq⟩:=hq
  replace hS : SH M X w [eO 5 (tI .u8) ([wu8 (w64 (192 + (w64 (Int.tdiv n_ 64)))),wu8 (w64 (128 + (Int.tmod n_ 64)))] : List Int) g22] _:=hS.join [] [] rfl rfl hq
  obtain ⟨x26,hx26,hm⟩:=letE hm
  refine wl_batch 9 11 [(vS (toB ([wu8 (w64 (192 + (w64 (Int.tdiv n_ 64)))),wu8 (w64 (128 + (Int.tmod n_ 64)))] : List Int)))] [2] [(2,[],vS x26)] [fun wz => ∀ w',Below wz.heap.size wz w' → (convert 75 9 (vK g22 2)).run Tryz.prog w' = .ok (vS (toB ([wu8 (w64 (192 + (w64 (Int.tdiv n_ 64)))),wu8 (w64 (128 + (Int.tmod n_ 64)))] : List Int))) w'] H25 (by decide) (by subst hx26; kernel_rfl) ⟨(conv_slG (E:=5) (by kernel_rfl) (by kernel_rfl) (by kernel_rfl) (hS.osl 0 rfl)),trivial⟩ fun _ _ H28 hb => ?_
  replace hS:=hS.below hb
  apply wl_end rfl
  replace hS : SH M X w [] _:=hS.sel [] rfl
  apply w_ret
  subst hm
  exact retR1 H28 rfl rfl ⟨_,rfl,rfl,(hS.sel [] rfl)⟩
 replace hm:=bF hc hm
 apply w_skip
 apply w_seq
 refine s_reg [] [0,37] (fS [0,37] [vI n_,vB (decide (n_ < 65536))]) [] H19 (by kernel_rfl) trivial fun _ _ H30 hb => ?_
 replace hS:=hS.below hb
 refine w_if H30 rfl (fun hc => ?c54) (fun hc => ?_)
 case c54 =>
  replace hm:=bT hc hm
  apply w_seq
  apply wl_start
  obtain ⟨x31,hx31,hm⟩:=letE hm
  obtain ⟨x32,hx32,hm⟩:=letE hm
  refine wl_batch 0 13 [] [41,46,50] (fS [41,46,50] [vU x31,vU (wu8 x32),vU (wu8 (w64 (128 + (Int.tmod n_ 64))))]) [fun _ => (4096 : Int) ≠ 0,fun _ => (64 : Int) ≠ 0,fun _ => (64 : Int) ≠ 0,fun _ => (64 : Int) ≠ 0] H30 (by decide) (by subst hx31 hx32; kernel_rfl) ⟨(by show (4096 : Int) ≠ 0; decide),(by show (64 : Int) ≠ 0; decide),(by show (64 : Int) ≠ 0; decide),(by show (64 : Int) ≠ 0; decide),trivial⟩ fun _ _ H34 hb => ?_
  replace hS:=hS.below hb
  have hd:=hS.hand [] [] rfl rfl
  refine m_stp [51] [] H34 rfl rfl rfl rfl (o_lit (T:=(tI .u8)) (E:=5) (zv:=vU 0) [vU x31,vU (wu8 x32),vU (wu8 (w64 (128 + (Int.tmod n_ 64))))] ([x31,wu8 x32,wu8 (w64 (128 + (Int.tmod n_ 64)))] : List Int) [gL [],gL [],gL []] _ H34 hd rfl (by kernel_rfl) (by kernel_rfl) (by kernel_rfl) (by kernel_rfl) (by kernel_rfl) (by kernel_rfl) (by kernel_rfl) rfl (InnL.cons trivial (InnL.cons trivial (InnL.cons trivial InnL.nil)))) (fun _ => rfl) fun _ _ v H38 hq => ?_
  obtain ⟨g35,rfl,hq⟩:=hq
  replace hS : SH M X w [eO 5 (tI .u8) ([x31,wu8 x32,wu8 (w64 (128 + (Int.tmod n_ 64)))] : List Int) g35] _:=hS.join [] [] rfl rfl hq
  obtain ⟨x39,hx39,hm⟩:=letE hm
  refine wl_batch 14 16 [(vS (toB ([x31,wu8 x32,wu8 (w64 (128 + (Int.tmod n_ 64)))] : List Int)))] [2] [(2,[],vS x39)] [fun wz => ∀ w',Below wz.heap.size wz w' → (convert 75 9 (vK g35 3)).run Tryz.prog w' = .ok (vS (toB ([x31,wu8 x32,wu8 (w64 (128 + (Int.tmod n_ 64)))] : List Int))) w'] H38 (by decide) (by subst hx39; kernel_rfl) ⟨(conv_slG (E:=5) (by kernel_rfl) (by kernel_rfl) (by kernel_rfl) (hS.osl 0 rfl)),trivial⟩ fun _ _ H41 hb => ?_
  replace hS:=hS.below hb
  apply wl_end rfl
  replace hS : SH M X w [] _:=hS.sel [] rfl
  apply w_ret
  subst hm
  exact retR1 H41 rfl rfl ⟨_,rfl,rfl,(hS.sel [] rfl)⟩
 replace hm:=bF hc hm
 apply w_skip
 apply w_seq
 apply wl_start
 obtain ⟨x42,hx42,hm⟩:=letE hm
 obtain ⟨x43,hx43,hm⟩:=letE hm
 obtain ⟨x44,hx44,hm⟩:=letE hm
 refine wl_batch 0 18 [] [56,61,66,70] (fS [56,61,66,70] [vU x42,vU (wu8 x43),vU (wu8 x44),vU (wu8 (w64 (128 + (Int.tmod n_ 64))))]) [fun _ => (262144 : Int) ≠ 0,fun _ => (4096 : Int) ≠ 0,fun _ => (64 : Int) ≠ 0,fun _ => (64 : Int) ≠ 0,fun _ => (64 : Int) ≠ 0,fun _ => (64 : Int) ≠ 0] H30 (by decide) (by subst hx42 hx43 hx44; kernel_rfl) ⟨(by show (262144 : Int) ≠ 0; decide),(by show (4096 : Int) ≠ 0; decide),(by show (64 : Int) ≠ 0; decide),(by show (64 : Int) ≠ 0; decide),(by show (64 : Int) ≠ 0; decide),(by show (64 : Int) ≠ 0; decide),trivial⟩ fun _ _ H46 hb => ?_
 replace hS:=hS.below hb
 have hd:=hS.hand [] [] rfl rfl
 refine m_stp [71] [] H46 rfl rfl rfl rfl (o_lit (T:=(tI .u8)) (E:=5) (zv:=vU 0) [vU x42,vU (wu8 x43),vU (wu8 x44),vU (wu8 (w64 (128 + (Int.tmod n_ 64))))] ([x42,wu8 x43,wu8 x44,wu8 (w64 (128 + (Int.tmod n_ 64)))] : List Int) [gL [],gL [],gL [],gL []] _ H46 hd rfl (by kernel_rfl) (by kernel_rfl) (by kernel_rfl) (by kernel_rfl) (by kernel_rfl) (by kernel_rfl) (by kernel_rfl) rfl (InnL.cons trivial (InnL.cons trivial (InnL.cons trivial (InnL.cons trivial InnL.nil))))) (fun _ => rfl) fun _ _ v H50 hq => ?_
 obtain ⟨g47,rfl,hq⟩:=hq
 replace hS : SH M X w [eO 5 (tI .u8) ([x42,wu8 x43,wu8 x44,wu8 (w64 (128 + (Int.tmod n_ 64)))] : List Int) g47] _:=hS.join [] [] rfl rfl hq
 obtain ⟨x51,hx51,hm⟩:=letE hm
 refine wl_batch 19 21 [(vS (toB ([x42,wu8 x43,wu8 x44,wu8 (w64 (128 + (Int.tmod n_ 64)))] : List Int)))] [2] [(2,[],vS x51)] [fun wz => ∀ w',Below wz.heap.size wz w' → (convert 75 9 (vK g47 4)).run Tryz.prog w' = .ok (vS (toB ([x42,wu8 x43,wu8 x44,wu8 (w64 (128 + (Int.tmod n_ 64)))] : List Int))) w'] H50 (by decide) (by subst hx51; kernel_rfl) ⟨(conv_slG (E:=5) (by kernel_rfl) (by kernel_rfl) (by kernel_rfl) (hS.osl 0 rfl)),trivial⟩ fun _ _ H53 hb => ?_
 replace hS:=hS.below hb
 apply wl_end rfl
 replace hS : SH M X w [] _:=hS.sel [] rfl
 apply w_ret
 subst hm
 exact retR1 H53 rfl rfl ⟨_,rfl,rfl,(hS.sel [] rfl)⟩
theorem r02_UTF8_ok  (n_ : Int) : Ret Tryz.prog 126 ⟨[vI n_]⟩ (vS (r02_UTF8 n_)):=retP_of (Tryz.call126 _) (fun w h => r02_UTF8_w F0   n_ _ rfl w h)

theorem r02_Escaped_w  (M : Av) (m : Nat) (s : Str) (i : Int) (r : Str × Int) (hm : r02_Escaped m s i = some r) (w : World) (hS : S0 M [] w) : Calls Tryz.prog 117 ⟨[vS s,vI i]⟩ w (fun e w' => ∃ v,e = .returned v ∧ v = vW [vS r.1,vI r.2] ∧ SH M (fpl []) w [] w'):=by
 rw [r02_Escaped] at hm
 have hS0 : SH M (fpl []) w [] w:=hS
 generalize hX : fpl [] = X at hS0 ⊢
 clear hS hX
 have hS:=hS0
 clear hS0
 refine calls_entryP Tryz.func117 rfl Tryz.ntmps117 rfl fun _ H => ?_
 refine s_reg [] [0,1] (fS [0,1] [vS s,vI i]) [] H (by kernel_rfl) trivial fun _ _ H2 hb => ?_
 replace hS:=hS.below hb
 refine s_reg [] [0,1] (fS [0,1] [vS s,vI (w64 (i + 1))]) [] H2 (by kernel_rfl) trivial fun _ _ H4 hb => ?_
 replace hS:=hS.below hb
 apply w_seq
 refine s_reg [] [0,1,13] (fS [0,1,13] [vS s,vI (w64 (i + 1)),vB (decide ((ln s) ≤ (w64 (i + 1))))]) [] H4 (by kernel_rfl) trivial fun _ _ H6 hb => ?_
 replace hS:=hS.below hb
 refine w_if H6 rfl (fun hc => ?c47) (fun hc => ?_)
 case c47 =>
  replace hm:=bT hc hm
  refine s_reg [(vS r02_lost)] [4,5] (fS [4,5] [vS r02_lost,vI (w64 (i + 1))]) [rB 124 [] (vS r02_lost)] H6 (by kernel_rfl) ⟨((r02_lost_ok ).b),trivial⟩ fun _ _ H8 hb => ?_
  replace hS:=hS.below hb
  apply w_ret
  obtain rfl:=someE hm
  exact retR2 H8 rfl rfl rfl ⟨_,rfl,rfl,(hS.sel [] rfl)⟩
 replace hm:=bF hc hm
 apply w_skip
 apply w_seq
 obtain ⟨ho9,hm⟩:=chkE hm
 obtain ⟨x10,hx10,hm⟩:=letE hm
 refine s_reg [(vI (r02_Hex (bat s (w64 (i + 1)))))] [0,1,20] (fS [0,1,20] [vS s,vI (w64 (i + 1)),vB x10]) [fun _ => 0 ≤ (w64 (i + 1)) ∧ (w64 (i + 1)) < ln s,rB 125 [vU (bat s (w64 (i + 1)))] (vI (r02_Hex (bat s (w64 (i + 1)))))] H6 (by subst hx10; kernel_rfl) ⟨ho9,((r02_Hex_ok _).b),trivial⟩ fun _ _ H12 hb => ?_
 replace hS:=hS.below hb
 refine w_if H12 rfl (fun hc => ?c46) (fun hc => ?_)
 case c46 =>
  replace hm:=bT hc hm
  obtain ⟨ho13,hm⟩:=chkE hm
  obtain ⟨x14,hx14,hm⟩:=letE hm
  refine s_reg [] [4,5] (fS [4,5] [vS x14,vI (w64 ((w64 (i + 1)) + 1))]) [fun _ => 0 ≤ (w64 (i + 1)) ∧ (w64 (i + 1)) ≤ (w64 ((w64 (i + 1)) + 1)) ∧ (w64 ((w64 (i + 1)) + 1)) ≤ ln s] H12 (by subst hx14; kernel_rfl) ⟨ho13,trivial⟩ fun _ _ H16 hb => ?_
  replace hS:=hS.below hb
  apply w_ret
  obtain rfl:=someE hm
  exact retR2 H16 rfl rfl rfl ⟨_,rfl,rfl,(hS.sel [] rfl)⟩
 replace hm:=bF hc hm
 apply w_skip
 refine s_reg [] [0,1,6,7] (fS [0,1,6,7] [vS s,vI (w64 (i + 1)),vI 0,vI (w64 (i + 1))]) [] H12 (by kernel_rfl) trivial fun _ _ H18 hb => ?_
 replace hS:=hS.below hb
 obtain ⟨z19,hz,hm⟩:=bindE hm
 refine w_cut (fun a' w' => Fr 64 (fS [0,6,7] [vS s,vI z19.1,vI z19.2]) a' ∧ SH M X w [] w') ?_ ?_
 ·replace hm:=hz
  apply w_block
  refine w_loop (fun kk a' w' => ∃ (v20 : Int) (v21 : Int),r02_Escaped_L1 m s i kk v20 v21 = some _ ∧ Fr 64 (fS [0,1,6,7] [vS s,vI (w64 (i + 1)),vI v20,vI v21]) a' ∧ SH M X w [] w') ⟨_,0,w64 (i + 1),hm,FrG.keep (ks:=[0,1,6,7]) H18 (by kernel_rfl),hS⟩ ?_
  clear hm H18 hS
  rintro kk _ _ ⟨v20,v21,hm,H,hS⟩
  cases kk with
  | zero => exact noneE hm
  | succ kk =>
   rw [r02_Escaped_L1] at hm
   apply w_seq
   obtain ⟨x22,hx22,hm⟩:=letE hm
   obtain ⟨ho23,hm⟩:=chkE hm
   obtain ⟨x24,hx24,hm⟩:=letE hm
   refine s_reg [(vI (r02_Hex (bat s v21)))] [0,1,6,7,45] (fS [0,1,6,7,45] [vS s,vI (w64 (i + 1)),vI v20,vI v21,vB x24]) [fun _ => (x22 = true ∧ True → 0 ≤ v21 ∧ v21 < ln s),fun wz => (x22 = true ∧ True → RetB Tryz.prog 125 ⟨[vU (bat s v21)]⟩ (vI (r02_Hex (bat s v21))) wz)] H (by subst hx22 hx24; kernel_rfl) ⟨fun hg => (ho23 hg.1),fun hg => (r02_Hex_ok _).b,trivial⟩ fun _ _ H26 hb => ?_
   replace hS:=hS.below hb
   refine w_if H26 rfl (fun hc => ?_) (fun hc => ?c33)
   case c33 =>
    replace hm:=bF hc hm
    apply w_exit rfl
    obtain rfl:=someE hm
    exact ⟨FrG.keep (ks:=[0,6,7]) H26 (by kernel_rfl),hS⟩
   replace hm:=bT hc hm
   apply w_skip
   apply w_block
   obtain ⟨ho27,hm⟩:=chkE hm
   obtain ⟨x28,hx28,hm⟩:=letE hm
   refine s_reg [(vI (r02_Hex (bat s v21)))] [0,1,6,7] (fS [0,1,6,7] [vS s,vI (w64 (i + 1)),vI x28,vI v21]) [fun _ => 0 ≤ v21 ∧ v21 < ln s,rB 125 [vU (bat s v21)] (vI (r02_Hex (bat s v21)))] H26 (by subst hx28; kernel_rfl) ⟨ho27,((r02_Hex_ok _).b),trivial⟩ fun _ _ H30 hb => ?_
   replace hS:=hS.below hb
   refine w_reg [] [0,1,6,7] (fS [0,1,6,7] [vS s,vI (w64 (i + 1)),vI x28,vI (w64 (v21 + 1))]) [] H30 (by kernel_rfl) trivial fun _ _ H32 hb => ?_
   replace hS:=hS.below hb
   exact ⟨_,Nat.lt_succ_self _,x28,w64 (v21 + 1),hm,FrG.keep (ks:=[0,1,6,7]) H32 (by kernel_rfl),hS⟩
 ·rintro _ _ ⟨H,hS⟩
  obtain ⟨z35,hz,hm⟩:=bindE hm
  refine w_cut (fun a' w' => Fr 64 (fS [6,7] [vI z19.1,vI z35]) a' ∧ SH M X w [] w') ?_ ?_
  ·replace hm:=hz
   obtain ⟨y36,hy36,hm⟩:=bindE hm
   refine s_reg [(vU y36),(vB (r02_Space y36))] [6,7,58] (fS [6,7,58] [vI z19.1,vI z19.2,vB (r02_Space y36)]) [rB 116 [vS s,vI z19.2] (vU y36),rB 103 [vU y36] (vB (r02_Space y36))] H (by kernel_rfl) ⟨((r02_At_ok _ _ _ hy36).b),((r02_Space_ok _).b),trivial⟩ fun _ _ H38 hb => ?_
   replace hS:=hS.below hb
   refine w_if H38 rfl (fun hc => ?_) (fun hc => ?c41)
   case c41 =>
    replace hm:=bF hc hm
    apply w_skip
    obtain rfl:=someE hm
    exact ⟨FrG.keep (ks:=[6,7]) H38 (by kernel_rfl),hS⟩
   replace hm:=bT hc hm
   refine w_reg [] [6,7] (fS [6,7] [vI z19.1,vI (w64 (z19.2 + 1))]) [] H38 (by kernel_rfl) trivial fun _ _ H40 hb => ?_
   replace hS:=hS.below hb
   obtain rfl:=someE hm
   exact ⟨FrG.keep (ks:=[6,7]) H40 (by kernel_rfl),hS⟩
  ·rintro _ _ ⟨H,hS⟩
   refine s_reg [(vS (r02_UTF8 z19.1))] [4,5] (fS [4,5] [vS (r02_UTF8 z19.1),vI z35]) [rB 126 [vI z19.1] (vS (r02_UTF8 z19.1))] H (by kernel_rfl) ⟨((r02_UTF8_ok _).b),trivial⟩ fun _ _ H43 hb => ?_
   replace hS:=hS.below hb
   apply w_ret
   obtain rfl:=someE hm
   exact retR2 H43 rfl rfl rfl ⟨_,rfl,rfl,(hS.sel [] rfl)⟩
theorem r02_Escaped_ok  (m : Nat) (s : Str) (i : Int) (r : Str × Int) (hm : r02_Escaped m s i = some r) : Ret Tryz.prog 117 ⟨[vS s,vI i]⟩ (vW [vS r.1,vI r.2]):=retP_of (Tryz.call117 _) (fun w h => r02_Escaped_w F0 m   s i r hm w h)

theorem r02_quoted_w  (M : Av) (m : Nat) (s : Str) (i : Int) (r : TToken × Int) (hm : r02_quoted m s i = some r) (w : World) (hS : S0 M [] w) : Calls Tryz.prog 105 ⟨[vS s,vI i]⟩ w (fun e w' => ∃ v,e = .returned v ∧ v = vW [vG (cT r.1),vI r.2] ∧ SH M (fpl []) w [] w'):=by
 rw [r02_quoted] at hm
 have hS0 : SH M (fpl []) w [] w:=hS
 generalize hX : fpl [] = X at hS0 ⊢
 clear hS hX
 have hS:=hS0
 clear hS0
 refine calls_entryP Tryz.func105 rfl Tryz.ntmps105 rfl fun _ H => ?_
 apply w_seq
 apply wl_start
 have hd:=hS.hand [] [] rfl rfl
 refine m_stp [4,0,1] (fS [0,1] [vS s,vI i]) H rfl rfl rfl rfl (o_alloc [vU 0,vN,vI 0,vN,vF] (z:=vG [vU 0,vN,vI 0,vN,vF]) hd (by kernel_rfl) rfl) (fun _ => rfl) fun _ _ v H3 hq => ?_
 obtain ⟨b1,rfl,hq⟩:=hq
 replace hS : SH M X w [eB b1 [vU 0,vN,vI 0,vN,vF]] _:=hS.join [] [] rfl rfl hq
 refine wl_batch 1 2 [] [0,1,4] (fS [0,1,4] [vS s,vI i,vP b1]) [] H3 (by decide) (by kernel_rfl) trivial fun _ _ H5 hb => ?_
 replace hS:=hS.below hb
 apply wl_end rfl
 obtain ⟨ho6,hm⟩:=chkE hm
 refine s_reg [] [0,1,4,6] (fS [0,1,4,6] [vS s,vI i,vP b1,vU (bat s i)]) [fun _ => 0 ≤ i ∧ i < ln s] H5 (by kernel_rfl) ⟨ho6,trivial⟩ fun _ _ H8 hb => ?_
 replace hS:=hS.below hb
 apply w_seq
 apply wl_start
 refine wl_batch 0 1 [] [0,1,4,6,13] (fS [0,1,4,6,13] [vS s,vI i,vP b1,vU (bat s i),vG [vU 5,vN,vI 0,vN,vF]]) [] H8 (by decide) (by kernel_rfl) trivial fun _ _ H10 hb => ?_
 replace hS:=hS.below hb
 have hd:=hS.hand [] [0] rfl rfl
 refine m_stp [7,0,1,4,6,13] (fS [0,1,4,6,13] [vS s,vI i,vP b1,vU (bat s i),vG [vU 5,vN,vI 0,vN,vF]]) H10 rfl rfl rfl rfl (o_alloc [vU 0,vN,vI 0,vN,vF] (z:=vG [vU 0,vN,vI 0,vN,vF]) hd (by kernel_rfl) rfl) (fun _ => rfl) fun _ _ v H13 hq => ?_
 obtain ⟨b11,rfl,hq⟩:=hq
 replace hS : SH M X w [eB b11 [vU 0,vN,vI 0,vN,vF],eB b1 [vU 0,vN,vI 0,vN,vF]] _:=hS.join [] [0] rfl rfl hq
 have hd:=hS.hand [0] [1] rfl rfl
 refine m_stp0 [0,1,4,6,7] (fS [0,1,4,6,7] [vS s,vI i,vP b1,vU (bat s i),vP b11]) H13 rfl rfl rfl (o_store [vU 5,vN,vI 0,vN,vF] H13 hd rfl rfl (by kernel_rfl) rfl rfl rfl) rfl fun _ _ H15 hq => ?_
 obtain ⟨_,hq⟩:=hq
 replace hS : SH M X w [eB b11 [vU 5,vN,vI 0,vN,vF],eB b1 [vU 0,vN,vI 0,vN,vF]] _:=hS.join [0] [1] rfl rfl hq
 apply wl_end rfl
 obtain ⟨z16,hz,hm_z16⟩:=bindE hm
 refine w_cut (fun a' w' => ∃ s_z16 : Int × Str,z16 = Sum.inr s_z16 ∧ Fr 94 (fS [4,7,1] [vP b1,vP b11,vI s_z16.1]) a' ∧ SH M X w [eB b11 [vU 5,vS s_z16.2,vI 0,vN,vF],eB b1 [vU 0,vN,vI 0,vN,vF]] w') ?_ ?_
 ·replace hm:=hz
  refine s_reg [] [0,1,4,6,7] (fS [0,1,4,6,7] [vS s,vI (w64 (i + 1)),vP b1,vU (bat s i),vP b11]) [] H15 (by kernel_rfl) trivial fun _ _ H18 hb => ?_
  replace hS:=hS.below hb
  apply w_block
  refine w_loop (fun kk a' w' => ∃ (v19 : Int) (v20 : Str),r02_quoted_L1 m s i kk v19 v20 = some _ ∧ Fr 94 (fS [0,4,6,7,1] [vS s,vP b1,vU (bat s i),vP b11,vI v19]) a' ∧ SH M X w [eB b11 [vU 5,vS v20,vI 0,vN,vF],eB b1 [vU 0,vN,vI 0,vN,vF]] w') ⟨_,w64 (i + 1),[],hm,FrG.keep (ks:=[0,4,6,7,1]) H18 (by kernel_rfl),hS⟩ ?_
  clear hm H18 hS
  rintro kk _ _ ⟨v19,v20,hm,H,hS⟩
  cases kk with
  | zero => exact noneE hm
  | succ kk =>
   rw [r02_quoted_L1] at hm
   apply w_seq
   refine s_reg [] [0,1,4,6,7,19] (fS [0,1,4,6,7,19] [vS s,vI v19,vP b1,vU (bat s i),vP b11,vB (decide (v19 < (ln s)))]) [] H (by kernel_rfl) trivial fun _ _ H22 hb => ?_
   replace hS:=hS.below hb
   refine w_if H22 rfl (fun hc => ?_) (fun hc => ?c76)
   case c76 =>
    replace hm:=bF hc hm
    apply w_exit rfl
    obtain rfl:=someE hm
    exact ⟨_,rfl,FrG.keep (ks:=[4,7,1]) H22 (by kernel_rfl),hS⟩
   replace hm:=bT hc hm
   apply w_skip
   apply w_block
   apply w_block
   obtain ⟨ho23,hm⟩:=chkE hm
   refine s_reg [] [0,1,4,6,7,31] (fS [0,1,4,6,7,31] [vS s,vI v19,vP b1,vU (bat s i),vP b11,vB ((bat s v19) == (bat s i))]) [fun _ => 0 ≤ v19 ∧ v19 < ln s] H22 (by kernel_rfl) ⟨ho23,trivial⟩ fun _ _ H25 hb => ?_
   replace hS:=hS.below hb
   refine w_if H25 rfl (fun hc => ?c75) (fun hc => ?_)
   case c75 =>
    replace hm:=bT hc hm
    apply w_seq
    apply wl_start
    refine wl_batch 0 3 [(vG [vU 5,vS v20,vI 0,vN,vF])] [4,37,39] (fS [4,37,39] [vP b1,vG [vU 5,vS v20,vI 0,vN,vF],vI (w64 (v19 + 1))]) [rN b11 0 [vU 5,vS v20,vI 0,vN,vF]] H25 (by decide) (by kernel_rfl) ⟨((hS.bk 0 rfl).atD rfl),trivial⟩ fun _ _ H27 hb => ?_
    replace hS:=hS.below hb
    have hd:=hS.hand [1] [0] rfl rfl
    refine m_stp0 [4,39] (fS [4,39] [vP b1,vI (w64 (v19 + 1))]) H27 rfl rfl rfl (o_store [vU 5,vS v20,vI 0,vN,vF] H27 hd rfl rfl (by kernel_rfl) rfl rfl rfl) rfl fun _ _ H29 hq => ?_
    obtain ⟨_,hq⟩:=hq
    replace hS : SH M X w [eB b1 [vU 5,vS v20,vI 0,vN,vF],eB b11 [vU 5,vS v20,vI 0,vN,vF]] _:=hS.join [1] [0] rfl rfl hq
    refine wl_batch 4 5 [] [4,5] (fS [4,5] [vP b1,vI (w64 (v19 + 1))]) [] H29 (by decide) (by kernel_rfl) trivial fun _ _ H31 hb => ?_
    replace hS:=hS.below hb
    apply wl_end rfl
    apply w_ret
    obtain rfl:=someE hm
    have hm:=hm_z16
    obtain rfl:=someE hm
    exact retR2 H31 rfl (oneRes_agg rfl (hS.bk 0 rfl) Tryz.underlying61 rfl (by kernel_rfl)) rfl ⟨_,rfl,rfl,(hS.sel [] rfl)⟩
   replace hm:=bF hc hm
   refine s_reg [] [0,1,4,6,7,40] (fS [0,1,4,6,7,40] [vS s,vI v19,vP b1,vU (bat s i),vP b11,vB ((bat s v19) == 10)]) [fun _ => 0 ≤ v19 ∧ v19 < ln s] H25 (by kernel_rfl) ⟨ho23,trivial⟩ fun _ _ H33 hb => ?_
   replace hS:=hS.below hb
   refine w_if H33 rfl (fun hc => ?c74) (fun hc => ?_)
   case c74 =>
    replace hm:=bT hc hm
    apply w_seq
    apply wl_start
    refine wl_batch 0 2 [] [4,45,46] (fS [4,45,46] [vP b1,vG [vU 6,vN,vI 0,vN,vF],vI v19]) [] H33 (by decide) (by kernel_rfl) trivial fun _ _ H35 hb => ?_
    replace hS:=hS.below hb
    have hd:=hS.hand [1] [0] rfl rfl
    refine m_stp0 [4,46] (fS [4,46] [vP b1,vI v19]) H35 rfl rfl rfl (o_store [vU 6,vN,vI 0,vN,vF] H35 hd rfl rfl (by kernel_rfl) rfl rfl rfl) rfl fun _ _ H37 hq => ?_
    obtain ⟨_,hq⟩:=hq
    replace hS : SH M X w [eB b1 [vU 6,vN,vI 0,vN,vF],eB b11 [vU 5,vS v20,vI 0,vN,vF]] _:=hS.join [1] [0] rfl rfl hq
    refine wl_batch 3 4 [] [4,5] (fS [4,5] [vP b1,vI v19]) [] H37 (by decide) (by kernel_rfl) trivial fun _ _ H39 hb => ?_
    replace hS:=hS.below hb
    apply wl_end rfl
    apply w_ret
    obtain rfl:=someE hm
    have hm:=hm_z16
    obtain rfl:=someE hm
    exact retR2 H39 rfl (oneRes_agg rfl (hS.bk 0 rfl) Tryz.underlying61 rfl (by kernel_rfl)) rfl ⟨_,rfl,rfl,(hS.sel [] rfl)⟩
   replace hm:=bF hc hm
   obtain ⟨x40,hx40,hm⟩:=letE hm
   refine s_reg [] [0,1,4,6,7,47] (fS [0,1,4,6,7,47] [vS s,vI v19,vP b1,vU (bat s i),vP b11,vB x40]) [fun _ => 0 ≤ v19 ∧ v19 < ln s] H33 (by subst hx40; kernel_rfl) ⟨ho23,trivial⟩ fun _ _ H42 hb => ?_
   replace hS:=hS.below hb
   refine w_if H42 rfl (fun hc => ?c73) (fun hc => ?_)
   case c73 =>
    replace hm:=bT hc hm
    refine w_reg [] [0,1,4,6,7] (fS [0,1,4,6,7] [vS s,vI (w64 (v19 + 1)),vP b1,vU (bat s i),vP b11]) [] H42 (by kernel_rfl) trivial fun _ _ H44 hb => ?_
    replace hS:=hS.below hb
    exact ⟨_,Nat.lt_succ_self _,w64 (v19 + 1),v20,hm,FrG.keep (ks:=[0,4,6,7,1]) H44 (by kernel_rfl),hS⟩
   replace hm:=bF hc hm
   obtain ⟨ho45,hm⟩:=chkE hm
   obtain ⟨x46,hx46,hm⟩:=letE hm
   refine s_reg [] [0,1,4,6,7,61] (fS [0,1,4,6,7,61] [vS s,vI v19,vP b1,vU (bat s i),vP b11,vB x46]) [fun _ => 0 ≤ v19 ∧ v19 < ln s,fun _ => (((bat s v19) == 92) = true ∧ True → 0 ≤ (w64 (v19 + 1)) ∧ (w64 (v19 + 1)) < ln s)] H42 (by subst hx46; kernel_rfl) ⟨ho23,fun hg => (ho45 hg.1),trivial⟩ fun _ _ H48 hb => ?_
   replace hS:=hS.below hb
   refine w_if H48 rfl (fun hc => ?c72) (fun hc => ?_)
   case c72 =>
    replace hm:=bT hc hm
    refine w_reg [] [0,1,4,6,7] (fS [0,1,4,6,7] [vS s,vI (w64 (v19 + 2)),vP b1,vU (bat s i),vP b11]) [] H48 (by kernel_rfl) trivial fun _ _ H50 hb => ?_
    replace hS:=hS.below hb
    exact ⟨_,Nat.lt_succ_self _,w64 (v19 + 2),v20,hm,FrG.keep (ks:=[0,4,6,7,1]) H50 (by kernel_rfl),hS⟩
   replace hm:=bF hc hm
   refine s_reg [] [0,1,4,6,7,75] (fS [0,1,4,6,7,75] [vS s,vI v19,vP b1,vU (bat s i),vP b11,vB ((bat s v19) == 92)]) [fun _ => 0 ≤ v19 ∧ v19 < ln s] H48 (by kernel_rfl) ⟨ho23,trivial⟩ fun _ _ H52 hb => ?_
   replace hS:=hS.below hb
   refine w_if H52 rfl (fun hc => ?c71) (fun hc => ?_)
   case c71 =>
    replace hm:=bT hc hm
    obtain ⟨y53,hy53,hm⟩:=bindE hm
    refine s_reg [(vW [vS y53.1,vI y53.2])] [0,4,6,7,8,9] (fS [0,4,6,7,8,9] [vS s,vP b1,vU (bat s i),vP b11,vS y53.1,vI y53.2]) [rB 117 [vS s,vI v19] (vW [vS y53.1,vI y53.2])] H52 (by kernel_rfl) ⟨((r02_Escaped_ok m _ _ _ hy53).b),trivial⟩ fun _ _ H55 hb => ?_
    replace hS:=hS.below hb
    apply w_seq
    apply wl_start
    obtain ⟨ho56,hm⟩:=chkE hm
    refine wl_batch 0 5 [(vS v20)] [0,4,6,7,9,89,90] (fS [0,4,6,7,9,89,90] [vS s,vP b1,vU (bat s i),vP b11,vI y53.2,vS (v20 ++ y53.1),vA b11 1]) [rA b11 1 (vS v20),fun _ => ln v20 + ln y53.1 ≤ 9223372036854775807] H55 (by decide) (by kernel_rfl) ⟨((hS.bk 0 rfl).at1 rfl),ho56,trivial⟩ fun _ _ H58 hb => ?_
    replace hS:=hS.below hb
    have hd:=hS.hand [0] [1] rfl rfl
    refine m_stp0 [0,4,6,7,9] (fS [0,4,6,7,9] [vS s,vP b1,vU (bat s i),vP b11,vI y53.2]) H58 rfl rfl rfl (o_store [vU 5,vS (v20 ++ y53.1),vI 0,vN,vF] H58 hd rfl rfl (by kernel_rfl) rfl rfl rfl) rfl fun _ _ H60 hq => ?_
    obtain ⟨_,hq⟩:=hq
    replace hS : SH M X w [eB b11 [vU 5,vS (v20 ++ y53.1),vI 0,vN,vF],eB b1 [vU 0,vN,vI 0,vN,vF]] _:=hS.join [0] [1] rfl rfl hq
    apply wl_end rfl
    refine w_reg [] [0,1,4,6,7] (fS [0,1,4,6,7] [vS s,vI y53.2,vP b1,vU (bat s i),vP b11]) [] H60 (by kernel_rfl) trivial fun _ _ H62 hb => ?_
    replace hS:=hS.below hb
    exact ⟨_,Nat.lt_succ_self _,y53.2,v20 ++ y53.1,hm,FrG.keep (ks:=[0,4,6,7,1]) H62 (by kernel_rfl),hS⟩
   replace hm:=bF hc hm
   obtain ⟨ho64,hm⟩:=chkE hm
   obtain ⟨ho65,hm⟩:=chkE hm
   refine s_drawS (base:=(fS [0,1,4,6,7] [vS s,vI v19,vP b1,vU (bat s i),vP b11])) (L:=[eB b11 [vU 5,vS v20,vI 0,vN,vF],eB b1 [vU 0,vN,vI 0,vN,vF]]) 10 2 (fun yg63 => [vA b11 1,vS v20,vS s,vI v19,vI v19,vI (w64 (v19 + 1)),vS (sub s v19 (w64 (v19 + 1))),vS (v20 ++ (sub s v19 (w64 (v19 + 1)))),vA b11 1,undef]) (fun yg63 => [[],[],[],[],[],[],[],[],[],[eB b11 [vU 5,vS (v20 ++ (sub s v19 (w64 (v19 + 1)))),vI 0,vN,vF]]]) [[10],[10],[],[],[],[],[],[],[10],[10]] [[],[],[],[],[],[],[],[],[],[10]] [[0],[0,1],[2],[3],[4],[4,5],[2,3,4,5,6],[0,1,2,3,4,5,6,7],[8],[0,1,2,3,4,5,6,7,8,9]] [] (FrG.keep (ks:=[0,1,4,6,7]) H52 (by kernel_rfl)) (fun _ _ h => by cases h) (by kernel_rfl) hS (by kernel_rfl) rfl rfl (by kernel_rfl) (by kernel_rfl) (by kernel_rfl) (gd_none (by kernel_rfl) _ _) ?hloc_yg63 ?hstep_yg63 fun _ _ yg63 H67 hv hS => ?hK_yg63
   case hloc_yg63 => exact ⟨(fun _ _ _ _ => ⟨rfl,rfl⟩),(fun _ _ _ _ => ⟨rfl,rfl⟩),(fun _ _ _ _ => ⟨rfl,rfl⟩),(fun _ _ _ _ => ⟨rfl,rfl⟩),(fun _ _ _ _ => ⟨rfl,rfl⟩),(fun _ _ _ _ => ⟨rfl,rfl⟩),(fun _ _ _ _ => ⟨rfl,rfl⟩),(fun _ _ _ _ => ⟨rfl,rfl⟩),(fun _ _ _ _ => ⟨rfl,rfl⟩),(fun _ _ _ _ => ⟨rfl,rfl⟩),trivial⟩
   case hstep_yg63 =>
    refine ⟨?_,?_,?_,?_,?_,?_,?_,?_,?_,?_,trivial⟩
    ·intro o ho a w yg63 M Hb hv hO hS
     obtain rfl:=someE ho
     exact Stp.mono (o_evs [] (vA b11 1) none [] Hb rfl (by kernel_rfl) (fun q e => by cases e)) fun _ _ hq => ⟨gL [],fun _ _ => hq.1,(hS.below hq.2.below).sel [0] rfl⟩
    ·intro o ho a w yg63 M Hb hv hO hS
     obtain rfl:=someE ho
     exact Stp.mono (o_evs [(vS v20)] (vS v20) (some (rA b11 1 (vS v20))) [] ((Hb).add (hv 0 (by decide) (by decide) 20 rfl)) rfl (by kernel_rfl) (fun q e => by cases e; exact ((hS.bk 0 rfl).at1 rfl))) fun _ _ hq => ⟨gL [],fun _ _ => hq.1,(hS.below hq.2.below).sel [0] rfl⟩
    ·intro o ho a w yg63 M Hb hv hO hS
     obtain rfl:=someE ho
     exact Stp.mono (o_evs [] (vS s) none [] Hb rfl (by kernel_rfl) (fun q e => by cases e)) fun _ _ hq => ⟨gL [],fun _ _ => hq.1,(hS.below hq.2.below).sel [] rfl⟩
    ·intro o ho a w yg63 M Hb hv hO hS
     obtain rfl:=someE ho
     exact Stp.mono (o_evs [] (vI v19) none [] Hb rfl (by kernel_rfl) (fun q e => by cases e)) fun _ _ hq => ⟨gL [],fun _ _ => hq.1,(hS.below hq.2.below).sel [] rfl⟩
    ·intro o ho a w yg63 M Hb hv hO hS
     obtain rfl:=someE ho
     exact Stp.mono (o_evs [] (vI v19) none [] Hb rfl (by kernel_rfl) (fun q e => by cases e)) fun _ _ hq => ⟨gL [],fun _ _ => hq.1,(hS.below hq.2.below).sel [] rfl⟩
    ·intro o ho a w yg63 M Hb hv hO hS
     obtain rfl:=someE ho
     exact Stp.mono (o_evs [] (vI (w64 (v19 + 1))) none [] ((Hb).add (hv 4 (by decide) (by decide) 24 rfl)) rfl (by kernel_rfl) (fun q e => by cases e)) fun _ _ hq => ⟨gL [],fun _ _ => hq.1,(hS.below hq.2.below).sel [] rfl⟩
    ·intro o ho a w yg63 M Hb hv hO hS
     obtain rfl:=someE ho
     exact Stp.mono (o_evs [] (vS (sub s v19 (w64 (v19 + 1)))) (some (fun _ => 0 ≤ v19 ∧ v19 ≤ (w64 (v19 + 1)) ∧ (w64 (v19 + 1)) ≤ ln s)) [] ((((Hb).add (hv 2 (by decide) (by decide) 22 rfl)).add (hv 3 (by decide) (by decide) 23 rfl)).add (hv 5 (by decide) (by decide) 25 rfl)) rfl (by kernel_rfl) (fun q e => by cases e; exact ho64)) fun _ _ hq => ⟨gL [],fun _ _ => hq.1,(hS.below hq.2.below).sel [] rfl⟩
    ·intro o ho a w yg63 M Hb hv hO hS
     obtain rfl:=someE ho
     exact Stp.mono (o_evs [] (vS (v20 ++ (sub s v19 (w64 (v19 + 1))))) (some (fun _ => ln v20 + ln (sub s v19 (w64 (v19 + 1))) ≤ 9223372036854775807)) [] (((Hb).add (hv 1 (by decide) (by decide) 21 rfl)).add (hv 6 (by decide) (by decide) 26 rfl)) rfl (by kernel_rfl) (fun q e => by cases e; exact ho65)) fun _ _ hq => ⟨gL [],fun _ _ => hq.1,(hS.below hq.2.below).sel [] rfl⟩
    ·intro o ho a w yg63 M Hb hv hO hS
     obtain rfl:=someE ho
     exact Stp.mono (o_evs [] (vA b11 1) none [] Hb rfl (by kernel_rfl) (fun q e => by cases e)) fun _ _ hq => ⟨gL [],fun _ _ => hq.1,(hS.below hq.2.below).sel [0] rfl⟩
    ·intro o ho a w yg63 M Hb hv hO hS0
     obtain rfl:=someE ho
     have H : Fr 94 ((fS [28,27] [vA b11 1,vS (v20 ++ (sub s v19 (w64 (v19 + 1))))]) ++ (fS [0,1,4,6,7] [vS s,vI v19,vP b1,vU (bat s i),vP b11])) _:=((Hb).add (hv 7 (by decide) (by decide) 27 rfl)).add (hv 8 (by decide) (by decide) 28 rfl)
     obtain ⟨X,hX⟩ : ∃ X,X = fpl [eB b11 [vU 5,vS v20,vI 0,vN,vF]]:=⟨_,rfl⟩
     have hS : SH M X w [eB b11 [vU 5,vS v20,vI 0,vN,vF]] w:=by rw [hX]; exact hS0
     have hd:=hS.hand [0] [] rfl rfl
     refine Stp.mono (o_store [vU 5,vS (v20 ++ (sub s v19 (w64 (v19 + 1)))),vI 0,vN,vF] H hd rfl rfl (by kernel_rfl) rfl rfl rfl) ?_
     rintro v w2 hq
     replace hS : SH M X w [eB b11 [vU 5,vS (v20 ++ (sub s v19 (w64 (v19 + 1)))),vI 0,vN,vF]] _:=hS.join [0] [] rfl rfl hq
     rw [hX] at hS
     exact ⟨gL [],(fun _ h => by cases h),hS.sel [0] rfl⟩
   have H68 : Fr 94 (fS [0,1,4,6,7] [vS s,vI v19,vP b1,vU (bat s i),vP b11]) _:=(FrG.keep (ks:=[0,1,4,6,7]) H67 (by kernel_rfl))
   replace hS : SH M X w [eB b11 [vU 5,vS (v20 ++ (sub s v19 (w64 (v19 + 1)))),vI 0,vN,vF],eB b1 [vU 0,vN,vI 0,vN,vF]] _:=hS
   clear hv H67
   refine w_reg [] [0,1,4,6,7] (fS [0,1,4,6,7] [vS s,vI (w64 (v19 + 1)),vP b1,vU (bat s i),vP b11]) [] H68 (by kernel_rfl) trivial fun _ _ H70 hb => ?_
   replace hS:=hS.below hb
   exact ⟨_,Nat.lt_succ_self _,w64 (v19 + 1),v20 ++ (sub s v19 (w64 (v19 + 1))),hm,FrG.keep (ks:=[0,4,6,7,1]) H70 (by kernel_rfl),hS⟩
 ·rintro _ _ ⟨s_z16,hz,H,hS⟩
  subst hz
  replace hm:=sumR hm_z16
  apply w_seq
  apply wl_start
  refine wl_batch 0 2 [(vG [vU 5,vS s_z16.2,vI 0,vN,vF])] [4,92,93] (fS [4,92,93] [vP b1,vG [vU 5,vS s_z16.2,vI 0,vN,vF],vI s_z16.1]) [rN b11 0 [vU 5,vS s_z16.2,vI 0,vN,vF]] H (by decide) (by kernel_rfl) ⟨((hS.bk 0 rfl).atD rfl),trivial⟩ fun _ _ H79 hb => ?_
  replace hS:=hS.below hb
  have hd:=hS.hand [1] [0] rfl rfl
  refine m_stp0 [4,93] (fS [4,93] [vP b1,vI s_z16.1]) H79 rfl rfl rfl (o_store [vU 5,vS s_z16.2,vI 0,vN,vF] H79 hd rfl rfl (by kernel_rfl) rfl rfl rfl) rfl fun _ _ H81 hq => ?_
  obtain ⟨_,hq⟩:=hq
  replace hS : SH M X w [eB b1 [vU 5,vS s_z16.2,vI 0,vN,vF],eB b11 [vU 5,vS s_z16.2,vI 0,vN,vF]] _:=hS.join [1] [0] rfl rfl hq
  refine wl_batch 3 4 [] [4,5] (fS [4,5] [vP b1,vI s_z16.1]) [] H81 (by decide) (by kernel_rfl) trivial fun _ _ H83 hb => ?_
  replace hS:=hS.below hb
  apply wl_end rfl
  replace hS : SH M X w [eB b1 [vU 5,vS s_z16.2,vI 0,vN,vF]] _:=hS.sel [0] rfl
  apply w_ret
  obtain rfl:=someE hm
  exact retR2 H83 rfl (oneRes_agg rfl (hS.bk 0 rfl) Tryz.underlying61 rfl (by kernel_rfl)) rfl ⟨_,rfl,rfl,(hS.sel [] rfl)⟩
theorem r02_quoted_ok  (m : Nat) (s : Str) (i : Int) (r : TToken × Int) (hm : r02_quoted m s i = some r) : Ret Tryz.prog 105 ⟨[vS s,vI i]⟩ (vW [vG (cT r.1),vI r.2]):=retP_of (Tryz.call105 _) (fun w h => r02_quoted_w F0 m   s i r hm w h)

theorem r02_Starts_w  (M : Av) (c_ : Int) (r : Bool) (hm : r02_Starts c_ = r) (w : World) (hS : S0 M [] w) : Calls Tryz.prog 118 ⟨[vU c_]⟩ w (fun e w' => ∃ v,e = .returned v ∧ v = vB r ∧ SH M (fpl []) w [] w'):=by
 rw [r02_Starts] at hm
 have hS0 : SH M (fpl []) w [] w:=hS
 generalize hX : fpl [] = X at hS0 ⊢
 clear hS hX
 have hS:=hS0
 clear hS0
 refine calls_entryP Tryz.func118 rfl Tryz.ntmps118 rfl fun _ H => ?_
 refine s_reg [] [0] [(0,[],vU c_)] [] H (by kernel_rfl) trivial fun _ _ H2 hb => ?_
 replace hS:=hS.below hb
 refine s_reg [(vU (r01_Small c_))] [0,3] (fS [0,3] [vU c_,vU (r01_Small c_)]) [rB 127 [vU c_] (vU (r01_Small c_))] H2 (by kernel_rfl) ⟨((r01_Small_ok _).b),trivial⟩ fun _ _ H4 hb => ?_
 replace hS:=hS.below hb
 obtain ⟨x5,hx5,hm⟩:=letE hm
 obtain ⟨x6,hx6,hm⟩:=letE hm
 refine s_reg [] [2] [(2,[],vB x6)] [] H4 (by subst hx5 hx6; kernel_rfl) trivial fun _ _ H8 hb => ?_
 replace hS:=hS.below hb
 apply w_ret
 subst hm
 exact retR1 H8 rfl rfl ⟨_,rfl,rfl,(hS.sel [] rfl)⟩
theorem r02_Starts_ok  (c_ : Int) : Ret Tryz.prog 118 ⟨[vU c_]⟩ (vB (r02_Starts c_)):=retP_of (Tryz.call118 _) (fun w h => r02_Starts_w F0   c_ _ rfl w h)

theorem r02_Letter_w  (M : Av) (c_ : Int) (r : Bool) (hm : r02_Letter c_ = r) (w : World) (hS : S0 M [] w) : Calls Tryz.prog 106 ⟨[vU c_]⟩ w (fun e w' => ∃ v,e = .returned v ∧ v = vB r ∧ SH M (fpl []) w [] w'):=by
 rw [r02_Letter] at hm
 have hS0 : SH M (fpl []) w [] w:=hS
 generalize hX : fpl [] = X at hS0 ⊢
 clear hS hX
 have hS:=hS0
 clear hS0
 refine calls_entryP Tryz.func106 rfl Tryz.ntmps106 rfl fun _ H => ?_
 refine s_reg [] [0] [(0,[],vU c_)] [] H (by kernel_rfl) trivial fun _ _ H2 hb => ?_
 replace hS:=hS.below hb
 obtain ⟨x3,hx3,hm⟩:=letE hm
 refine s_reg [(vB (r02_Starts c_)),(vB (r02_Digit c_))] [2] [(2,[],vB x3)] [rB 118 [vU c_] (vB (r02_Starts c_)),fun wz => ((r02_Starts c_) = false ∧ True → RetB Tryz.prog 119 ⟨[vU c_]⟩ (vB (r02_Digit c_)) wz)] H2 (by subst hx3; kernel_rfl) ⟨((r02_Starts_ok _).b),fun hg => (r02_Digit_ok _).b,trivial⟩ fun _ _ H5 hb => ?_
 replace hS:=hS.below hb
 apply w_ret
 subst hm
 exact retR1 H5 rfl rfl ⟨_,rfl,rfl,(hS.sel [] rfl)⟩
theorem r02_Letter_ok  (c_ : Int) : Ret Tryz.prog 106 ⟨[vU c_]⟩ (vB (r02_Letter c_)):=retP_of (Tryz.call106 _) (fun w h => r02_Letter_w F0   c_ _ rfl w h)

theorem r02_Escape_w  (M : Av) (s : Str) (i : Int) (r : Bool) (hm : r02_Escape s i = some r) (w : World) (hS : S0 M [] w) : Calls Tryz.prog 107 ⟨[vS s,vI i]⟩ w (fun e w' => ∃ v,e = .returned v ∧ v = vB r ∧ SH M (fpl []) w [] w'):=by
 rw [r02_Escape] at hm
 have hS0 : SH M (fpl []) w [] w:=hS
 generalize hX : fpl [] = X at hS0 ⊢
 clear hS hX
 have hS:=hS0
 clear hS0
 refine calls_entryP Tryz.func107 rfl Tryz.ntmps107 rfl fun _ H => ?_
 refine s_reg [] [0,1] (fS [0,1] [vS s,vI i]) [] H (by kernel_rfl) trivial fun _ _ H2 hb => ?_
 replace hS:=hS.below hb
 obtain ⟨y3,hy3,hm⟩:=bindE hm
 obtain ⟨y4,hy4,hm⟩:=bindE hm
 refine s_reg [(vU y3),(vU y4)] [4] [(4,[],vB (cond (y3 == 92) (y4 != 10) false))] [rB 116 [vS s,vI i] (vU y3),fun wz => ((y3 == 92) = true ∧ True → RetB Tryz.prog 116 ⟨[vS s,vI (w64 (i + 1))]⟩ (vU y4) wz)] H2 (by kernel_rfl) ⟨((r02_At_ok _ _ _ hy3).b),fun hg => (r02_At_ok _ _ _ (bT (hg.1) hy4)).b,trivial⟩ fun _ _ H6 hb => ?_
 replace hS:=hS.below hb
 apply w_ret
 obtain rfl:=someE hm
 exact retR1 H6 rfl rfl ⟨_,rfl,rfl,(hS.sel [] rfl)⟩
theorem r02_Escape_ok  (s : Str) (i : Int) (r : Bool) (hm : r02_Escape s i = some r) : Ret Tryz.prog 107 ⟨[vS s,vI i]⟩ (vB r):=retP_of (Tryz.call107 _) (fun w h => r02_Escape_w F0   s i r hm w h)

theorem r02_Named_w  (M : Av) (m : Nat) (s : Str) (i : Int) (r : Str × Int) (hm : r02_Named m s i = some r) (w : World) (hS : S0 M [] w) : Calls Tryz.prog 108 ⟨[vS s,vI i]⟩ w (fun e w' => ∃ v,e = .returned v ∧ v = vW [vS r.1,vI r.2] ∧ SH M (fpl []) w [] w'):=by
 rw [r02_Named] at hm
 have hS0 : SH M (fpl []) w [] w:=hS
 generalize hX : fpl [] = X at hS0 ⊢
 clear hS hX
 have hS:=hS0
 clear hS0
 refine calls_entryP Tryz.func108 rfl Tryz.ntmps108 rfl fun _ H => ?_
 refine s_reg [] [0,1] (fS [0,1] [vS s,vI i]) [] H (by kernel_rfl) trivial fun _ _ H2 hb => ?_
 replace hS:=hS.below hb
 refine s_reg [] [0,1,6] (fS [0,1,6] [vS s,vI i,vN]) [] H2 (by kernel_rfl) trivial fun _ _ H4 hb => ?_
 replace hS:=hS.below hb
 apply w_block
 refine w_loop (fun kk a' w' => ∃ (v5 : Int) (v6 : Str),r02_Named_L1 m s kk v5 v6 = some _ ∧ Fr 49 (fS [0,1,6] [vS s,vI v5,vS v6]) a' ∧ SH M X w [] w') ⟨_,i,[],hm,FrG.keep (ks:=[0,1,6]) H4 (by kernel_rfl),hS⟩ ?_
 clear hm H4 hS
 rintro kk _ _ ⟨v5,v6,hm,H,hS⟩
 cases kk with
 | zero => exact noneE hm
 | succ kk =>
  rw [r02_Named_L1] at hm
  apply w_block
  obtain ⟨ho7,hm⟩:=chkE hm
  obtain ⟨x8,hx8,hm⟩:=letE hm
  refine s_reg [(vB (r02_Letter (bat s v5)))] [0,1,6,18] (fS [0,1,6,18] [vS s,vI v5,vS v6,vB x8]) [fun _ => ((decide (v5 < (ln s))) = true ∧ True → 0 ≤ v5 ∧ v5 < ln s),fun wz => ((decide (v5 < (ln s))) = true ∧ True → RetB Tryz.prog 106 ⟨[vU (bat s v5)]⟩ (vB (r02_Letter (bat s v5))) wz)] H (by subst hx8; kernel_rfl) ⟨fun hg => (ho7 hg.1),fun hg => (r02_Letter_ok _).b,trivial⟩ fun _ _ H10 hb => ?_
  replace hS:=hS.below hb
  refine w_if H10 rfl (fun hc => ?c31) (fun hc => ?_)
  case c31 =>
   replace hm:=bT hc hm
   obtain ⟨ho11,hm⟩:=chkE hm
   obtain ⟨ho12,hm⟩:=chkE hm
   refine s_reg [] [0,1,6] (fS [0,1,6] [vS s,vI v5,vS (v6 ++ (sub s v5 (w64 (v5 + 1))))]) [fun _ => 0 ≤ v5 ∧ v5 ≤ (w64 (v5 + 1)) ∧ (w64 (v5 + 1)) ≤ ln s,fun _ => ln v6 + ln (sub s v5 (w64 (v5 + 1))) ≤ 9223372036854775807] H10 (by kernel_rfl) ⟨ho11,ho12,trivial⟩ fun _ _ H14 hb => ?_
   replace hS:=hS.below hb
   refine w_reg [] [0,1,6] (fS [0,1,6] [vS s,vI (w64 (v5 + 1)),vS (v6 ++ (sub s v5 (w64 (v5 + 1))))]) [] H14 (by kernel_rfl) trivial fun _ _ H16 hb => ?_
   replace hS:=hS.below hb
   exact ⟨_,Nat.lt_succ_self _,w64 (v5 + 1),v6 ++ (sub s v5 (w64 (v5 + 1))),hm,FrG.keep (ks:=[0,1,6]) H16 (by kernel_rfl),hS⟩
  replace hm:=bF hc hm
  obtain ⟨y17,hy17,hm⟩:=bindE hm
  refine s_reg [(vB y17)] [0,1,6,36] (fS [0,1,6,36] [vS s,vI v5,vS v6,vB (cond (decide (v5 < (ln s))) y17 false)]) [fun wz => ((decide (v5 < (ln s))) = true ∧ True → RetB Tryz.prog 107 ⟨[vS s,vI v5]⟩ (vB y17) wz)] H10 (by kernel_rfl) ⟨fun hg => (r02_Escape_ok _ _ _ (bT (hg.1) hy17)).b,trivial⟩ fun _ _ H19 hb => ?_
  replace hS:=hS.below hb
  refine w_if H19 rfl (fun hc => ?_) (fun hc => ?c30)
  case c30 =>
   replace hm:=bF hc hm
   refine s_reg [] [4,5] (fS [4,5] [vS v6,vI v5]) [] H19 (by kernel_rfl) trivial fun _ _ H29 hb => ?_
   replace hS:=hS.below hb
   apply w_ret
   obtain rfl:=someE hm
   exact retR2 H29 rfl rfl rfl ⟨_,rfl,rfl,(hS.sel [] rfl)⟩
  replace hm:=bT hc hm
  obtain ⟨y20,hy20,hm⟩:=bindE hm
  refine s_reg [(vW [vS y20.1,vI y20.2])] [0,6,7,8] (fS [0,6,7,8] [vS s,vS v6,vS y20.1,vI y20.2]) [rB 117 [vS s,vI v5] (vW [vS y20.1,vI y20.2])] H19 (by kernel_rfl) ⟨((r02_Escaped_ok m _ _ _ hy20).b),trivial⟩ fun _ _ H22 hb => ?_
  replace hS:=hS.below hb
  obtain ⟨ho23,hm⟩:=chkE hm
  refine s_reg [] [0,6,8] (fS [0,6,8] [vS s,vS (v6 ++ y20.1),vI y20.2]) [fun _ => ln v6 + ln y20.1 ≤ 9223372036854775807] H22 (by kernel_rfl) ⟨ho23,trivial⟩ fun _ _ H25 hb => ?_
  replace hS:=hS.below hb
  refine w_reg [] [0,1,6] (fS [0,1,6] [vS s,vI y20.2,vS (v6 ++ y20.1)]) [] H25 (by kernel_rfl) trivial fun _ _ H27 hb => ?_
  replace hS:=hS.below hb
  exact ⟨_,Nat.lt_succ_self _,y20.2,v6 ++ y20.1,hm,FrG.keep (ks:=[0,1,6]) H27 (by kernel_rfl),hS⟩
theorem r02_Named_ok  (m : Nat) (s : Str) (i : Int) (r : Str × Int) (hm : r02_Named m s i = some r) : Ret Tryz.prog 108 ⟨[vS s,vI i]⟩ (vW [vS r.1,vI r.2]):=retP_of (Tryz.call108 _) (fun w h => r02_Named_w F0 m   s i r hm w h)

theorem r02_NameAt_w  (M : Av) (s : Str) (i : Int) (r : Bool) (hm : r02_NameAt s i = some r) (w : World) (hS : S0 M [] w) : Calls Tryz.prog 109 ⟨[vS s,vI i]⟩ w (fun e w' => ∃ v,e = .returned v ∧ v = vB r ∧ SH M (fpl []) w [] w'):=by
 rw [r02_NameAt] at hm
 have hS0 : SH M (fpl []) w [] w:=hS
 generalize hX : fpl [] = X at hS0 ⊢
 clear hS hX
 have hS:=hS0
 clear hS0
 refine calls_entryP Tryz.func109 rfl Tryz.ntmps109 rfl fun _ H => ?_
 refine s_reg [] [0,1] (fS [0,1] [vS s,vI i]) [] H (by kernel_rfl) trivial fun _ _ H2 hb => ?_
 replace hS:=hS.below hb
 apply w_seq
 obtain ⟨y3,hy3,hm⟩:=bindE hm
 refine s_reg [(vU y3)] [0,1,8] (fS [0,1,8] [vS s,vI i,vB (y3 == 45)]) [rB 116 [vS s,vI i] (vU y3)] H2 (by kernel_rfl) ⟨((r02_At_ok _ _ _ hy3).b),trivial⟩ fun _ _ H5 hb => ?_
 replace hS:=hS.below hb
 refine w_if H5 rfl (fun hc => ?_) (fun hc => ?c16)
 case c16 =>
  replace hm:=bF hc hm
  apply w_skip
  obtain ⟨y12,hy12,hm⟩:=bindE hm
  obtain ⟨y13,hy13,hm⟩:=bindE hm
  refine s_reg [(vU y12),(vB (r02_Starts y12)),(vB y13)] [4] [(4,[],vB (cond (r02_Starts y12) true y13))] [rB 116 [vS s,vI i] (vU y12),rB 118 [vU y12] (vB (r02_Starts y12)),fun wz => ((r02_Starts y12) = false ∧ True → RetB Tryz.prog 107 ⟨[vS s,vI i]⟩ (vB y13) wz)] H5 (by kernel_rfl) ⟨((r02_At_ok _ _ _ hy12).b),((r02_Starts_ok _).b),fun hg => (r02_Escape_ok _ _ _ (bF (hg.1) hy13)).b,trivial⟩ fun _ _ H15 hb => ?_
  replace hS:=hS.below hb
  apply w_ret
  obtain rfl:=someE hm
  exact retR1 H15 rfl rfl ⟨_,rfl,rfl,(hS.sel [] rfl)⟩
 replace hm:=bT hc hm
 obtain ⟨y6,hy6,hm⟩:=bindE hm
 obtain ⟨y7,hy7,hm⟩:=bindE hm
 obtain ⟨y8,hy8,hm⟩:=bindE hm
 obtain ⟨x9,hx9,hm⟩:=letE hm
 refine s_reg [(vU y6),(vB (r02_Starts y6)),(vU y7),(vB y8)] [4] [(4,[],vB x9)] [rB 116 [vS s,vI (w64 (i + 1))] (vU y6),rB 118 [vU y6] (vB (r02_Starts y6)),fun wz => ((r02_Starts y6) = false ∧ True → RetB Tryz.prog 116 ⟨[vS s,vI (w64 (i + 1))]⟩ (vU y7) wz),fun wz => ((cond (r02_Starts y6) true (y7 == 45)) = false ∧ True → RetB Tryz.prog 107 ⟨[vS s,vI (w64 (i + 1))]⟩ (vB y8) wz)] H5 (by subst hx9; kernel_rfl) ⟨((r02_At_ok _ _ _ hy6).b),((r02_Starts_ok _).b),fun hg => (r02_At_ok _ _ _ (bF (hg.1) hy7)).b,fun hg => (r02_Escape_ok _ _ _ (bF (hg.1) hy8)).b,trivial⟩ fun _ _ H11 hb => ?_
 replace hS:=hS.below hb
 apply w_ret
 obtain rfl:=someE hm
 exact retR1 H11 rfl rfl ⟨_,rfl,rfl,(hS.sel [] rfl)⟩
theorem r02_NameAt_ok  (s : Str) (i : Int) (r : Bool) (hm : r02_NameAt s i = some r) : Ret Tryz.prog 109 ⟨[vS s,vI i]⟩ (vB r):=retP_of (Tryz.call109 _) (fun w h => r02_NameAt_w F0   s i r hm w h)

theorem r02_NumberAt_w  (M : Av) (s : Str) (i : Int) (r : Bool) (hm : r02_NumberAt s i = some r) (w : World) (hS : S0 M [] w) : Calls Tryz.prog 110 ⟨[vS s,vI i]⟩ w (fun e w' => ∃ v,e = .returned v ∧ v = vB r ∧ SH M (fpl []) w [] w'):=by
 rw [r02_NumberAt] at hm
 have hS0 : SH M (fpl []) w [] w:=hS
 generalize hX : fpl [] = X at hS0 ⊢
 clear hS hX
 have hS:=hS0
 clear hS0
 refine calls_entryP Tryz.func110 rfl Tryz.ntmps110 rfl fun _ H => ?_
 refine s_reg [] [0,1] (fS [0,1] [vS s,vI i]) [] H (by kernel_rfl) trivial fun _ _ H2 hb => ?_
 replace hS:=hS.below hb
 obtain ⟨z3,hz,hm⟩:=bindE hm
 refine w_cut (fun a' w' => Fr 27 (fS [0,1] [vS s,vI z3]) a' ∧ SH M X w [] w') ?_ ?_
 ·replace hm:=hz
  obtain ⟨y4,hy4,hm⟩:=bindE hm
  refine s_reg [(vU y4)] [0,1,5] (fS [0,1,5] [vS s,vI i,vU y4]) [rB 116 [vS s,vI i] (vU y4)] H2 (by kernel_rfl) ⟨((r02_At_ok _ _ _ hy4).b),trivial⟩ fun _ _ H6 hb => ?_
  replace hS:=hS.below hb
  refine s_reg [] [0,1,14] (fS [0,1,14] [vS s,vI i,vB (cond (y4 == 43) true (y4 == 45))]) [] H6 (by kernel_rfl) trivial fun _ _ H8 hb => ?_
  replace hS:=hS.below hb
  refine w_if H8 rfl (fun hc => ?_) (fun hc => ?c11)
  case c11 =>
   replace hm:=bF hc hm
   apply w_skip
   obtain rfl:=someE hm
   exact ⟨FrG.keep (ks:=[0,1]) H8 (by kernel_rfl),hS⟩
  replace hm:=bT hc hm
  refine w_reg [] [0,1] (fS [0,1] [vS s,vI (w64 (i + 1))]) [] H8 (by kernel_rfl) trivial fun _ _ H10 hb => ?_
  replace hS:=hS.below hb
  obtain rfl:=someE hm
  exact ⟨FrG.keep (ks:=[0,1]) H10 (by kernel_rfl),hS⟩
 ·rintro _ _ ⟨H,hS⟩
  obtain ⟨z12,hz,hm⟩:=bindE hm
  refine w_cut (fun a' w' => Fr 27 (fS [0,1] [vS s,vI z12]) a' ∧ SH M X w [] w') ?_ ?_
  ·replace hm:=hz
   obtain ⟨y13,hy13,hm⟩:=bindE hm
   refine s_reg [(vU y13)] [0,1,20] (fS [0,1,20] [vS s,vI z3,vB (y13 == 46)]) [rB 116 [vS s,vI z3] (vU y13)] H (by kernel_rfl) ⟨((r02_At_ok _ _ _ hy13).b),trivial⟩ fun _ _ H15 hb => ?_
   replace hS:=hS.below hb
   refine w_if H15 rfl (fun hc => ?_) (fun hc => ?c18)
   case c18 =>
    replace hm:=bF hc hm
    apply w_skip
    obtain rfl:=someE hm
    exact ⟨FrG.keep (ks:=[0,1]) H15 (by kernel_rfl),hS⟩
   replace hm:=bT hc hm
   refine w_reg [] [0,1] (fS [0,1] [vS s,vI (w64 (z3 + 1))]) [] H15 (by kernel_rfl) trivial fun _ _ H17 hb => ?_
   replace hS:=hS.below hb
   obtain rfl:=someE hm
   exact ⟨FrG.keep (ks:=[0,1]) H17 (by kernel_rfl),hS⟩
  ·rintro _ _ ⟨H,hS⟩
   obtain ⟨y19,hy19,hm⟩:=bindE hm
   refine s_reg [(vU y19),(vB (r02_Digit y19))] [4] [(4,[],vB (r02_Digit y19))] [rB 116 [vS s,vI z12] (vU y19),rB 119 [vU y19] (vB (r02_Digit y19))] H (by kernel_rfl) ⟨((r02_At_ok _ _ _ hy19).b),((r02_Digit_ok _).b),trivial⟩ fun _ _ H21 hb => ?_
   replace hS:=hS.below hb
   apply w_ret
   obtain rfl:=someE hm
   exact retR1 H21 rfl rfl ⟨_,rfl,rfl,(hS.sel [] rfl)⟩
theorem r02_NumberAt_ok  (s : Str) (i : Int) (r : Bool) (hm : r02_NumberAt s i = some r) : Ret Tryz.prog 110 ⟨[vS s,vI i]⟩ (vB r):=retP_of (Tryz.call110 _) (fun w h => r02_NumberAt_w F0   s i r hm w h)

theorem r02_digits_w  (M : Av) (m : Nat) (s : Str) (i : Int) (r : Int) (hm : r02_digits m s i = some r) (w : World) (hS : S0 M [] w) : Calls Tryz.prog 128 ⟨[vS s,vI i]⟩ w (fun e w' => ∃ v,e = .returned v ∧ v = vI r ∧ SH M (fpl []) w [] w'):=by
 rw [r02_digits] at hm
 have hS0 : SH M (fpl []) w [] w:=hS
 generalize hX : fpl [] = X at hS0 ⊢
 clear hS hX
 have hS:=hS0
 clear hS0
 refine calls_entryP Tryz.func128 rfl Tryz.ntmps128 rfl fun _ H => ?_
 refine s_reg [] [0,1] (fS [0,1] [vS s,vI i]) [] H (by kernel_rfl) trivial fun _ _ H2 hb => ?_
 replace hS:=hS.below hb
 obtain ⟨z3,hz,hm⟩:=bindE hm
 refine w_cut (fun a' w' => Fr 12 [(1,[],vI z3)] a' ∧ SH M X w [] w') ?_ ?_
 ·replace hm:=hz
  apply w_block
  refine w_loop (fun kk a' w' => ∃ (v4 : Int),r02_digits_L1 m s kk v4 = some _ ∧ Fr 12 (fS [0,1] [vS s,vI v4]) a' ∧ SH M X w [] w') ⟨_,i,hm,FrG.keep (ks:=[0,1]) H2 (by kernel_rfl),hS⟩ ?_
  clear hm H2 hS
  rintro kk _ _ ⟨v4,hm,H,hS⟩
  cases kk with
  | zero => exact noneE hm
  | succ kk =>
   rw [r02_digits_L1] at hm
   apply w_seq
   obtain ⟨y5,hy5,hm⟩:=bindE hm
   refine s_reg [(vU y5),(vB (r02_Digit y5))] [0,1,8] (fS [0,1,8] [vS s,vI v4,vB (r02_Digit y5)]) [rB 116 [vS s,vI v4] (vU y5),rB 119 [vU y5] (vB (r02_Digit y5))] H (by kernel_rfl) ⟨((r02_At_ok _ _ _ hy5).b),((r02_Digit_ok _).b),trivial⟩ fun _ _ H7 hb => ?_
   replace hS:=hS.below hb
   refine w_if H7 rfl (fun hc => ?_) (fun hc => ?c10)
   case c10 =>
    replace hm:=bF hc hm
    apply w_exit rfl
    obtain rfl:=someE hm
    exact ⟨FrG.keep (ks:=[1]) H7 (by kernel_rfl),hS⟩
   replace hm:=bT hc hm
   apply w_skip
   apply w_block
   refine w_reg [] [0,1] (fS [0,1] [vS s,vI (w64 (v4 + 1))]) [] H7 (by kernel_rfl) trivial fun _ _ H9 hb => ?_
   replace hS:=hS.below hb
   exact ⟨_,Nat.lt_succ_self _,w64 (v4 + 1),hm,FrG.keep (ks:=[0,1]) H9 (by kernel_rfl),hS⟩
 ·rintro _ _ ⟨H,hS⟩
  refine s_reg [] [4] [(4,[],vI z3)] [] H (by kernel_rfl) trivial fun _ _ H13 hb => ?_
  replace hS:=hS.below hb
  apply w_ret
  obtain rfl:=someE hm
  exact retR1 H13 rfl rfl ⟨_,rfl,rfl,(hS.sel [] rfl)⟩
theorem r02_digits_ok  (m : Nat) (s : Str) (i : Int) (r : Int) (hm : r02_digits m s i = some r) : Ret Tryz.prog 128 ⟨[vS s,vI i]⟩ (vI r):=retP_of (Tryz.call128 _) (fun w h => r02_digits_w F0 m   s i r hm w h)

theorem r02_NumberEnd_w  (M : Av) (m : Nat) (s : Str) (i : Int) (r : Int × Bool) (hm : r02_NumberEnd m s i = some r) (w : World) (hS : S0 M [] w) : Calls Tryz.prog 120 ⟨[vS s,vI i]⟩ w (fun e w' => ∃ v,e = .returned v ∧ v = vW [vI r.1,vB r.2] ∧ SH M (fpl []) w [] w'):=by
 rw [r02_NumberEnd] at hm
 have hS0 : SH M (fpl []) w [] w:=hS
 generalize hX : fpl [] = X at hS0 ⊢
 clear hS hX
 have hS:=hS0
 clear hS0
 refine calls_entryP Tryz.func120 rfl Tryz.ntmps120 rfl fun _ H => ?_
 refine s_reg [] [0,1] (fS [0,1] [vS s,vI i]) [] H (by kernel_rfl) trivial fun _ _ H2 hb => ?_
 replace hS:=hS.below hb
 obtain ⟨z3,hz,hm⟩:=bindE hm
 refine w_cut (fun a' w' => Fr 71 (fS [0,1] [vS s,vI z3]) a' ∧ SH M X w [] w') ?_ ?_
 ·replace hm:=hz
  obtain ⟨y4,hy4,hm⟩:=bindE hm
  refine s_reg [(vU y4)] [0,1,6] (fS [0,1,6] [vS s,vI i,vU y4]) [rB 116 [vS s,vI i] (vU y4)] H2 (by kernel_rfl) ⟨((r02_At_ok _ _ _ hy4).b),trivial⟩ fun _ _ H6 hb => ?_
  replace hS:=hS.below hb
  refine s_reg [] [0,1,19] (fS [0,1,19] [vS s,vI i,vB (cond (y4 == 43) true (y4 == 45))]) [] H6 (by kernel_rfl) trivial fun _ _ H8 hb => ?_
  replace hS:=hS.below hb
  refine w_if H8 rfl (fun hc => ?_) (fun hc => ?c11)
  case c11 =>
   replace hm:=bF hc hm
   apply w_skip
   obtain rfl:=someE hm
   exact ⟨FrG.keep (ks:=[0,1]) H8 (by kernel_rfl),hS⟩
  replace hm:=bT hc hm
  refine w_reg [] [0,1] (fS [0,1] [vS s,vI (w64 (i + 1))]) [] H8 (by kernel_rfl) trivial fun _ _ H10 hb => ?_
  replace hS:=hS.below hb
  obtain rfl:=someE hm
  exact ⟨FrG.keep (ks:=[0,1]) H10 (by kernel_rfl),hS⟩
 ·rintro _ _ ⟨H,hS⟩
  obtain ⟨y12,hy12,hm⟩:=bindE hm
  refine s_reg [(vI y12)] [0,1] (fS [0,1] [vS s,vI y12]) [rB 128 [vS s,vI z3] (vI y12)] H (by kernel_rfl) ⟨((r02_digits_ok m _ _ _ hy12).b),trivial⟩ fun _ _ H14 hb => ?_
  replace hS:=hS.below hb
  refine s_reg [] [0,1,7] (fS [0,1,7] [vS s,vI y12,vT]) [] H14 (by kernel_rfl) trivial fun _ _ H16 hb => ?_
  replace hS:=hS.below hb
  obtain ⟨z17,hz,hm⟩:=bindE hm
  refine w_cut (fun a' w' => Fr 71 (fS [0,1,7] [vS s,vI z17.1,vB z17.2]) a' ∧ SH M X w [] w') ?_ ?_
  ·replace hm:=hz
   obtain ⟨y18,hy18,hm⟩:=bindE hm
   obtain ⟨y19,hy19,hm⟩:=bindE hm
   refine s_reg [(vU y18),(vU y19),(vB (r02_Digit y19))] [0,1,7,35] (fS [0,1,7,35] [vS s,vI y12,vT,vB (cond (y18 == 46) (r02_Digit y19) false)]) [rB 116 [vS s,vI y12] (vU y18),fun wz => ((y18 == 46) = true ∧ True → RetB Tryz.prog 116 ⟨[vS s,vI (w64 (y12 + 1))]⟩ (vU y19) wz),fun wz => ((y18 == 46) = true ∧ True → RetB Tryz.prog 119 ⟨[vU y19]⟩ (vB (r02_Digit y19)) wz)] H16 (by kernel_rfl) ⟨((r02_At_ok _ _ _ hy18).b),fun hg => (r02_At_ok _ _ _ (bT (hg.1) hy19)).b,fun hg => (r02_Digit_ok _).b,trivial⟩ fun _ _ H21 hb => ?_
   replace hS:=hS.below hb
   refine w_if H21 rfl (fun hc => ?_) (fun hc => ?c27)
   case c27 =>
    replace hm:=bF hc hm
    apply w_skip
    obtain rfl:=someE hm
    exact ⟨FrG.keep (ks:=[0,1,7]) H21 (by kernel_rfl),hS⟩
   replace hm:=bT hc hm
   refine s_reg [] [0,1,7] (fS [0,1,7] [vS s,vI y12,vF]) [] H21 (by kernel_rfl) trivial fun _ _ H23 hb => ?_
   replace hS:=hS.below hb
   obtain ⟨y24,hy24,hm⟩:=bindE hm
   refine w_reg [(vI y24)] [0,1,7] (fS [0,1,7] [vS s,vI y24,vF]) [rB 128 [vS s,vI (w64 (y12 + 1))] (vI y24)] H23 (by kernel_rfl) ⟨((r02_digits_ok m _ _ _ hy24).b),trivial⟩ fun _ _ H26 hb => ?_
   replace hS:=hS.below hb
   obtain rfl:=someE hm
   exact ⟨FrG.keep (ks:=[0,1,7]) H26 (by kernel_rfl),hS⟩
  ·rintro _ _ ⟨H,hS⟩
   obtain ⟨z28,hz,hm⟩:=bindE hm
   refine w_cut (fun a' w' => Fr 71 (fS [1,7] [vI z28.1,vB z28.2]) a' ∧ SH M X w [] w') ?_ ?_
   ·replace hm:=hz
    obtain ⟨y29,hy29,hm⟩:=bindE hm
    refine s_reg [(vU y29)] [0,1,7,8] (fS [0,1,7,8] [vS s,vI z17.1,vB z17.2,vU y29]) [rB 116 [vS s,vI z17.1] (vU y29)] H (by kernel_rfl) ⟨((r02_At_ok _ _ _ hy29).b),trivial⟩ fun _ _ H31 hb => ?_
    replace hS:=hS.below hb
    refine s_reg [] [0,1,7,48] (fS [0,1,7,48] [vS s,vI z17.1,vB z17.2,vB (cond (y29 == 101) true (y29 == 69))]) [] H31 (by kernel_rfl) trivial fun _ _ H33 hb => ?_
    replace hS:=hS.below hb
    refine w_if H33 rfl (fun hc => ?_) (fun hc => ?c55)
    case c55 =>
     replace hm:=bF hc hm
     apply w_skip
     obtain rfl:=someE hm
     exact ⟨FrG.keep (ks:=[1,7]) H33 (by kernel_rfl),hS⟩
    replace hm:=bT hc hm
    refine s_reg [] [0,1,7,9] (fS [0,1,7,9] [vS s,vI z17.1,vB z17.2,vI (w64 (z17.1 + 1))]) [] H33 (by kernel_rfl) trivial fun _ _ H35 hb => ?_
    replace hS:=hS.below hb
    obtain ⟨z36,hz,hm⟩:=bindE hm
    refine w_cut (fun a' w' => Fr 71 (fS [0,1,7,9] [vS s,vI z17.1,vB z17.2,vI z36]) a' ∧ SH M X w [] w') ?_ ?_
    ·replace hm:=hz
     obtain ⟨y37,hy37,hm⟩:=bindE hm
     refine s_reg [(vU y37)] [0,1,7,9,10] (fS [0,1,7,9,10] [vS s,vI z17.1,vB z17.2,vI (w64 (z17.1 + 1)),vU y37]) [rB 116 [vS s,vI (w64 (z17.1 + 1))] (vU y37)] H35 (by kernel_rfl) ⟨((r02_At_ok _ _ _ hy37).b),trivial⟩ fun _ _ H39 hb => ?_
     replace hS:=hS.below hb
     refine s_reg [] [0,1,7,9,59] (fS [0,1,7,9,59] [vS s,vI z17.1,vB z17.2,vI (w64 (z17.1 + 1)),vB (cond (y37 == 43) true (y37 == 45))]) [] H39 (by kernel_rfl) trivial fun _ _ H41 hb => ?_
     replace hS:=hS.below hb
     refine w_if H41 rfl (fun hc => ?_) (fun hc => ?c44)
     case c44 =>
      replace hm:=bF hc hm
      apply w_skip
      obtain rfl:=someE hm
      exact ⟨FrG.keep (ks:=[0,1,7,9]) H41 (by kernel_rfl),hS⟩
     replace hm:=bT hc hm
     refine w_reg [] [0,1,7,9] (fS [0,1,7,9] [vS s,vI z17.1,vB z17.2,vI (w64 ((w64 (z17.1 + 1)) + 1))]) [] H41 (by kernel_rfl) trivial fun _ _ H43 hb => ?_
     replace hS:=hS.below hb
     obtain rfl:=someE hm
     exact ⟨FrG.keep (ks:=[0,1,7,9]) H43 (by kernel_rfl),hS⟩
    ·rintro _ _ ⟨H,hS⟩
     obtain ⟨y45,hy45,hm⟩:=bindE hm
     refine s_reg [(vU y45),(vB (r02_Digit y45))] [0,1,7,9,65] (fS [0,1,7,9,65] [vS s,vI z17.1,vB z17.2,vI z36,vB (r02_Digit y45)]) [rB 116 [vS s,vI z36] (vU y45),rB 119 [vU y45] (vB (r02_Digit y45))] H (by kernel_rfl) ⟨((r02_At_ok _ _ _ hy45).b),((r02_Digit_ok _).b),trivial⟩ fun _ _ H47 hb => ?_
     replace hS:=hS.below hb
     refine w_if H47 rfl (fun hc => ?_) (fun hc => ?c53)
     case c53 =>
      replace hm:=bF hc hm
      apply w_skip
      obtain rfl:=someE hm
      exact ⟨FrG.keep (ks:=[1,7]) H47 (by kernel_rfl),hS⟩
     replace hm:=bT hc hm
     refine s_reg [] [0,7,9] (fS [0,7,9] [vS s,vF,vI z36]) [] H47 (by kernel_rfl) trivial fun _ _ H49 hb => ?_
     replace hS:=hS.below hb
     obtain ⟨y50,hy50,hm⟩:=bindE hm
     refine w_reg [(vI y50)] [1,7] (fS [1,7] [vI y50,vF]) [rB 128 [vS s,vI z36] (vI y50)] H49 (by kernel_rfl) ⟨((r02_digits_ok m _ _ _ hy50).b),trivial⟩ fun _ _ H52 hb => ?_
     replace hS:=hS.below hb
     obtain rfl:=someE hm
     exact ⟨FrG.keep (ks:=[1,7]) H52 (by kernel_rfl),hS⟩
   ·rintro _ _ ⟨H,hS⟩
    refine s_reg [] [4,5] (fS [4,5] [vI z28.1,vB z28.2]) [] H (by kernel_rfl) trivial fun _ _ H57 hb => ?_
    replace hS:=hS.below hb
    apply w_ret
    obtain rfl:=someE hm
    exact retR2 H57 rfl rfl rfl ⟨_,rfl,rfl,(hS.sel [] rfl)⟩
theorem r02_NumberEnd_ok  (m : Nat) (s : Str) (i : Int) (r : Int × Bool) (hm : r02_NumberEnd m s i = some r) : Ret Tryz.prog 120 ⟨[vS s,vI i]⟩ (vW [vI r.1,vB r.2]):=retP_of (Tryz.call120 _) (fun w h => r02_NumberEnd_w F0 m   s i r hm w h)

theorem r02_Thousandths_w  (M : Av) (m : Nat) (s : Str) (r : Int) (hm : r02_Thousandths m s = some r) (w : World) (hS : S0 M [] w) : Calls Tryz.prog 121 ⟨[vS s]⟩ w (fun e w' => ∃ v,e = .returned v ∧ v = vI r ∧ SH M (fpl []) w [] w'):=by
 rw [r02_Thousandths] at hm
 have hS0 : SH M (fpl []) w [] w:=hS
 generalize hX : fpl [] = X at hS0 ⊢
 clear hS hX
 have hS:=hS0
 clear hS0
 refine calls_entryP Tryz.func121 rfl Tryz.ntmps121 rfl fun _ H => ?_
 refine s_reg [] [0] [(0,[],vS s)] [] H (by kernel_rfl) trivial fun _ _ H2 hb => ?_
 replace hS:=hS.below hb
 refine s_reg [] [0,3,4,5] (fS [0,3,4,5] [vS s,vN,vI 3,vI 0]) [] H2 (by kernel_rfl) trivial fun _ _ H4 hb => ?_
 replace hS:=hS.below hb
 obtain ⟨ho5,hm⟩:=chkE hm
 refine s_reg [] [0,3,4,5,6] (fS [0,3,4,5,6] [vS s,vN,vI 3,vI 0,vB ((bat s 0) == 45)]) [fun _ => 0 ≤ (0 : Int) ∧ (0 : Int) < ln s] H4 (by kernel_rfl) ⟨ho5,trivial⟩ fun _ _ H7 hb => ?_
 replace hS:=hS.below hb
 obtain ⟨z8,hz,hm⟩:=bindE hm
 refine w_cut (fun a' w' => Fr 138 (fS [0,3,4,6,5] [vS s,vN,vI 3,vB ((bat s 0) == 45),vI z8]) a' ∧ SH M X w [] w') ?_ ?_
 ·replace hm:=hz
  obtain ⟨x9,hx9,hm⟩:=letE hm
  refine s_reg [] [0,3,4,5,6,19] (fS [0,3,4,5,6,19] [vS s,vN,vI 3,vI 0,vB ((bat s 0) == 45),vB x9]) [fun _ => 0 ≤ (0 : Int) ∧ (0 : Int) < ln s] H7 (by subst hx9; kernel_rfl) ⟨ho5,trivial⟩ fun _ _ H11 hb => ?_
  replace hS:=hS.below hb
  refine w_if H11 rfl (fun hc => ?_) (fun hc => ?c14)
  case c14 =>
   replace hm:=bF hc hm
   apply w_skip
   obtain rfl:=someE hm
   exact ⟨FrG.keep (ks:=[0,3,4,6,5]) H11 (by kernel_rfl),hS⟩
  replace hm:=bT hc hm
  refine w_reg [] [0,3,4,5,6] (fS [0,3,4,5,6] [vS s,vN,vI 3,vI 1,vB ((bat s 0) == 45)]) [] H11 (by kernel_rfl) trivial fun _ _ H13 hb => ?_
  replace hS:=hS.below hb
  obtain rfl:=someE hm
  exact ⟨FrG.keep (ks:=[0,3,4,6,5]) H13 (by kernel_rfl),hS⟩
 ·rintro _ _ ⟨H,hS⟩
  obtain ⟨z15,hz,hm⟩:=bindE hm
  refine w_cut (fun a' w' => Fr 138 (fS [0,4,6,3,5] [vS s,vI 3,vB ((bat s 0) == 45),vS z15.1,vI z15.2]) a' ∧ SH M X w [] w') ?_ ?_
  ·replace hm:=hz
   apply w_block
   refine w_loop (fun kk a' w' => ∃ (v16 : Str) (v17 : Int),r02_Thousandths_L1 m s kk v16 v17 = some _ ∧ Fr 138 (fS [0,4,6,3,5] [vS s,vI 3,vB ((bat s 0) == 45),vS v16,vI v17]) a' ∧ SH M X w [] w') ⟨_,[],z8,hm,FrG.keep (ks:=[0,4,6,3,5]) H (by kernel_rfl),hS⟩ ?_
   clear hm H hS
   rintro kk _ _ ⟨v16,v17,hm,H,hS⟩
   cases kk with
   | zero => exact noneE hm
   | succ kk =>
    rw [r02_Thousandths_L1] at hm
    apply w_seq
    obtain ⟨y18,hy18,hm⟩:=bindE hm
    refine s_reg [(vU y18),(vB (r02_Digit y18))] [0,3,4,5,6,25] (fS [0,3,4,5,6,25] [vS s,vS v16,vI 3,vI v17,vB ((bat s 0) == 45),vB (r02_Digit y18)]) [rB 116 [vS s,vI v17] (vU y18),rB 119 [vU y18] (vB (r02_Digit y18))] H (by kernel_rfl) ⟨((r02_At_ok _ _ _ hy18).b),((r02_Digit_ok _).b),trivial⟩ fun _ _ H20 hb => ?_
    replace hS:=hS.below hb
    refine w_if H20 rfl (fun hc => ?_) (fun hc => ?c27)
    case c27 =>
     replace hm:=bF hc hm
     apply w_exit rfl
     obtain rfl:=someE hm
     exact ⟨FrG.keep (ks:=[0,4,6,3,5]) H20 (by kernel_rfl),hS⟩
    replace hm:=bT hc hm
    apply w_skip
    apply w_seq
    apply w_block
    obtain ⟨ho21,hm⟩:=chkE hm
    obtain ⟨ho22,hm⟩:=chkE hm
    refine w_reg [] [0,3,4,5,6] (fS [0,3,4,5,6] [vS s,vS (v16 ++ (sub s v17 (w64 (v17 + 1)))),vI 3,vI v17,vB ((bat s 0) == 45)]) [fun _ => 0 ≤ v17 ∧ v17 ≤ (w64 (v17 + 1)) ∧ (w64 (v17 + 1)) ≤ ln s,fun _ => ln v16 + ln (sub s v17 (w64 (v17 + 1))) ≤ 9223372036854775807] H20 (by kernel_rfl) ⟨ho21,ho22,trivial⟩ fun _ _ H24 hb => ?_
    replace hS:=hS.below hb
    refine w_reg [] [0,3,4,5,6] (fS [0,3,4,5,6] [vS s,vS (v16 ++ (sub s v17 (w64 (v17 + 1)))),vI 3,vI (w64 (v17 + 1)),vB ((bat s 0) == 45)]) [] H24 (by kernel_rfl) trivial fun _ _ H26 hb => ?_
    replace hS:=hS.below hb
    exact ⟨_,Nat.lt_succ_self _,v16 ++ (sub s v17 (w64 (v17 + 1))),w64 (v17 + 1),hm,FrG.keep (ks:=[0,4,6,3,5]) H26 (by kernel_rfl),hS⟩
  ·rintro _ _ ⟨H,hS⟩
   obtain ⟨z29,hz,hm⟩:=bindE hm
   refine w_cut (fun a' w' => Fr 138 (fS [0,6,3,4,5] [vS s,vB ((bat s 0) == 45),vS z29.1,vI z29.2.1,vI z29.2.2]) a' ∧ SH M X w [] w') ?_ ?_
   ·replace hm:=hz
    obtain ⟨y30,hy30,hm⟩:=bindE hm
    refine s_reg [(vU y30)] [0,3,4,5,6,38] (fS [0,3,4,5,6,38] [vS s,vS z15.1,vI 3,vI z15.2,vB ((bat s 0) == 45),vB (y30 == 46)]) [rB 116 [vS s,vI z15.2] (vU y30)] H (by kernel_rfl) ⟨((r02_At_ok _ _ _ hy30).b),trivial⟩ fun _ _ H32 hb => ?_
    replace hS:=hS.below hb
    refine w_if H32 rfl (fun hc => ?_) (fun hc => ?c51)
    case c51 =>
     replace hm:=bF hc hm
     apply w_skip
     obtain rfl:=someE hm
     exact ⟨FrG.keep (ks:=[0,6,3,4,5]) H32 (by kernel_rfl),hS⟩
    replace hm:=bT hc hm
    refine s_reg [] [0,3,4,5,6] (fS [0,3,4,5,6] [vS s,vS z15.1,vI 3,vI (w64 (z15.2 + 1)),vB ((bat s 0) == 45)]) [] H32 (by kernel_rfl) trivial fun _ _ H34 hb => ?_
    replace hS:=hS.below hb
    apply w_block
    refine w_loop (fun kk a' w' => ∃ (v35 : Str) (v36 : Int) (v37 : Int),r02_Thousandths_L2 m s kk v35 v36 v37 = some _ ∧ Fr 138 (fS [0,6,3,4,5] [vS s,vB ((bat s 0) == 45),vS v35,vI v36,vI v37]) a' ∧ SH M X w [] w') ⟨_,z15.1,3,w64 (z15.2 + 1),hm,FrG.keep (ks:=[0,6,3,4,5]) H34 (by kernel_rfl),hS⟩ ?_
    clear hm H34 hS
    rintro kk _ _ ⟨v35,v36,v37,hm,H,hS⟩
    cases kk with
    | zero => exact noneE hm
    | succ kk =>
     rw [r02_Thousandths_L2] at hm
     apply w_seq
     obtain ⟨y38,hy38,hm⟩:=bindE hm
     refine s_reg [(vU y38),(vB (r02_Digit y38))] [0,3,4,5,6,44] (fS [0,3,4,5,6,44] [vS s,vS v35,vI v36,vI v37,vB ((bat s 0) == 45),vB (r02_Digit y38)]) [rB 116 [vS s,vI v37] (vU y38),rB 119 [vU y38] (vB (r02_Digit y38))] H (by kernel_rfl) ⟨((r02_At_ok _ _ _ hy38).b),((r02_Digit_ok _).b),trivial⟩ fun _ _ H40 hb => ?_
     replace hS:=hS.below hb
     refine w_if H40 rfl (fun hc => ?_) (fun hc => ?c49)
     case c49 =>
      replace hm:=bF hc hm
      apply w_exit rfl
      obtain rfl:=someE hm
      exact ⟨FrG.keep (ks:=[0,6,3,4,5]) H40 (by kernel_rfl),hS⟩
     replace hm:=bT hc hm
     apply w_skip
     apply w_seq
     apply w_block
     obtain ⟨ho41,hm⟩:=chkE hm
     obtain ⟨ho42,hm⟩:=chkE hm
     refine s_reg [] [0,3,4,5,6] (fS [0,3,4,5,6] [vS s,vS (v35 ++ (sub s v37 (w64 (v37 + 1)))),vI v36,vI v37,vB ((bat s 0) == 45)]) [fun _ => 0 ≤ v37 ∧ v37 ≤ (w64 (v37 + 1)) ∧ (w64 (v37 + 1)) ≤ ln s,fun _ => ln v35 + ln (sub s v37 (w64 (v37 + 1))) ≤ 9223372036854775807] H40 (by kernel_rfl) ⟨ho41,ho42,trivial⟩ fun _ _ H44 hb => ?_
     replace hS:=hS.below hb
     refine w_reg [] [0,3,4,5,6] (fS [0,3,4,5,6] [vS s,vS (v35 ++ (sub s v37 (w64 (v37 + 1)))),vI (w64 (v36 - 1)),vI v37,vB ((bat s 0) == 45)]) [] H44 (by kernel_rfl) trivial fun _ _ H46 hb => ?_
     replace hS:=hS.below hb
     refine w_reg [] [0,3,4,5,6] (fS [0,3,4,5,6] [vS s,vS (v35 ++ (sub s v37 (w64 (v37 + 1)))),vI (w64 (v36 - 1)),vI (w64 (v37 + 1)),vB ((bat s 0) == 45)]) [] H46 (by kernel_rfl) trivial fun _ _ H48 hb => ?_
     replace hS:=hS.below hb
     exact ⟨_,Nat.lt_succ_self _,v35 ++ (sub s v37 (w64 (v37 + 1))),w64 (v36 - 1),w64 (v37 + 1),hm,FrG.keep (ks:=[0,6,3,4,5]) H48 (by kernel_rfl),hS⟩
   ·rintro _ _ ⟨H,hS⟩
    obtain ⟨z52,hz,hm⟩:=bindE hm
    refine w_cut (fun a' w' => Fr 138 (fS [3,6,4] [vS z29.1,vB ((bat s 0) == 45),vI z52]) a' ∧ SH M X w [] w') ?_ ?_
    ·replace hm:=hz
     refine s_reg [] [0,3,4,5,6,59] (fS [0,3,4,5,6,59] [vS s,vS z29.1,vI z29.2.1,vI z29.2.2,vB ((bat s 0) == 45),vB (decide (z29.2.2 < (ln s)))]) [] H (by kernel_rfl) trivial fun _ _ H54 hb => ?_
     replace hS:=hS.below hb
     refine w_if H54 rfl (fun hc => ?_) (fun hc => ?c93)
     case c93 =>
      replace hm:=bF hc hm
      apply w_skip
      obtain rfl:=someE hm
      exact ⟨FrG.keep (ks:=[3,6,4]) H54 (by kernel_rfl),hS⟩
     replace hm:=bT hc hm
     refine s_reg [] [0,3,4,5,6] (fS [0,3,4,5,6] [vS s,vS z29.1,vI z29.2.1,vI (w64 (z29.2.2 + 1)),vB ((bat s 0) == 45)]) [] H54 (by kernel_rfl) trivial fun _ _ H56 hb => ?_
     replace hS:=hS.below hb
     obtain ⟨ho57,hm⟩:=chkE hm
     refine s_reg [] [0,3,4,5,6,7] (fS [0,3,4,5,6,7] [vS s,vS z29.1,vI z29.2.1,vI (w64 (z29.2.2 + 1)),vB ((bat s 0) == 45),vB ((bat s (w64 (z29.2.2 + 1))) == 45)]) [fun _ => 0 ≤ (w64 (z29.2.2 + 1)) ∧ (w64 (z29.2.2 + 1)) < ln s] H56 (by kernel_rfl) ⟨ho57,trivial⟩ fun _ _ H59 hb => ?_
     replace hS:=hS.below hb
     obtain ⟨z60,hz,hm⟩:=bindE hm
     refine w_cut (fun a' w' => Fr 138 (fS [0,3,4,6,7,5] [vS s,vS z29.1,vI z29.2.1,vB ((bat s 0) == 45),vB ((bat s (w64 (z29.2.2 + 1))) == 45),vI z60]) a' ∧ SH M X w [] w') ?_ ?_
     ·replace hm:=hz
      obtain ⟨x61,hx61,hm⟩:=letE hm
      refine s_reg [] [0,3,4,5,6,7,72] (fS [0,3,4,5,6,7,72] [vS s,vS z29.1,vI z29.2.1,vI (w64 (z29.2.2 + 1)),vB ((bat s 0) == 45),vB ((bat s (w64 (z29.2.2 + 1))) == 45),vB x61]) [fun _ => 0 ≤ (w64 (z29.2.2 + 1)) ∧ (w64 (z29.2.2 + 1)) < ln s] H59 (by subst hx61; kernel_rfl) ⟨ho57,trivial⟩ fun _ _ H63 hb => ?_
      replace hS:=hS.below hb
      refine w_if H63 rfl (fun hc => ?_) (fun hc => ?c66)
      case c66 =>
       replace hm:=bF hc hm
       apply w_skip
       obtain rfl:=someE hm
       exact ⟨FrG.keep (ks:=[0,3,4,6,7,5]) H63 (by kernel_rfl),hS⟩
      replace hm:=bT hc hm
      refine w_reg [] [0,3,4,5,6,7] (fS [0,3,4,5,6,7] [vS s,vS z29.1,vI z29.2.1,vI (w64 ((w64 (z29.2.2 + 1)) + 1)),vB ((bat s 0) == 45),vB ((bat s (w64 (z29.2.2 + 1))) == 45)]) [] H63 (by kernel_rfl) trivial fun _ _ H65 hb => ?_
      replace hS:=hS.below hb
      obtain rfl:=someE hm
      exact ⟨FrG.keep (ks:=[0,3,4,6,7,5]) H65 (by kernel_rfl),hS⟩
     ·rintro _ _ ⟨H,hS⟩
      refine s_reg [] [0,3,4,5,6,7,8] (fS [0,3,4,5,6,7,8] [vS s,vS z29.1,vI z29.2.1,vI z60,vB ((bat s 0) == 45),vB ((bat s (w64 (z29.2.2 + 1))) == 45),vI 0]) [] H (by kernel_rfl) trivial fun _ _ H68 hb => ?_
      replace hS:=hS.below hb
      obtain ⟨z69,hz,hm⟩:=bindE hm
      refine w_cut (fun a' w' => Fr 138 (fS [3,4,6,7,8] [vS z29.1,vI z29.2.1,vB ((bat s 0) == 45),vB ((bat s (w64 (z29.2.2 + 1))) == 45),vI z69]) a' ∧ SH M X w [] w') ?_ ?_
      ·replace hm:=hz
       apply w_block
       refine w_loop (fun kk a' w' => ∃ (v70 : Int) (v71 : Int),r02_Thousandths_L3 m s kk v70 v71 = some _ ∧ Fr 138 (fS [0,3,4,6,7,5,8] [vS s,vS z29.1,vI z29.2.1,vB ((bat s 0) == 45),vB ((bat s (w64 (z29.2.2 + 1))) == 45),vI v70,vI v71]) a' ∧ SH M X w [] w') ⟨_,z60,0,hm,FrG.keep (ks:=[0,3,4,6,7,5,8]) H68 (by kernel_rfl),hS⟩ ?_
       clear hm H68 hS
       rintro kk _ _ ⟨v70,v71,hm,H,hS⟩
       cases kk with
       | zero => exact noneE hm
       | succ kk =>
        rw [r02_Thousandths_L3] at hm
        apply w_seq
        refine s_reg [] [0,3,4,5,6,7,8,78] (fS [0,3,4,5,6,7,8,78] [vS s,vS z29.1,vI z29.2.1,vI v70,vB ((bat s 0) == 45),vB ((bat s (w64 (z29.2.2 + 1))) == 45),vI v71,vB (decide (v70 < (ln s)))]) [] H (by kernel_rfl) trivial fun _ _ H73 hb => ?_
        replace hS:=hS.below hb
        refine w_if H73 rfl (fun hc => ?_) (fun hc => ?c80)
        case c80 =>
         replace hm:=bF hc hm
         apply w_exit rfl
         obtain rfl:=someE hm
         exact ⟨FrG.keep (ks:=[3,4,6,7,8]) H73 (by kernel_rfl),hS⟩
        replace hm:=bT hc hm
        apply w_skip
        apply w_seq
        apply w_block
        obtain ⟨ho74,hm⟩:=chkE hm
        obtain ⟨x75,hx75,hm⟩:=letE hm
        refine w_reg [] [0,3,4,5,6,7,8] (fS [0,3,4,5,6,7,8] [vS s,vS z29.1,vI z29.2.1,vI v70,vB ((bat s 0) == 45),vB ((bat s (w64 (z29.2.2 + 1))) == 45),vI (if x75 < 10000 then x75 else 10000)]) [fun _ => 0 ≤ v70 ∧ v70 < ln s] H73 (by subst hx75; kernel_rfl) ⟨ho74,trivial⟩ fun _ _ H77 hb => ?_
        replace hS:=hS.below hb
        refine w_reg [] [0,3,4,5,6,7,8] (fS [0,3,4,5,6,7,8] [vS s,vS z29.1,vI z29.2.1,vI (w64 (v70 + 1)),vB ((bat s 0) == 45),vB ((bat s (w64 (z29.2.2 + 1))) == 45),vI (if x75 < 10000 then x75 else 10000)]) [] H77 (by kernel_rfl) trivial fun _ _ H79 hb => ?_
        replace hS:=hS.below hb
        exact ⟨_,Nat.lt_succ_self _,w64 (v70 + 1),if x75 < 10000 then x75 else 10000,hm,FrG.keep (ks:=[0,3,4,6,7,5,8]) H79 (by kernel_rfl),hS⟩
      ·rintro _ _ ⟨H,hS⟩
       obtain ⟨z82,hz,hm⟩:=bindE hm
       refine w_cut (fun a' w' => Fr 138 (fS [3,4,6,8] [vS z29.1,vI z29.2.1,vB ((bat s 0) == 45),vI z82]) a' ∧ SH M X w [] w') ?_ ?_
       ·replace hm:=hz
        refine s_reg [] [3,4,6,8,90] (fS [3,4,6,8,90] [vS z29.1,vI z29.2.1,vB ((bat s 0) == 45),vI z69,vB ((bat s (w64 (z29.2.2 + 1))) == 45)]) [] H (by kernel_rfl) trivial fun _ _ H84 hb => ?_
        replace hS:=hS.below hb
        refine w_if H84 rfl (fun hc => ?_) (fun hc => ?c87)
        case c87 =>
         replace hm:=bF hc hm
         apply w_skip
         obtain rfl:=someE hm
         exact ⟨FrG.keep (ks:=[3,4,6,8]) H84 (by kernel_rfl),hS⟩
        replace hm:=bT hc hm
        refine w_reg [] [3,4,6,8] (fS [3,4,6,8] [vS z29.1,vI z29.2.1,vB ((bat s 0) == 45),vI (w64 (0 - z69))]) [] H84 (by kernel_rfl) trivial fun _ _ H86 hb => ?_
        replace hS:=hS.below hb
        obtain rfl:=someE hm
        exact ⟨FrG.keep (ks:=[3,4,6,8]) H86 (by kernel_rfl),hS⟩
       ·rintro _ _ ⟨H,hS⟩
        refine w_reg [] [3,4,6] (fS [3,4,6] [vS z29.1,vI (w64 (z29.2.1 + z82)),vB ((bat s 0) == 45)]) [] H (by kernel_rfl) trivial fun _ _ H89 hb => ?_
        replace hS:=hS.below hb
        obtain rfl:=someE hm
        exact ⟨FrG.keep (ks:=[3,6,4]) H89 (by kernel_rfl),hS⟩
    ·rintro _ _ ⟨H,hS⟩
     refine s_reg [] [3,4,6,9] (fS [3,4,6,9] [vS z29.1,vI z52,vB ((bat s 0) == 45),vI 0]) [] H (by kernel_rfl) trivial fun _ _ H95 hb => ?_
     replace hS:=hS.below hb
     obtain ⟨z96,hz,hm⟩:=bindE hm
     refine w_cut (fun a' w' => Fr 138 (fS [4,6,9] [vI z52,vB ((bat s 0) == 45),vI z96]) a' ∧ SH M X w [] w') ?_ ?_
     ·replace hm:=hz
      refine s_reg [] [3,4,6,9,10] (fS [3,4,6,9,10] [vS z29.1,vI z52,vB ((bat s 0) == 45),vI 0,vI 0]) [] H95 (by kernel_rfl) trivial fun _ _ H98 hb => ?_
      replace hS:=hS.below hb
      apply w_block
      refine w_loop (fun kk a' w' => ∃ (v99 : Int) (v100 : Int),r02_Thousandths_L4 m z29 z52 kk v99 v100 = some _ ∧ Fr 138 (fS [3,4,6,9,10] [vS z29.1,vI z52,vB ((bat s 0) == 45),vI v99,vI v100]) a' ∧ SH M X w [] w') ⟨_,0,0,hm,FrG.keep (ks:=[3,4,6,9,10]) H98 (by kernel_rfl),hS⟩ ?_
      clear hm H98 hS
      rintro kk _ _ ⟨v99,v100,hm,H,hS⟩
      cases kk with
      | zero => exact noneE hm
      | succ kk =>
       rw [r02_Thousandths_L4] at hm
       apply w_seq
       obtain ⟨x101,hx101,hm⟩:=letE hm
       refine s_reg [] [3,4,6,9,10,107] (fS [3,4,6,9,10,107] [vS z29.1,vI z52,vB ((bat s 0) == 45),vI v99,vI v100,vB x101]) [] H (by subst hx101; kernel_rfl) trivial fun _ _ H103 hb => ?_
       replace hS:=hS.below hb
       refine w_if H103 rfl (fun hc => ?_) (fun hc => ?c111)
       case c111 =>
        replace hm:=bF hc hm
        apply w_exit rfl
        obtain rfl:=someE hm
        exact ⟨FrG.keep (ks:=[4,6,9]) H103 (by kernel_rfl),hS⟩
       replace hm:=bT hc hm
       apply w_skip
       apply w_seq
       apply w_block
       obtain ⟨ho104,hm⟩:=chkE hm
       obtain ⟨x105,hx105,hm⟩:=letE hm
       obtain ⟨x106,hx106,hm⟩:=letE hm
       refine w_reg [] [3,4,6,9,10] (fS [3,4,6,9,10] [vS z29.1,vI z52,vB ((bat s 0) == 45),vI x106,vI v100]) [fun _ => 0 ≤ v100 ∧ v100 < ln z29.1] H103 (by subst hx105 hx106; kernel_rfl) ⟨ho104,trivial⟩ fun _ _ H108 hb => ?_
       replace hS:=hS.below hb
       refine w_reg [] [3,4,6,9,10] (fS [3,4,6,9,10] [vS z29.1,vI z52,vB ((bat s 0) == 45),vI x106,vI (w64 (v100 + 1))]) [] H108 (by kernel_rfl) trivial fun _ _ H110 hb => ?_
       replace hS:=hS.below hb
       exact ⟨_,Nat.lt_succ_self _,x106,w64 (v100 + 1),hm,FrG.keep (ks:=[3,4,6,9,10]) H110 (by kernel_rfl),hS⟩
     ·rintro _ _ ⟨H,hS⟩
      obtain ⟨z113,hz,hm⟩:=bindE hm
      refine w_cut (fun a' w' => Fr 138 (fS [6,9] [vB ((bat s 0) == 45),vI z113]) a' ∧ SH M X w [] w') ?_ ?_
      ·replace hm:=hz
       apply w_block
       refine w_loop (fun kk a' w' => ∃ (v114 : Int) (v115 : Int),r02_Thousandths_L5 m  kk v114 v115 = some _ ∧ Fr 138 (fS [6,4,9] [vB ((bat s 0) == 45),vI v114,vI v115]) a' ∧ SH M X w [] w') ⟨_,z52,z96,hm,FrG.keep (ks:=[6,4,9]) H (by kernel_rfl),hS⟩ ?_
       clear hm H hS
       rintro kk _ _ ⟨v114,v115,hm,H,hS⟩
       cases kk with
       | zero => exact noneE hm
       | succ kk =>
        rw [r02_Thousandths_L5] at hm
        apply w_seq
        obtain ⟨x116,hx116,hm⟩:=letE hm
        obtain ⟨x117,hx117,hm⟩:=letE hm
        refine s_reg [] [4,6,9,128] (fS [4,6,9,128] [vI v114,vB ((bat s 0) == 45),vI v115,vB x117]) [] H (by subst hx116 hx117; kernel_rfl) trivial fun _ _ H119 hb => ?_
        replace hS:=hS.below hb
        refine w_if H119 rfl (fun hc => ?_) (fun hc => ?c125)
        case c125 =>
         replace hm:=bF hc hm
         apply w_exit rfl
         obtain rfl:=someE hm
         exact ⟨FrG.keep (ks:=[6,9]) H119 (by kernel_rfl),hS⟩
        replace hm:=bT hc hm
        apply w_skip
        apply w_seq
        apply w_block
        obtain ⟨x120,hx120,hm⟩:=letE hm
        refine w_reg [] [4,6,9] (fS [4,6,9] [vI v114,vB ((bat s 0) == 45),vI x120]) [] H119 (by subst hx120; kernel_rfl) trivial fun _ _ H122 hb => ?_
        replace hS:=hS.below hb
        refine w_reg [] [4,6,9] (fS [4,6,9] [vI (w64 (v114 - 1)),vB ((bat s 0) == 45),vI x120]) [] H122 (by kernel_rfl) trivial fun _ _ H124 hb => ?_
        replace hS:=hS.below hb
        exact ⟨_,Nat.lt_succ_self _,w64 (v114 - 1),x120,hm,FrG.keep (ks:=[6,4,9]) H124 (by kernel_rfl),hS⟩
      ·rintro _ _ ⟨H,hS⟩
       apply w_seq
       refine s_reg [] [9,134] (fS [9,134] [vI z113,vB ((bat s 0) == 45)]) [] H (by kernel_rfl) trivial fun _ _ H128 hb => ?_
       replace hS:=hS.below hb
       refine w_if H128 rfl (fun hc => ?c133) (fun hc => ?_)
       case c133 =>
        replace hm:=bT hc hm
        refine s_reg [] [2] [(2,[],vI (w64 (0 - z113)))] [] H128 (by kernel_rfl) trivial fun _ _ H130 hb => ?_
        replace hS:=hS.below hb
        apply w_ret
        obtain rfl:=someE hm
        exact retR1 H130 rfl rfl ⟨_,rfl,rfl,(hS.sel [] rfl)⟩
       replace hm:=bF hc hm
       apply w_skip
       refine s_reg [] [2] [(2,[],vI z113)] [] H128 (by kernel_rfl) trivial fun _ _ H132 hb => ?_
       replace hS:=hS.below hb
       apply w_ret
       obtain rfl:=someE hm
       exact retR1 H132 rfl rfl ⟨_,rfl,rfl,(hS.sel [] rfl)⟩
theorem r02_Thousandths_ok  (m : Nat) (s : Str) (r : Int) (hm : r02_Thousandths m s = some r) : Ret Tryz.prog 121 ⟨[vS s]⟩ (vI r):=retP_of (Tryz.call121 _) (fun w h => r02_Thousandths_w F0 m   s r hm w h)

theorem r02_numeric_w  (M : Av) (m : Nat) (s : Str) (i : Int) (r : TToken × Int) (hm : r02_numeric m s i = some r) (w : World) (hS : S0 M [] w) : Calls Tryz.prog 111 ⟨[vS s,vI i]⟩ w (fun e w' => ∃ v,e = .returned v ∧ v = vW [vG (cT r.1),vI r.2] ∧ SH M (fpl []) w [] w'):=by
 rw [r02_numeric] at hm
 have hS0 : SH M (fpl []) w [] w:=hS
 generalize hX : fpl [] = X at hS0 ⊢
 clear hS hX
 have hS:=hS0
 clear hS0
 refine calls_entryP Tryz.func111 rfl Tryz.ntmps111 rfl fun _ H => ?_
 apply w_seq
 apply wl_start
 have hd:=hS.hand [] [] rfl rfl
 refine m_stp [4,0,1] (fS [0,1] [vS s,vI i]) H rfl rfl rfl rfl (o_alloc [vU 0,vN,vI 0,vN,vF] (z:=vG [vU 0,vN,vI 0,vN,vF]) hd (by kernel_rfl) rfl) (fun _ => rfl) fun _ _ v H3 hq => ?_
 obtain ⟨b1,rfl,hq⟩:=hq
 replace hS : SH M X w [eB b1 [vU 0,vN,vI 0,vN,vF]] _:=hS.join [] [] rfl rfl hq
 refine wl_batch 1 2 [] [0,1,4] (fS [0,1,4] [vS s,vI i,vP b1]) [] H3 (by decide) (by kernel_rfl) trivial fun _ _ H5 hb => ?_
 replace hS:=hS.below hb
 apply wl_end rfl
 obtain ⟨y6,hy6,hm⟩:=bindE hm
 refine s_reg [(vW [vI y6.1,vB y6.2])] [0,1,4,6,7] (fS [0,1,4,6,7] [vS s,vI i,vP b1,vI y6.1,vB y6.2]) [rB 120 [vS s,vI i] (vW [vI y6.1,vB y6.2])] H5 (by kernel_rfl) ⟨((r02_NumberEnd_ok m _ _ _ hy6).b),trivial⟩ fun _ _ H8 hb => ?_
 replace hS:=hS.below hb
 apply w_seq
 apply wl_start
 obtain ⟨ho9,hm⟩:=chkE hm
 obtain ⟨y10,hy10,hm⟩:=bindE hm
 refine wl_batch 0 7 [(vI y10)] [0,4,6,21] (fS [0,4,6,21] [vS s,vP b1,vI y6.1,vG [vU 10,vN,vI y10,vN,vB y6.2]]) [fun _ => 0 ≤ i ∧ i ≤ y6.1 ∧ y6.1 ≤ ln s,rB 121 [vS (sub s i y6.1)] (vI y10)] H8 (by decide) (by kernel_rfl) ⟨ho9,((r02_Thousandths_ok m _ _ hy10).b),trivial⟩ fun _ _ H12 hb => ?_
 replace hS:=hS.below hb
 have hd:=hS.hand [] [0] rfl rfl
 refine m_stp [8,0,4,6,21] (fS [0,4,6,21] [vS s,vP b1,vI y6.1,vG [vU 10,vN,vI y10,vN,vB y6.2]]) H12 rfl rfl rfl rfl (o_alloc [vU 0,vN,vI 0,vN,vF] (z:=vG [vU 0,vN,vI 0,vN,vF]) hd (by kernel_rfl) rfl) (fun _ => rfl) fun _ _ v H15 hq => ?_
 obtain ⟨b13,rfl,hq⟩:=hq
 replace hS : SH M X w [eB b13 [vU 0,vN,vI 0,vN,vF],eB b1 [vU 0,vN,vI 0,vN,vF]] _:=hS.join [] [0] rfl rfl hq
 have hd:=hS.hand [0] [1] rfl rfl
 refine m_stp0 [0,4,6,8] (fS [0,4,6,8] [vS s,vP b1,vI y6.1,vP b13]) H15 rfl rfl rfl (o_store [vU 10,vN,vI y10,vN,vB y6.2] H15 hd rfl rfl (by kernel_rfl) rfl rfl rfl) rfl fun _ _ H17 hq => ?_
 obtain ⟨_,hq⟩:=hq
 replace hS : SH M X w [eB b13 [vU 10,vN,vI y10,vN,vB y6.2],eB b1 [vU 0,vN,vI 0,vN,vF]] _:=hS.join [0] [1] rfl rfl hq
 apply wl_end rfl
 obtain ⟨z18,hz,hm⟩:=bindE hm
 refine w_cut (fun a' w' => Fr 43 (fS [4,8,6] [vP b1,vP b13,vI z18.1]) a' ∧ SH M X w [eB b13 [vU z18.2.1,vN,vI y10,vS z18.2.2.1,vB z18.2.2.2],eB b1 [vU 0,vN,vI 0,vN,vF]] w') ?_ ?_
 ·replace hm:=hz
  obtain ⟨y19,hy19,hm⟩:=bindE hm
  refine s_reg [(vB y19)] [0,4,6,8,24] (fS [0,4,6,8,24] [vS s,vP b1,vI y6.1,vP b13,vB y19]) [rB 109 [vS s,vI y6.1] (vB y19)] H17 (by kernel_rfl) ⟨((r02_NameAt_ok _ _ _ hy19).b),trivial⟩ fun _ _ H21 hb => ?_
  replace hS:=hS.below hb
  refine w_if H21 rfl (fun hc => ?c47) (fun hc => ?_)
  case c47 =>
   replace hm:=bT hc hm
   apply w_seq
   apply wl_start
   refine wl_batch 0 1 [] [0,4,6,8,25] (fS [0,4,6,8,25] [vS s,vP b1,vI y6.1,vP b13,vP b13]) [] H21 (by decide) (by kernel_rfl) trivial fun _ _ H23 hb => ?_
   replace hS:=hS.below hb
   have hd:=hS.hand [0] [1] rfl rfl
   refine m_stp0 [0,4,6,8] (fS [0,4,6,8] [vS s,vP b1,vI y6.1,vP b13]) H23 rfl rfl rfl (o_store [vU 12,vN,vI y10,vN,vB y6.2] H23 hd rfl rfl (by kernel_rfl) rfl rfl rfl) rfl fun _ _ H25 hq => ?_
   obtain ⟨_,hq⟩:=hq
   replace hS : SH M X w [eB b13 [vU 12,vN,vI y10,vN,vB y6.2],eB b1 [vU 0,vN,vI 0,vN,vF]] _:=hS.join [0] [1] rfl rfl hq
   apply wl_end rfl
   apply wl_start
   obtain ⟨y26,hy26,hm⟩:=bindE hm
   refine wl_batch 0 7 [(vW [vS y26.1,vI y26.2])] [4,8,30,31,32] (fS [4,8,30,31,32] [vP b1,vP b13,vS y26.1,vI y26.2,vA b13 3]) [rB 108 [vS s,vI y6.1] (vW [vS y26.1,vI y26.2])] H25 (by decide) (by kernel_rfl) ⟨((r02_Named_ok m _ _ _ hy26).b),trivial⟩ fun _ _ H28 hb => ?_
   replace hS:=hS.below hb
   have hd:=hS.hand [0] [1] rfl rfl
   refine m_stp0 [4,8,31] (fS [4,8,31] [vP b1,vP b13,vI y26.2]) H28 rfl rfl rfl (o_store [vU 12,vN,vI y10,vS y26.1,vB y6.2] H28 hd rfl rfl (by kernel_rfl) rfl rfl rfl) rfl fun _ _ H30 hq => ?_
   obtain ⟨_,hq⟩:=hq
   replace hS : SH M X w [eB b13 [vU 12,vN,vI y10,vS y26.1,vB y6.2],eB b1 [vU 0,vN,vI 0,vN,vF]] _:=hS.join [0] [1] rfl rfl hq
   refine wl_batch 8 9 [] [4,6,8] (fS [4,6,8] [vP b1,vI y26.2,vP b13]) [] H30 (by decide) (by kernel_rfl) trivial fun _ _ H32 hb => ?_
   replace hS:=hS.below hb
   apply wl_end rfl
   obtain rfl:=someE hm
   exact ⟨FrG.keep (ks:=[4,8,6]) H32 (by kernel_rfl),hS⟩
  replace hm:=bF hc hm
  obtain ⟨y33,hy33,hm⟩:=bindE hm
  refine s_reg [(vU y33)] [4,6,8,36] (fS [4,6,8,36] [vP b1,vI y6.1,vP b13,vB (y33 == 37)]) [rB 116 [vS s,vI y6.1] (vU y33)] H21 (by kernel_rfl) ⟨((r02_At_ok _ _ _ hy33).b),trivial⟩ fun _ _ H35 hb => ?_
  replace hS:=hS.below hb
  refine w_if H35 rfl (fun hc => ?_) (fun hc => ?c46)
  case c46 =>
   replace hm:=bF hc hm
   apply w_skip
   obtain rfl:=someE hm
   exact ⟨FrG.keep (ks:=[4,8,6]) H35 (by kernel_rfl),hS⟩
  replace hm:=bT hc hm
  apply w_seq
  apply wl_start
  refine wl_batch 0 1 [] [4,6,8,37] (fS [4,6,8,37] [vP b1,vI y6.1,vP b13,vP b13]) [] H35 (by decide) (by kernel_rfl) trivial fun _ _ H37 hb => ?_
  replace hS:=hS.below hb
  have hd:=hS.hand [0] [1] rfl rfl
  refine m_stp0 [4,6,8] (fS [4,6,8] [vP b1,vI y6.1,vP b13]) H37 rfl rfl rfl (o_store [vU 11,vN,vI y10,vN,vB y6.2] H37 hd rfl rfl (by kernel_rfl) rfl rfl rfl) rfl fun _ _ H39 hq => ?_
  obtain ⟨_,hq⟩:=hq
  replace hS : SH M X w [eB b13 [vU 11,vN,vI y10,vN,vB y6.2],eB b1 [vU 0,vN,vI 0,vN,vF]] _:=hS.join [0] [1] rfl rfl hq
  refine wl_batch 2 3 [] [4,6,8,38] (fS [4,6,8,38] [vP b1,vI y6.1,vP b13,vA b13 4]) [] H39 (by decide) (by kernel_rfl) trivial fun _ _ H41 hb => ?_
  replace hS:=hS.below hb
  have hd:=hS.hand [0] [1] rfl rfl
  refine m_stp0 [4,6,8] (fS [4,6,8] [vP b1,vI y6.1,vP b13]) H41 rfl rfl rfl (o_store [vU 11,vN,vI y10,vN,vF] H41 hd rfl rfl (by kernel_rfl) rfl rfl rfl) rfl fun _ _ H43 hq => ?_
  obtain ⟨_,hq⟩:=hq
  replace hS : SH M X w [eB b13 [vU 11,vN,vI y10,vN,vF],eB b1 [vU 0,vN,vI 0,vN,vF]] _:=hS.join [0] [1] rfl rfl hq
  apply wl_end rfl
  refine w_reg [] [4,6,8] (fS [4,6,8] [vP b1,vI (w64 (y6.1 + 1)),vP b13]) [] H43 (by kernel_rfl) trivial fun _ _ H45 hb => ?_
  replace hS:=hS.below hb
  obtain rfl:=someE hm
  exact ⟨FrG.keep (ks:=[4,8,6]) H45 (by kernel_rfl),hS⟩
 ·rintro _ _ ⟨H,hS⟩
  apply w_seq
  apply wl_start
  refine wl_batch 0 2 [(vG [vU z18.2.1,vN,vI y10,vS z18.2.2.1,vB z18.2.2.2])] [4,41,42] (fS [4,41,42] [vP b1,vG [vU z18.2.1,vN,vI y10,vS z18.2.2.1,vB z18.2.2.2],vI z18.1]) [rN b13 0 [vU z18.2.1,vN,vI y10,vS z18.2.2.1,vB z18.2.2.2]] H (by decide) (by kernel_rfl) ⟨((hS.bk 0 rfl).atD rfl),trivial⟩ fun _ _ H49 hb => ?_
  replace hS:=hS.below hb
  have hd:=hS.hand [1] [0] rfl rfl
  refine m_stp0 [4,42] (fS [4,42] [vP b1,vI z18.1]) H49 rfl rfl rfl (o_store [vU z18.2.1,vN,vI y10,vS z18.2.2.1,vB z18.2.2.2] H49 hd rfl rfl (by kernel_rfl) rfl rfl rfl) rfl fun _ _ H51 hq => ?_
  obtain ⟨_,hq⟩:=hq
  replace hS : SH M X w [eB b1 [vU z18.2.1,vN,vI y10,vS z18.2.2.1,vB z18.2.2.2],eB b13 [vU z18.2.1,vN,vI y10,vS z18.2.2.1,vB z18.2.2.2]] _:=hS.join [1] [0] rfl rfl hq
  refine wl_batch 3 4 [] [4,5] (fS [4,5] [vP b1,vI z18.1]) [] H51 (by decide) (by kernel_rfl) trivial fun _ _ H53 hb => ?_
  replace hS:=hS.below hb
  apply wl_end rfl
  replace hS : SH M X w [eB b1 [vU z18.2.1,vN,vI y10,vS z18.2.2.1,vB z18.2.2.2]] _:=hS.sel [0] rfl
  apply w_ret
  obtain rfl:=someE hm
  exact retR2 H53 rfl (oneRes_agg rfl (hS.bk 0 rfl) Tryz.underlying61 rfl (by kernel_rfl)) rfl ⟨_,rfl,rfl,(hS.sel [] rfl)⟩
theorem r02_numeric_ok  (m : Nat) (s : Str) (i : Int) (r : TToken × Int) (hm : r02_numeric m s i = some r) : Ret Tryz.prog 111 ⟨[vS s,vI i]⟩ (vW [vG (cT r.1),vI r.2]):=retP_of (Tryz.call111 _) (fun w h => r02_numeric_w F0 m   s i r hm w h)

theorem r01_Lower_w  (M : Av) (m : Nat) (s : Str) (r : Str) (hm : r01_Lower m s = some r) (w : World) (hS : S0 M [] w) : Calls Tryz.prog 129 ⟨[vS s]⟩ w (fun e w' => ∃ v,e = .returned v ∧ v = vS r ∧ SH M (fpl []) w [] w'):=by
 rw [r01_Lower] at hm
 have hS0 : SH M (fpl []) w [] w:=hS
 generalize hX : fpl [] = X at hS0 ⊢
 clear hS hX
 have hS:=hS0
 clear hS0
 refine calls_entryP Tryz.func129 rfl Tryz.ntmps129 rfl fun _ H => ?_
 refine s_reg [] [0] [(0,[],vS s)] [] H (by kernel_rfl) trivial fun _ _ H2 hb => ?_
 replace hS:=hS.below hb
 apply w_seq
 apply wl_start
 refine wl_batch 0 1 [] [5] [(5,[],vS s)] [] H2 (by decide) (by kernel_rfl) trivial fun _ _ H4 hb => ?_
 replace hS:=hS.below hb
 have hd:=hS.hand [] [] rfl rfl
 refine m_stp [6] [] H4 rfl rfl rfl rfl (o_bytes (E:=5) H4 hd rfl (by kernel_rfl) (by kernel_rfl) (by kernel_rfl)) (fun _ => rfl) fun _ _ v H8 hq => ?_
 obtain ⟨b5,c6,rfl,hc_b5,hq⟩:=hq
 replace hS : SH M X w [Ent.row .u8 b5 (ofB s) (ln (ofB s))] _:=hS.join [] [] rfl rfl hq
 refine wl_batch 2 3 [] [3] [(3,[],.slice (some ⟨b5,0,none⟩) ((ofB s).length) c6)] [] H8 (by decide) (by kernel_rfl) trivial fun _ _ H10 hb => ?_
 replace hS:=hS.below hb
 apply wl_end rfl
 obtain ⟨z11,hz,hm⟩:=bindE hm
 refine w_cut (fun a' w' => Fr 23 [(3,[],.slice (some ⟨b5,0,none⟩) ((ofB s).length) c6)] a' ∧ SH M X w [Ent.row .u8 b5 z11 (ln (ofB s))] w') ?_ ?_
 ·replace hm:=hz
  refine s_reg [] [3,4] (fS [3,4] [.slice (some ⟨b5,0,none⟩) ((ofB s).length) c6,vI 0]) [] H10 (by kernel_rfl) trivial fun _ _ H13 hb => ?_
  replace hS:=hS.below hb
  apply w_block
  refine w_loop (fun kk a' w' => ∃ (v14 : Int) (v15 : List Int),r01_Lower_L1 m s kk v14 v15 = some _ ∧ Fr 23 (fS [3,4] [.slice (some ⟨b5,0,none⟩) ((ofB s).length) c6,vI v14]) a' ∧ SH M X w [Ent.row .u8 b5 v15 (ln (ofB s))] w') ⟨_,0,ofB s,hm,FrG.keep (ks:=[3,4]) H13 (by kernel_rfl),hS⟩ ?_
  clear hm H13 hS
  rintro kk _ _ ⟨v14,v15,hm,H,hS⟩
  cases kk with
  | zero => exact noneE hm
  | succ kk =>
   rw [r01_Lower_L1] at hm
   apply w_seq
   refine s_reg [] [3,4,10] (fS [3,4,10] [.slice (some ⟨b5,0,none⟩) ((ofB s).length) c6,vI v14,vB (decide (v14 < (ln (ofB s))))]) [] H (by kernel_rfl) trivial fun _ _ H17 hb => ?_
   replace hS:=hS.below hb
   refine w_if H17 rfl (fun hc => ?_) (fun hc => ?c26)
   case c26 =>
    replace hm:=bF hc hm
    apply w_exit rfl
    obtain rfl:=someE hm
    exact ⟨FrG.keep (ks:=[3]) H17 (by kernel_rfl),hS⟩
   replace hm:=bT hc hm
   apply w_skip
   apply w_seq
   apply w_block
   apply wl_start
   obtain ⟨ho18,hm⟩:=chkE hm
   refine wl_batch 0 8 [(vU (gi v15 v14)),(vU (r01_Small (gi v15 v14)))] [3,4,19,20] (fS [3,4,19,20] [.slice (some ⟨b5,0,none⟩) ((ofB s).length) c6,vI v14,vU (r01_Small (gi v15 v14)),.pointer (some ⟨b5,0 + (v14).toNat * 1,none⟩)]) [fun _ => oka (some ⟨b5,0,none⟩) ∧ 0 ≤ v14 ∧ v14 < ln (ofB s),fun wz => V.at1 ⟨b5,0 + (v14).toNat * 1,none⟩ (vU (gi v15 v14)) wz,rB 127 [vU (gi v15 v14)] (vU (r01_Small (gi v15 v14))),fun _ => oka (some ⟨b5,0,none⟩) ∧ 0 ≤ v14 ∧ v14 < ln (ofB s)] H17 (by decide) (by kernel_rfl) ⟨(⟨rfl,ho18⟩),(Rw.ixn (hS.rw 0 rfl) ho18),((r01_Small_ok _).b),(⟨rfl,ho18⟩),trivial⟩ fun _ _ H20 hb => ?_
   replace hS:=hS.below hb
   have hd:=hS.hand [0] [] rfl rfl
   refine m_stp0 [3,4] (fS [3,4] [.slice (some ⟨b5,0,none⟩) ((ofB s).length) c6,vI v14]) H20 rfl rfl rfl (o_rstore H20 hd rfl rfl (by kernel_rfl) ho18) rfl fun _ _ H22 hq => ?_
   obtain ⟨_,hq⟩:=hq
   obtain ⟨q23,hq23,hm⟩:=letE hm
   rw [← hq23] at hq
   replace hS : SH M X w [Ent.row .u8 b5 q23 (ln (ofB s))] _:=hS.join [0] [] rfl rfl hq
   apply wl_end rfl
   refine w_reg [] [3,4] (fS [3,4] [.slice (some ⟨b5,0,none⟩) ((ofB s).length) c6,vI (w64 (v14 + 1))]) [] H22 (by kernel_rfl) trivial fun _ _ H25 hb => ?_
   replace hS:=hS.below hb
   exact ⟨_,Nat.lt_succ_self _,w64 (v14 + 1),q23,hm,FrG.keep (ks:=[3,4]) H25 (by kernel_rfl),hS⟩
 ·rintro _ _ ⟨H,hS⟩
  refine s_reg [(vS (toB z11))] [2] [(2,[],vS (toB z11))] [fun wz => ∀ w',Below wz.heap.size wz w' → (convert 75 9 (.slice (some ⟨b5,0,none⟩) ((ofB s).length) c6)).run Tryz.prog w' = .ok (vS (toB z11)) w'] H (by kernel_rfl) ⟨(conv_row (E:=5) (by kernel_rfl) (by kernel_rfl) (by kernel_rfl) (hS.rw 0 rfl).1 (hS.rw 0 rfl).2),trivial⟩ fun _ _ H29 hb => ?_
  replace hS:=hS.below hb
  replace hS : SH M X w [] _:=hS.sel [] rfl
  apply w_ret
  obtain rfl:=someE hm
  exact retR1 H29 rfl rfl ⟨_,rfl,rfl,(hS.sel [] rfl)⟩
theorem r01_Lower_ok  (m : Nat) (s : Str) (r : Str) (hm : r01_Lower m s = some r) : Ret Tryz.prog 129 ⟨[vS s]⟩ (vS r):=retP_of (Tryz.call129 _) (fun w h => r01_Lower_w F0 m   s r hm w h)

theorem r01_Alike_w  (M : Av) (m : Nat) (a_ : Str) (b_ : Str) (r : Bool) (hm : r01_Alike m a_ b_ = some r) (w : World) (hS : S0 M [] w) : Calls Tryz.prog 122 ⟨[vS a_,vS b_]⟩ w (fun e w' => ∃ v,e = .returned v ∧ v = vB r ∧ SH M (fpl []) w [] w'):=by
 rw [r01_Alike] at hm
 have hS0 : SH M (fpl []) w [] w:=hS
 generalize hX : fpl [] = X at hS0 ⊢
 clear hS hX
 have hS:=hS0
 clear hS0
 refine calls_entryP Tryz.func122 rfl Tryz.ntmps122 rfl fun _ H => ?_
 refine s_reg [] [0,1] (fS [0,1] [vS a_,vS b_]) [] H (by kernel_rfl) trivial fun _ _ H2 hb => ?_
 replace hS:=hS.below hb
 obtain ⟨y3,hy3,hm⟩:=bindE hm
 obtain ⟨y4,hy4,hm⟩:=bindE hm
 refine s_reg [(vS y3),(vS y4)] [4] [(4,[],vB (y3 == y4))] [rB 129 [vS a_] (vS y3),rB 129 [vS b_] (vS y4)] H2 (by kernel_rfl) ⟨((r01_Lower_ok m _ _ hy3).b),((r01_Lower_ok m _ _ hy4).b),trivial⟩ fun _ _ H6 hb => ?_
 replace hS:=hS.below hb
 apply w_ret
 obtain rfl:=someE hm
 exact retR1 H6 rfl rfl ⟨_,rfl,rfl,(hS.sel [] rfl)⟩
theorem r01_Alike_ok  (m : Nat) (a_ : Str) (b_ : Str) (r : Bool) (hm : r01_Alike m a_ b_ = some r) : Ret Tryz.prog 122 ⟨[vS a_,vS b_]⟩ (vB r):=retP_of (Tryz.call122 _) (fun w h => r01_Alike_w F0 m   a_ b_ r hm w h)

theorem r02_bad_w  (M : Av) (m : Nat) (s : Str) (i : Int) (r : TToken × Int) (hm : r02_bad m s i = some r) (w : World) (hS : S0 M [] w) : Calls Tryz.prog 130 ⟨[vS s,vI i]⟩ w (fun e w' => ∃ v,e = .returned v ∧ v = vW [vG (cT r.1),vI r.2] ∧ SH M (fpl []) w [] w'):=by
 rw [r02_bad] at hm
 have hS0 : SH M (fpl []) w [] w:=hS
 generalize hX : fpl [] = X at hS0 ⊢
 clear hS hX
 have hS:=hS0
 clear hS0
 refine calls_entryP Tryz.func130 rfl Tryz.ntmps130 rfl fun _ H => ?_
 apply w_seq
 apply wl_start
 have hd:=hS.hand [] [] rfl rfl
 refine m_stp [4,0,1] (fS [0,1] [vS s,vI i]) H rfl rfl rfl rfl (o_alloc [vU 0,vN,vI 0,vN,vF] (z:=vG [vU 0,vN,vI 0,vN,vF]) hd (by kernel_rfl) rfl) (fun _ => rfl) fun _ _ v H3 hq => ?_
 obtain ⟨b1,rfl,hq⟩:=hq
 replace hS : SH M X w [eB b1 [vU 0,vN,vI 0,vN,vF]] _:=hS.join [] [] rfl rfl hq
 refine wl_batch 1 2 [] [0,1,4] (fS [0,1,4] [vS s,vI i,vP b1]) [] H3 (by decide) (by kernel_rfl) trivial fun _ _ H5 hb => ?_
 replace hS:=hS.below hb
 apply wl_end rfl
 obtain ⟨z6,hz,hm⟩:=bindE hm
 refine w_cut (fun a' w' => Fr 33 (fS [0,4,1] [vS s,vP b1,vI z6]) a' ∧ SH M X w [eB b1 [vU 0,vN,vI 0,vN,vF]] w') ?_ ?_
 ·replace hm:=hz
  apply w_block
  refine w_loop (fun kk a' w' => ∃ (v7 : Int),r02_bad_L1 m s kk v7 = some _ ∧ Fr 33 (fS [0,4,1] [vS s,vP b1,vI v7]) a' ∧ SH M X w [eB b1 [vU 0,vN,vI 0,vN,vF]] w') ⟨_,i,hm,FrG.keep (ks:=[0,4,1]) H5 (by kernel_rfl),hS⟩ ?_
  clear hm H5 hS
  rintro kk _ _ ⟨v7,hm,H,hS⟩
  cases kk with
  | zero => exact noneE hm
  | succ kk =>
   rw [r02_bad_L1] at hm
   apply w_seq
   obtain ⟨ho8,hm⟩:=chkE hm
   obtain ⟨x9,hx9,hm⟩:=letE hm
   refine s_reg [] [0,1,4,15] (fS [0,1,4,15] [vS s,vI v7,vP b1,vB x9]) [fun _ => ((decide (v7 < (ln s))) = true ∧ True → 0 ≤ v7 ∧ v7 < ln s)] H (by subst hx9; kernel_rfl) ⟨fun hg => (ho8 hg.1),trivial⟩ fun _ _ H11 hb => ?_
   replace hS:=hS.below hb
   refine w_if H11 rfl (fun hc => ?_) (fun hc => ?c21)
   case c21 =>
    replace hm:=bF hc hm
    apply w_exit rfl
    obtain rfl:=someE hm
    exact ⟨FrG.keep (ks:=[0,4,1]) H11 (by kernel_rfl),hS⟩
   replace hm:=bT hc hm
   apply w_skip
   apply w_block
   obtain ⟨y12,hy12,hm⟩:=bindE hm
   refine s_reg [(vB y12)] [0,1,4,18] (fS [0,1,4,18] [vS s,vI v7,vP b1,vB y12]) [rB 107 [vS s,vI v7] (vB y12)] H11 (by kernel_rfl) ⟨((r02_Escape_ok _ _ _ hy12).b),trivial⟩ fun _ _ H14 hb => ?_
   replace hS:=hS.below hb
   refine w_if H14 rfl (fun hc => ?_) (fun hc => ?c20)
   case c20 =>
    replace hm:=bF hc hm
    refine w_reg [] [0,1,4] (fS [0,1,4] [vS s,vI (w64 (v7 + 1)),vP b1]) [] H14 (by kernel_rfl) trivial fun _ _ H19 hb => ?_
    replace hS:=hS.below hb
    exact ⟨_,Nat.lt_succ_self _,w64 (v7 + 1),hm,FrG.keep (ks:=[0,4,1]) H19 (by kernel_rfl),hS⟩
   replace hm:=bT hc hm
   obtain ⟨y15,hy15,hm⟩:=bindE hm
   refine w_reg [(vW [vS y15.1,vI y15.2])] [0,1,4] (fS [0,1,4] [vS s,vI y15.2,vP b1]) [rB 117 [vS s,vI v7] (vW [vS y15.1,vI y15.2])] H14 (by kernel_rfl) ⟨((r02_Escaped_ok m _ _ _ hy15).b),trivial⟩ fun _ _ H17 hb => ?_
   replace hS:=hS.below hb
   exact ⟨_,Nat.lt_succ_self _,y15.2,hm,FrG.keep (ks:=[0,4,1]) H17 (by kernel_rfl),hS⟩
 ·rintro _ _ ⟨H,hS⟩
  apply w_seq
  apply wl_start
  obtain ⟨x23,hx23,hm⟩:=letE hm
  refine wl_batch 0 6 [] [4,27,32] (fS [4,27,32] [vP b1,vG [vU 8,vN,vI 0,vN,vF],vI x23]) [] H (by decide) (by subst hx23; kernel_rfl) trivial fun _ _ H25 hb => ?_
  replace hS:=hS.below hb
  have hd:=hS.hand [0] [] rfl rfl
  refine m_stp0 [4,32] (fS [4,32] [vP b1,vI x23]) H25 rfl rfl rfl (o_store [vU 8,vN,vI 0,vN,vF] H25 hd rfl rfl (by kernel_rfl) rfl rfl rfl) rfl fun _ _ H27 hq => ?_
  obtain ⟨_,hq⟩:=hq
  replace hS : SH M X w [eB b1 [vU 8,vN,vI 0,vN,vF]] _:=hS.join [0] [] rfl rfl hq
  refine wl_batch 7 8 [] [4,5] (fS [4,5] [vP b1,vI x23]) [] H27 (by decide) (by kernel_rfl) trivial fun _ _ H29 hb => ?_
  replace hS:=hS.below hb
  apply wl_end rfl
  apply w_ret
  obtain rfl:=someE hm
  exact retR2 H29 rfl (oneRes_agg rfl (hS.bk 0 rfl) Tryz.underlying61 rfl (by kernel_rfl)) rfl ⟨_,rfl,rfl,(hS.sel [] rfl)⟩
theorem r02_bad_ok  (m : Nat) (s : Str) (i : Int) (r : TToken × Int) (hm : r02_bad m s i = some r) : Ret Tryz.prog 130 ⟨[vS s,vI i]⟩ (vW [vG (cT r.1),vI r.2]):=retP_of (Tryz.call130 _) (fun w h => r02_bad_w F0 m   s i r hm w h)

theorem r02_Unprintable_w  (M : Av) (c_ : Int) (r : Bool) (hm : r02_Unprintable c_ = r) (w : World) (hS : S0 M [] w) : Calls Tryz.prog 131 ⟨[vU c_]⟩ w (fun e w' => ∃ v,e = .returned v ∧ v = vB r ∧ SH M (fpl []) w [] w'):=by
 rw [r02_Unprintable] at hm
 have hS0 : SH M (fpl []) w [] w:=hS
 generalize hX : fpl [] = X at hS0 ⊢
 clear hS hX
 have hS:=hS0
 clear hS0
 refine calls_entryP Tryz.func131 rfl Tryz.ntmps131 rfl fun _ H => ?_
 refine s_reg [] [0] [(0,[],vU c_)] [] H (by kernel_rfl) trivial fun _ _ H2 hb => ?_
 replace hS:=hS.below hb
 obtain ⟨x3,hx3,hm⟩:=letE hm
 refine s_reg [] [2] [(2,[],vB (cond x3 true (c_ == 127)))] [] H2 (by subst hx3; kernel_rfl) trivial fun _ _ H5 hb => ?_
 replace hS:=hS.below hb
 apply w_ret
 subst hm
 exact retR1 H5 rfl rfl ⟨_,rfl,rfl,(hS.sel [] rfl)⟩
theorem r02_Unprintable_ok  (c_ : Int) : Ret Tryz.prog 131 ⟨[vU c_]⟩ (vB (r02_Unprintable c_)):=retP_of (Tryz.call131 _) (fun w h => r02_Unprintable_w F0   c_ _ rfl w h)

theorem r02_url_w  (M : Av) (m : Nat) (s : Str) (i : Int) (r : TToken × Int) (hm : r02_url m s i = some r) (w : World) (hS : S0 M [] w) : Calls Tryz.prog 123 ⟨[vS s,vI i]⟩ w (fun e w' => ∃ v,e = .returned v ∧ v = vW [vG (cT r.1),vI r.2] ∧ SH M (fpl []) w [] w'):=by
 rw [r02_url] at hm
 have hS0 : SH M (fpl []) w [] w:=hS
 generalize hX : fpl [] = X at hS0 ⊢
 clear hS hX
 have hS:=hS0
 clear hS0
 refine calls_entryP Tryz.func123 rfl Tryz.ntmps123 rfl fun _ H => ?_
 apply w_seq
 apply wl_start
 have hd:=hS.hand [] [] rfl rfl
 refine m_stp [4,0,1] (fS [0,1] [vS s,vI i]) H rfl rfl rfl rfl (o_alloc [vU 0,vN,vI 0,vN,vF] (z:=vG [vU 0,vN,vI 0,vN,vF]) hd (by kernel_rfl) rfl) (fun _ => rfl) fun _ _ v H3 hq => ?_
 obtain ⟨b1,rfl,hq⟩:=hq
 replace hS : SH M X w [eB b1 [vU 0,vN,vI 0,vN,vF]] _:=hS.join [] [] rfl rfl hq
 refine wl_batch 1 2 [] [0,1,4] (fS [0,1,4] [vS s,vI i,vP b1]) [] H3 (by decide) (by kernel_rfl) trivial fun _ _ H5 hb => ?_
 replace hS:=hS.below hb
 apply wl_end rfl
 apply w_seq
 apply wl_start
 refine wl_batch 0 1 [] [0,1,4,10] (fS [0,1,4,10] [vS s,vI i,vP b1,vG [vU 7,vN,vI 0,vN,vF]]) [] H5 (by decide) (by kernel_rfl) trivial fun _ _ H7 hb => ?_
 replace hS:=hS.below hb
 have hd:=hS.hand [] [0] rfl rfl
 refine m_stp [6,0,1,4,10] (fS [0,1,4,10] [vS s,vI i,vP b1,vG [vU 7,vN,vI 0,vN,vF]]) H7 rfl rfl rfl rfl (o_alloc [vU 0,vN,vI 0,vN,vF] (z:=vG [vU 0,vN,vI 0,vN,vF]) hd (by kernel_rfl) rfl) (fun _ => rfl) fun _ _ v H10 hq => ?_
 obtain ⟨b8,rfl,hq⟩:=hq
 replace hS : SH M X w [eB b8 [vU 0,vN,vI 0,vN,vF],eB b1 [vU 0,vN,vI 0,vN,vF]] _:=hS.join [] [0] rfl rfl hq
 have hd:=hS.hand [0] [1] rfl rfl
 refine m_stp0 [0,1,4,6] (fS [0,1,4,6] [vS s,vI i,vP b1,vP b8]) H10 rfl rfl rfl (o_store [vU 7,vN,vI 0,vN,vF] H10 hd rfl rfl (by kernel_rfl) rfl rfl rfl) rfl fun _ _ H12 hq => ?_
 obtain ⟨_,hq⟩:=hq
 replace hS : SH M X w [eB b8 [vU 7,vN,vI 0,vN,vF],eB b1 [vU 0,vN,vI 0,vN,vF]] _:=hS.join [0] [1] rfl rfl hq
 apply wl_end rfl
 obtain ⟨z13,hz,hm_z13⟩:=bindE hm
 refine w_cut (fun a' w' => ∃ s_z13 : Int × Str,z13 = Sum.inr s_z13 ∧ Fr 110 (fS [0,4,6,1] [vS s,vP b1,vP b8,vI s_z13.1]) a' ∧ SH M X w [eB b8 [vU 7,vS s_z13.2,vI 0,vN,vF],eB b1 [vU 0,vN,vI 0,vN,vF]] w') ?_ ?_
 ·replace hm:=hz
  obtain ⟨y14,hy14,hm⟩:=bindE hm
  refine s_reg [(vI y14)] [0,1,4,6] (fS [0,1,4,6] [vS s,vI y14,vP b1,vP b8]) [rB 104 [vS s,vI i] (vI y14)] H12 (by kernel_rfl) ⟨((r02_spaces_ok m _ _ _ hy14).b),trivial⟩ fun _ _ H16 hb => ?_
  replace hS:=hS.below hb
  apply w_block
  refine w_loop (fun kk a' w' => ∃ (v17 : Int) (v18 : Str),r02_url_L1 m s kk v17 v18 = some _ ∧ Fr 110 (fS [0,4,6,1] [vS s,vP b1,vP b8,vI v17]) a' ∧ SH M X w [eB b8 [vU 7,vS v18,vI 0,vN,vF],eB b1 [vU 0,vN,vI 0,vN,vF]] w') ⟨_,y14,[],hm,FrG.keep (ks:=[0,4,6,1]) H16 (by kernel_rfl),hS⟩ ?_
  clear hm H16 hS
  rintro kk _ _ ⟨v17,v18,hm,H,hS⟩
  cases kk with
  | zero => exact noneE hm
  | succ kk =>
   rw [r02_url_L1] at hm
   apply w_seq
   obtain ⟨ho19,hm⟩:=chkE hm
   obtain ⟨x20,hx20,hm⟩:=letE hm
   refine s_reg [] [0,1,4,6,23] (fS [0,1,4,6,23] [vS s,vI v17,vP b1,vP b8,vB x20]) [fun _ => ((decide (v17 < (ln s))) = true ∧ True → 0 ≤ v17 ∧ v17 < ln s)] H (by subst hx20; kernel_rfl) ⟨fun hg => (ho19 hg.1),trivial⟩ fun _ _ H22 hb => ?_
   replace hS:=hS.below hb
   refine w_if H22 rfl (fun hc => ?_) (fun hc => ?c79)
   case c79 =>
    replace hm:=bF hc hm
    apply w_exit rfl
    obtain rfl:=someE hm
    exact ⟨_,rfl,FrG.keep (ks:=[0,4,6,1]) H22 (by kernel_rfl),hS⟩
   replace hm:=bT hc hm
   apply w_skip
   apply w_block
   obtain ⟨ho23,hm⟩:=chkE hm
   refine s_reg [] [0,1,4,6,7] (fS [0,1,4,6,7] [vS s,vI v17,vP b1,vP b8,vU (bat s v17)]) [fun _ => 0 ≤ v17 ∧ v17 < ln s] H22 (by kernel_rfl) ⟨ho23,trivial⟩ fun _ _ H25 hb => ?_
   replace hS:=hS.below hb
   apply w_block
   refine s_reg [(vB (r02_Space (bat s v17)))] [0,1,4,6,7,38] (fS [0,1,4,6,7,38] [vS s,vI v17,vP b1,vP b8,vU (bat s v17),vB (r02_Space (bat s v17))]) [rB 103 [vU (bat s v17)] (vB (r02_Space (bat s v17)))] H25 (by kernel_rfl) ⟨((r02_Space_ok _).b),trivial⟩ fun _ _ H27 hb => ?_
   replace hS:=hS.below hb
   refine w_if H27 rfl (fun hc => ?c78) (fun hc => ?_)
   case c78 =>
    replace hm:=bT hc hm
    obtain ⟨y28,hy28,hm⟩:=bindE hm
    refine s_reg [(vI y28)] [0,1,4,6] (fS [0,1,4,6] [vS s,vI y28,vP b1,vP b8]) [rB 104 [vS s,vI v17] (vI y28)] H27 (by kernel_rfl) ⟨((r02_spaces_ok m _ _ _ hy28).b),trivial⟩ fun _ _ H30 hb => ?_
    replace hS:=hS.below hb
    obtain ⟨ho31,hm⟩:=chkE hm
    obtain ⟨x32,hx32,hm⟩:=letE hm
    refine s_reg [] [0,1,4,6,53] (fS [0,1,4,6,53] [vS s,vI y28,vP b1,vP b8,vB x32]) [fun _ => ((decide (y28 < (ln s))) = true ∧ True → 0 ≤ y28 ∧ y28 < ln s)] H30 (by subst hx32; kernel_rfl) ⟨fun hg => (ho31 hg.1),trivial⟩ fun _ _ H34 hb => ?_
    replace hS:=hS.below hb
    refine w_if H34 rfl (fun hc => ?_) (fun hc => ?c42)
    case c42 =>
     replace hm:=bF hc hm
     apply w_skip
     exact ⟨_,Nat.lt_succ_self _,y28,v18,hm,FrG.keep (ks:=[0,4,6,1]) H34 (by kernel_rfl),hS⟩
    replace hm:=bT hc hm
    apply w_seq
    apply wl_start
    obtain ⟨y35,hy35,hm⟩:=bindE hm
    refine wl_batch 0 5 [(vW [vG (cT y35.1),vI y35.2])] [4,57,58] (fS [4,57,58] [vP b1,vG (cT y35.1),vI y35.2]) [rB 130 [vS s,vI y28] (vW [vG (cT y35.1),vI y35.2])] H34 (by decide) (by kernel_rfl) ⟨((r02_bad_ok m _ _ _ hy35).b),trivial⟩ fun _ _ H37 hb => ?_
    replace hS:=hS.below hb
    have hd:=hS.hand [1] [0] rfl rfl
    refine m_stp0 [4,58] (fS [4,58] [vP b1,vI y35.2]) H37 rfl rfl rfl (o_store (cT y35.1) H37 hd rfl rfl (by kernel_rfl) rfl rfl rfl) rfl fun _ _ H39 hq => ?_
    obtain ⟨_,hq⟩:=hq
    replace hS : SH M X w [eB b1 (cT y35.1),eB b8 [vU 7,vS v18,vI 0,vN,vF]] _:=hS.join [1] [0] rfl rfl hq
    refine wl_batch 6 7 [] [4,5] (fS [4,5] [vP b1,vI y35.2]) [] H39 (by decide) (by kernel_rfl) trivial fun _ _ H41 hb => ?_
    replace hS:=hS.below hb
    apply wl_end rfl
    apply w_ret
    obtain rfl:=someE hm
    have hm:=hm_z13
    obtain rfl:=someE hm
    exact retR2 H41 rfl (oneRes_agg rfl (hS.bk 0 rfl) Tryz.underlying61 rfl (by kernel_rfl)) rfl ⟨_,rfl,rfl,(hS.sel [] rfl)⟩
   replace hm:=bF hc hm
   obtain ⟨x43,hx43,hm⟩:=letE hm
   obtain ⟨x44,hx44,hm⟩:=letE hm
   obtain ⟨y45,hy45,hm⟩:=bindE hm
   obtain ⟨x46,hx46,hm⟩:=letE hm
   refine s_reg [(vB (r02_Unprintable (bat s v17))),(vB y45)] [0,1,4,6,7,59] (fS [0,1,4,6,7,59] [vS s,vI v17,vP b1,vP b8,vU (bat s v17),vB x46]) [fun wz => ((cond x43 true ((bat s v17) == 40)) = false ∧ True → RetB Tryz.prog 131 ⟨[vU (bat s v17)]⟩ (vB (r02_Unprintable (bat s v17))) wz),fun wz => (((bat s v17) == 92) = true ∧ x44 = false ∧ True → RetB Tryz.prog 107 ⟨[vS s,vI v17]⟩ (vB y45) wz)] H27 (by subst hx43 hx44 hx46; kernel_rfl) ⟨fun hg => (r02_Unprintable_ok _).b,fun hg => (r02_Escape_ok _ _ _ (bT (hg.1) (bF (hg.2.1) hy45))).b,trivial⟩ fun _ _ H48 hb => ?_
   replace hS:=hS.below hb
   refine w_if H48 rfl (fun hc => ?c77) (fun hc => ?_)
   case c77 =>
    replace hm:=bT hc hm
    apply w_seq
    apply wl_start
    obtain ⟨y49,hy49,hm⟩:=bindE hm
    refine wl_batch 0 5 [(vW [vG (cT y49.1),vI y49.2])] [4,87,88] (fS [4,87,88] [vP b1,vG (cT y49.1),vI y49.2]) [rB 130 [vS s,vI v17] (vW [vG (cT y49.1),vI y49.2])] H48 (by decide) (by kernel_rfl) ⟨((r02_bad_ok m _ _ _ hy49).b),trivial⟩ fun _ _ H51 hb => ?_
    replace hS:=hS.below hb
    have hd:=hS.hand [1] [0] rfl rfl
    refine m_stp0 [4,88] (fS [4,88] [vP b1,vI y49.2]) H51 rfl rfl rfl (o_store (cT y49.1) H51 hd rfl rfl (by kernel_rfl) rfl rfl rfl) rfl fun _ _ H53 hq => ?_
    obtain ⟨_,hq⟩:=hq
    replace hS : SH M X w [eB b1 (cT y49.1),eB b8 [vU 7,vS v18,vI 0,vN,vF]] _:=hS.join [1] [0] rfl rfl hq
    refine wl_batch 6 7 [] [4,5] (fS [4,5] [vP b1,vI y49.2]) [] H53 (by decide) (by kernel_rfl) trivial fun _ _ H55 hb => ?_
    replace hS:=hS.below hb
    apply wl_end rfl
    apply w_ret
    obtain rfl:=someE hm
    have hm:=hm_z13
    obtain rfl:=someE hm
    exact retR2 H55 rfl (oneRes_agg rfl (hS.bk 0 rfl) Tryz.underlying61 rfl (by kernel_rfl)) rfl ⟨_,rfl,rfl,(hS.sel [] rfl)⟩
   replace hm:=bF hc hm
   refine s_reg [] [0,1,4,6,89] (fS [0,1,4,6,89] [vS s,vI v17,vP b1,vP b8,vB ((bat s v17) == 92)]) [] H48 (by kernel_rfl) trivial fun _ _ H57 hb => ?_
   replace hS:=hS.below hb
   refine w_if H57 rfl (fun hc => ?c76) (fun hc => ?_)
   case c76 =>
    replace hm:=bT hc hm
    obtain ⟨y58,hy58,hm⟩:=bindE hm
    refine s_reg [(vW [vS y58.1,vI y58.2])] [0,4,6,8,9] (fS [0,4,6,8,9] [vS s,vP b1,vP b8,vS y58.1,vI y58.2]) [rB 117 [vS s,vI v17] (vW [vS y58.1,vI y58.2])] H57 (by kernel_rfl) ⟨((r02_Escaped_ok m _ _ _ hy58).b),trivial⟩ fun _ _ H60 hb => ?_
    replace hS:=hS.below hb
    apply w_seq
    apply wl_start
    obtain ⟨ho61,hm⟩:=chkE hm
    refine wl_batch 0 5 [(vS v18)] [0,4,6,9,101,102] (fS [0,4,6,9,101,102] [vS s,vP b1,vP b8,vI y58.2,vS (v18 ++ y58.1),vA b8 1]) [rA b8 1 (vS v18),fun _ => ln v18 + ln y58.1 ≤ 9223372036854775807] H60 (by decide) (by kernel_rfl) ⟨((hS.bk 0 rfl).at1 rfl),ho61,trivial⟩ fun _ _ H63 hb => ?_
    replace hS:=hS.below hb
    have hd:=hS.hand [0] [1] rfl rfl
    refine m_stp0 [0,4,6,9] (fS [0,4,6,9] [vS s,vP b1,vP b8,vI y58.2]) H63 rfl rfl rfl (o_store [vU 7,vS (v18 ++ y58.1),vI 0,vN,vF] H63 hd rfl rfl (by kernel_rfl) rfl rfl rfl) rfl fun _ _ H65 hq => ?_
    obtain ⟨_,hq⟩:=hq
    replace hS : SH M X w [eB b8 [vU 7,vS (v18 ++ y58.1),vI 0,vN,vF],eB b1 [vU 0,vN,vI 0,vN,vF]] _:=hS.join [0] [1] rfl rfl hq
    apply wl_end rfl
    refine w_reg [] [0,1,4,6] (fS [0,1,4,6] [vS s,vI y58.2,vP b1,vP b8]) [] H65 (by kernel_rfl) trivial fun _ _ H67 hb => ?_
    replace hS:=hS.below hb
    exact ⟨_,Nat.lt_succ_self _,y58.2,v18 ++ y58.1,hm,FrG.keep (ks:=[0,4,6,1]) H67 (by kernel_rfl),hS⟩
   replace hm:=bF hc hm
   obtain ⟨ho69,hm⟩:=chkE hm
   obtain ⟨ho70,hm⟩:=chkE hm
   refine s_drawS (base:=(fS [0,1,4,6] [vS s,vI v17,vP b1,vP b8])) (L:=[eB b8 [vU 7,vS v18,vI 0,vN,vF],eB b1 [vU 0,vN,vI 0,vN,vF]]) 10 2 (fun yg68 => [vA b8 1,vS v18,vS s,vI v17,vI v17,vI (w64 (v17 + 1)),vS (sub s v17 (w64 (v17 + 1))),vS (v18 ++ (sub s v17 (w64 (v17 + 1)))),vA b8 1,undef]) (fun yg68 => [[],[],[],[],[],[],[],[],[],[eB b8 [vU 7,vS (v18 ++ (sub s v17 (w64 (v17 + 1)))),vI 0,vN,vF]]]) [[10],[10],[],[],[],[],[],[],[10],[10]] [[],[],[],[],[],[],[],[],[],[10]] [[0],[0,1],[2],[3],[4],[4,5],[2,3,4,5,6],[0,1,2,3,4,5,6,7],[8],[0,1,2,3,4,5,6,7,8,9]] [] (FrG.keep (ks:=[0,1,4,6]) H57 (by kernel_rfl)) (fun _ _ h => by cases h) (by kernel_rfl) hS (by kernel_rfl) rfl rfl (by kernel_rfl) (by kernel_rfl) (by kernel_rfl) (gd_none (by kernel_rfl) _ _) ?hloc_yg68 ?hstep_yg68 fun _ _ yg68 H72 hv hS => ?hK_yg68
   case hloc_yg68 => exact ⟨(fun _ _ _ _ => ⟨rfl,rfl⟩),(fun _ _ _ _ => ⟨rfl,rfl⟩),(fun _ _ _ _ => ⟨rfl,rfl⟩),(fun _ _ _ _ => ⟨rfl,rfl⟩),(fun _ _ _ _ => ⟨rfl,rfl⟩),(fun _ _ _ _ => ⟨rfl,rfl⟩),(fun _ _ _ _ => ⟨rfl,rfl⟩),(fun _ _ _ _ => ⟨rfl,rfl⟩),(fun _ _ _ _ => ⟨rfl,rfl⟩),(fun _ _ _ _ => ⟨rfl,rfl⟩),trivial⟩
   case hstep_yg68 =>
    refine ⟨?_,?_,?_,?_,?_,?_,?_,?_,?_,?_,trivial⟩
    ·intro o ho a w yg68 M Hb hv hO hS
     obtain rfl:=someE ho
     exact Stp.mono (o_evs [] (vA b8 1) none [] Hb rfl (by kernel_rfl) (fun q e => by cases e)) fun _ _ hq => ⟨gL [],fun _ _ => hq.1,(hS.below hq.2.below).sel [0] rfl⟩
    ·intro o ho a w yg68 M Hb hv hO hS
     obtain rfl:=someE ho
     exact Stp.mono (o_evs [(vS v18)] (vS v18) (some (rA b8 1 (vS v18))) [] ((Hb).add (hv 0 (by decide) (by decide) 27 rfl)) rfl (by kernel_rfl) (fun q e => by cases e; exact ((hS.bk 0 rfl).at1 rfl))) fun _ _ hq => ⟨gL [],fun _ _ => hq.1,(hS.below hq.2.below).sel [0] rfl⟩
    ·intro o ho a w yg68 M Hb hv hO hS
     obtain rfl:=someE ho
     exact Stp.mono (o_evs [] (vS s) none [] Hb rfl (by kernel_rfl) (fun q e => by cases e)) fun _ _ hq => ⟨gL [],fun _ _ => hq.1,(hS.below hq.2.below).sel [] rfl⟩
    ·intro o ho a w yg68 M Hb hv hO hS
     obtain rfl:=someE ho
     exact Stp.mono (o_evs [] (vI v17) none [] Hb rfl (by kernel_rfl) (fun q e => by cases e)) fun _ _ hq => ⟨gL [],fun _ _ => hq.1,(hS.below hq.2.below).sel [] rfl⟩
    ·intro o ho a w yg68 M Hb hv hO hS
     obtain rfl:=someE ho
     exact Stp.mono (o_evs [] (vI v17) none [] Hb rfl (by kernel_rfl) (fun q e => by cases e)) fun _ _ hq => ⟨gL [],fun _ _ => hq.1,(hS.below hq.2.below).sel [] rfl⟩
    ·intro o ho a w yg68 M Hb hv hO hS
     obtain rfl:=someE ho
     exact Stp.mono (o_evs [] (vI (w64 (v17 + 1))) none [] ((Hb).add (hv 4 (by decide) (by decide) 31 rfl)) rfl (by kernel_rfl) (fun q e => by cases e)) fun _ _ hq => ⟨gL [],fun _ _ => hq.1,(hS.below hq.2.below).sel [] rfl⟩
    ·intro o ho a w yg68 M Hb hv hO hS
     obtain rfl:=someE ho
     exact Stp.mono (o_evs [] (vS (sub s v17 (w64 (v17 + 1)))) (some (fun _ => 0 ≤ v17 ∧ v17 ≤ (w64 (v17 + 1)) ∧ (w64 (v17 + 1)) ≤ ln s)) [] ((((Hb).add (hv 2 (by decide) (by decide) 29 rfl)).add (hv 3 (by decide) (by decide) 30 rfl)).add (hv 5 (by decide) (by decide) 32 rfl)) rfl (by kernel_rfl) (fun q e => by cases e; exact ho69)) fun _ _ hq => ⟨gL [],fun _ _ => hq.1,(hS.below hq.2.below).sel [] rfl⟩
    ·intro o ho a w yg68 M Hb hv hO hS
     obtain rfl:=someE ho
     exact Stp.mono (o_evs [] (vS (v18 ++ (sub s v17 (w64 (v17 + 1))))) (some (fun _ => ln v18 + ln (sub s v17 (w64 (v17 + 1))) ≤ 9223372036854775807)) [] (((Hb).add (hv 1 (by decide) (by decide) 28 rfl)).add (hv 6 (by decide) (by decide) 33 rfl)) rfl (by kernel_rfl) (fun q e => by cases e; exact ho70)) fun _ _ hq => ⟨gL [],fun _ _ => hq.1,(hS.below hq.2.below).sel [] rfl⟩
    ·intro o ho a w yg68 M Hb hv hO hS
     obtain rfl:=someE ho
     exact Stp.mono (o_evs [] (vA b8 1) none [] Hb rfl (by kernel_rfl) (fun q e => by cases e)) fun _ _ hq => ⟨gL [],fun _ _ => hq.1,(hS.below hq.2.below).sel [0] rfl⟩
    ·intro o ho a w yg68 M Hb hv hO hS0
     obtain rfl:=someE ho
     have H : Fr 110 ((fS [35,34] [vA b8 1,vS (v18 ++ (sub s v17 (w64 (v17 + 1))))]) ++ (fS [0,1,4,6] [vS s,vI v17,vP b1,vP b8])) _:=((Hb).add (hv 7 (by decide) (by decide) 34 rfl)).add (hv 8 (by decide) (by decide) 35 rfl)
     obtain ⟨X,hX⟩ : ∃ X,X = fpl [eB b8 [vU 7,vS v18,vI 0,vN,vF]]:=⟨_,rfl⟩
     have hS : SH M X w [eB b8 [vU 7,vS v18,vI 0,vN,vF]] w:=by rw [hX]; exact hS0
     have hd:=hS.hand [0] [] rfl rfl
     refine Stp.mono (o_store [vU 7,vS (v18 ++ (sub s v17 (w64 (v17 + 1)))),vI 0,vN,vF] H hd rfl rfl (by kernel_rfl) rfl rfl rfl) ?_
     rintro v w2 hq
     replace hS : SH M X w [eB b8 [vU 7,vS (v18 ++ (sub s v17 (w64 (v17 + 1)))),vI 0,vN,vF]] _:=hS.join [0] [] rfl rfl hq
     rw [hX] at hS
     exact ⟨gL [],(fun _ h => by cases h),hS.sel [0] rfl⟩
   have H73 : Fr 110 (fS [0,1,4,6] [vS s,vI v17,vP b1,vP b8]) _:=(FrG.keep (ks:=[0,1,4,6]) H72 (by kernel_rfl))
   replace hS : SH M X w [eB b8 [vU 7,vS (v18 ++ (sub s v17 (w64 (v17 + 1)))),vI 0,vN,vF],eB b1 [vU 0,vN,vI 0,vN,vF]] _:=hS
   clear hv H72
   refine w_reg [] [0,1,4,6] (fS [0,1,4,6] [vS s,vI (w64 (v17 + 1)),vP b1,vP b8]) [] H73 (by kernel_rfl) trivial fun _ _ H75 hb => ?_
   replace hS:=hS.below hb
   exact ⟨_,Nat.lt_succ_self _,w64 (v17 + 1),v18 ++ (sub s v17 (w64 (v17 + 1))),hm,FrG.keep (ks:=[0,4,6,1]) H75 (by kernel_rfl),hS⟩
 ·rintro _ _ ⟨s_z13,hz,H,hS⟩
  subst hz
  replace hm:=sumR hm_z13
  apply w_seq
  apply wl_start
  obtain ⟨x81,hx81,hm⟩:=letE hm
  refine wl_batch 0 6 [(vG [vU 7,vS s_z13.2,vI 0,vN,vF])] [4,104,109] (fS [4,104,109] [vP b1,vG [vU 7,vS s_z13.2,vI 0,vN,vF],vI x81]) [rN b8 0 [vU 7,vS s_z13.2,vI 0,vN,vF]] H (by decide) (by subst hx81; kernel_rfl) ⟨((hS.bk 0 rfl).atD rfl),trivial⟩ fun _ _ H83 hb => ?_
  replace hS:=hS.below hb
  have hd:=hS.hand [1] [0] rfl rfl
  refine m_stp0 [4,109] (fS [4,109] [vP b1,vI x81]) H83 rfl rfl rfl (o_store [vU 7,vS s_z13.2,vI 0,vN,vF] H83 hd rfl rfl (by kernel_rfl) rfl rfl rfl) rfl fun _ _ H85 hq => ?_
  obtain ⟨_,hq⟩:=hq
  replace hS : SH M X w [eB b1 [vU 7,vS s_z13.2,vI 0,vN,vF],eB b8 [vU 7,vS s_z13.2,vI 0,vN,vF]] _:=hS.join [1] [0] rfl rfl hq
  refine wl_batch 7 8 [] [4,5] (fS [4,5] [vP b1,vI x81]) [] H85 (by decide) (by kernel_rfl) trivial fun _ _ H87 hb => ?_
  replace hS:=hS.below hb
  apply wl_end rfl
  replace hS : SH M X w [eB b1 [vU 7,vS s_z13.2,vI 0,vN,vF]] _:=hS.sel [0] rfl
  apply w_ret
  obtain rfl:=someE hm
  exact retR2 H87 rfl (oneRes_agg rfl (hS.bk 0 rfl) Tryz.underlying61 rfl (by kernel_rfl)) rfl ⟨_,rfl,rfl,(hS.sel [] rfl)⟩
theorem r02_url_ok  (m : Nat) (s : Str) (i : Int) (r : TToken × Int) (hm : r02_url m s i = some r) : Ret Tryz.prog 123 ⟨[vS s,vI i]⟩ (vW [vG (cT r.1),vI r.2]):=retP_of (Tryz.call123 _) (fun w h => r02_url_w F0 m   s i r hm w h)

theorem r02_word_w  (M : Av) (m : Nat) (s : Str) (i : Int) (r : TToken × Int) (hm : r02_word m s i = some r) (w : World) (hS : S0 M [] w) : Calls Tryz.prog 112 ⟨[vS s,vI i]⟩ w (fun e w' => ∃ v,e = .returned v ∧ v = vW [vG (cT r.1),vI r.2] ∧ SH M (fpl []) w [] w'):=by
 rw [r02_word] at hm
 have hS0 : SH M (fpl []) w [] w:=hS
 generalize hX : fpl [] = X at hS0 ⊢
 clear hS hX
 have hS:=hS0
 clear hS0
 refine calls_entryP Tryz.func112 rfl Tryz.ntmps112 rfl fun _ H => ?_
 apply w_seq
 apply wl_start
 have hd:=hS.hand [] [] rfl rfl
 refine m_stp [4,0,1] (fS [0,1] [vS s,vI i]) H rfl rfl rfl rfl (o_alloc [vU 0,vN,vI 0,vN,vF] (z:=vG [vU 0,vN,vI 0,vN,vF]) hd (by kernel_rfl) rfl) (fun _ => rfl) fun _ _ v H3 hq => ?_
 obtain ⟨b1,rfl,hq⟩:=hq
 replace hS : SH M X w [eB b1 [vU 0,vN,vI 0,vN,vF]] _:=hS.join [] [] rfl rfl hq
 refine wl_batch 1 2 [] [0,1,4] (fS [0,1,4] [vS s,vI i,vP b1]) [] H3 (by decide) (by kernel_rfl) trivial fun _ _ H5 hb => ?_
 replace hS:=hS.below hb
 apply wl_end rfl
 obtain ⟨y6,hy6,hm⟩:=bindE hm
 refine s_reg [(vW [vS y6.1,vI y6.2])] [0,4,6,7] (fS [0,4,6,7] [vS s,vP b1,vS y6.1,vI y6.2]) [rB 108 [vS s,vI i] (vW [vS y6.1,vI y6.2])] H5 (by kernel_rfl) ⟨((r02_Named_ok m _ _ _ hy6).b),trivial⟩ fun _ _ H8 hb => ?_
 replace hS:=hS.below hb
 apply w_seq
 obtain ⟨y9,hy9,hm⟩:=bindE hm
 refine s_reg [(vU y9)] [0,4,6,7,18] (fS [0,4,6,7,18] [vS s,vP b1,vS y6.1,vI y6.2,vB (y9 != 40)]) [rB 116 [vS s,vI y6.2] (vU y9)] H8 (by kernel_rfl) ⟨((r02_At_ok _ _ _ hy9).b),trivial⟩ fun _ _ H11 hb => ?_
 replace hS:=hS.below hb
 refine w_if H11 rfl (fun hc => ?c44) (fun hc => ?_)
 case c44 =>
  replace hm:=bT hc hm
  apply w_seq
  apply wl_start
  refine wl_batch 0 3 [] [4,20,21] (fS [4,20,21] [vP b1,vG [vU 1,vS y6.1,vI 0,vN,vF],vI y6.2]) [] H11 (by decide) (by kernel_rfl) trivial fun _ _ H13 hb => ?_
  replace hS:=hS.below hb
  have hd:=hS.hand [0] [] rfl rfl
  refine m_stp0 [4,21] (fS [4,21] [vP b1,vI y6.2]) H13 rfl rfl rfl (o_store [vU 1,vS y6.1,vI 0,vN,vF] H13 hd rfl rfl (by kernel_rfl) rfl rfl rfl) rfl fun _ _ H15 hq => ?_
  obtain ⟨_,hq⟩:=hq
  replace hS : SH M X w [eB b1 [vU 1,vS y6.1,vI 0,vN,vF]] _:=hS.join [0] [] rfl rfl hq
  refine wl_batch 4 5 [] [4,5] (fS [4,5] [vP b1,vI y6.2]) [] H15 (by decide) (by kernel_rfl) trivial fun _ _ H17 hb => ?_
  replace hS:=hS.below hb
  apply wl_end rfl
  apply w_ret
  obtain rfl:=someE hm
  exact retR2 H17 rfl (oneRes_agg rfl (hS.bk 0 rfl) Tryz.underlying61 rfl (by kernel_rfl)) rfl ⟨_,rfl,rfl,(hS.sel [] rfl)⟩
 replace hm:=bF hc hm
 apply w_skip
 obtain ⟨z18,hz,hm_z18⟩:=bindE hm
 refine w_cut (fun a' w' => ∃ s_z18 : Unit,z18 = Sum.inr s_z18 ∧ Fr 46 (fS [4,6,7] [vP b1,vS y6.1,vI y6.2]) a' ∧ SH M X w [eB b1 [vU 0,vN,vI 0,vN,vF]] w') ?_ ?_
 ·replace hm:=hz
  obtain ⟨y19,hy19,hm⟩:=bindE hm
  refine s_reg [(vB y19)] [0,4,6,7,23] (fS [0,4,6,7,23] [vS s,vP b1,vS y6.1,vI y6.2,vB y19]) [rB 122 [vS y6.1,vS [117,114,108]] (vB y19)] H11 (by kernel_rfl) ⟨((r01_Alike_ok m _ _ _ hy19).b),trivial⟩ fun _ _ H21 hb => ?_
  replace hS:=hS.below hb
  refine w_if H21 rfl (fun hc => ?_) (fun hc => ?c36)
  case c36 =>
   replace hm:=bF hc hm
   apply w_skip
   obtain rfl:=someE hm
   exact ⟨_,rfl,FrG.keep (ks:=[4,6,7]) H21 (by kernel_rfl),hS⟩
  replace hm:=bT hc hm
  obtain ⟨y22,hy22,hm⟩:=bindE hm
  obtain ⟨y23,hy23,hm⟩:=bindE hm
  refine s_reg [(vI y22),(vU y23)] [0,4,6,7,8] (fS [0,4,6,7,8] [vS s,vP b1,vS y6.1,vI y6.2,vU y23]) [rB 104 [vS s,vI (w64 (y6.2 + 1))] (vI y22),rB 116 [vS s,vI y22] (vU y23)] H21 (by kernel_rfl) ⟨((r02_spaces_ok m _ _ _ hy22).b),((r02_At_ok _ _ _ hy23).b),trivial⟩ fun _ _ H25 hb => ?_
  replace hS:=hS.below hb
  refine s_reg [] [0,4,6,7,35] (fS [0,4,6,7,35] [vS s,vP b1,vS y6.1,vI y6.2,vB (cond (y23 != 34) (y23 != 39) false)]) [] H25 (by kernel_rfl) trivial fun _ _ H27 hb => ?_
  replace hS:=hS.below hb
  refine w_if H27 rfl (fun hc => ?_) (fun hc => ?c35)
  case c35 =>
   replace hm:=bF hc hm
   apply w_skip
   obtain rfl:=someE hm
   exact ⟨_,rfl,FrG.keep (ks:=[4,6,7]) H27 (by kernel_rfl),hS⟩
  replace hm:=bT hc hm
  apply w_seq
  apply wl_start
  obtain ⟨y28,hy28,hm⟩:=bindE hm
  refine wl_batch 0 6 [(vW [vG (cT y28.1),vI y28.2])] [4,40,41] (fS [4,40,41] [vP b1,vG (cT y28.1),vI y28.2]) [rB 123 [vS s,vI (w64 (y6.2 + 1))] (vW [vG (cT y28.1),vI y28.2])] H27 (by decide) (by kernel_rfl) ⟨((r02_url_ok m _ _ _ hy28).b),trivial⟩ fun _ _ H30 hb => ?_
  replace hS:=hS.below hb
  have hd:=hS.hand [0] [] rfl rfl
  refine m_stp0 [4,41] (fS [4,41] [vP b1,vI y28.2]) H30 rfl rfl rfl (o_store (cT y28.1) H30 hd rfl rfl (by kernel_rfl) rfl rfl rfl) rfl fun _ _ H32 hq => ?_
  obtain ⟨_,hq⟩:=hq
  replace hS : SH M X w [eB b1 (cT y28.1)] _:=hS.join [0] [] rfl rfl hq
  refine wl_batch 7 8 [] [4,5] (fS [4,5] [vP b1,vI y28.2]) [] H32 (by decide) (by kernel_rfl) trivial fun _ _ H34 hb => ?_
  replace hS:=hS.below hb
  apply wl_end rfl
  apply w_ret
  obtain rfl:=someE hm
  have hm:=hm_z18
  obtain rfl:=someE hm
  exact retR2 H34 rfl (oneRes_agg rfl (hS.bk 0 rfl) Tryz.underlying61 rfl (by kernel_rfl)) rfl ⟨_,rfl,rfl,(hS.sel [] rfl)⟩
 ·rintro _ _ ⟨s_z18,hz,H,hS⟩
  subst hz
  replace hm:=sumR hm_z18
  apply w_seq
  apply wl_start
  refine wl_batch 0 4 [] [4,43,45] (fS [4,43,45] [vP b1,vG [vU 2,vS y6.1,vI 0,vN,vF],vI (w64 (y6.2 + 1))]) [] H (by decide) (by kernel_rfl) trivial fun _ _ H38 hb => ?_
  replace hS:=hS.below hb
  have hd:=hS.hand [0] [] rfl rfl
  refine m_stp0 [4,45] (fS [4,45] [vP b1,vI (w64 (y6.2 + 1))]) H38 rfl rfl rfl (o_store [vU 2,vS y6.1,vI 0,vN,vF] H38 hd rfl rfl (by kernel_rfl) rfl rfl rfl) rfl fun _ _ H40 hq => ?_
  obtain ⟨_,hq⟩:=hq
  replace hS : SH M X w [eB b1 [vU 2,vS y6.1,vI 0,vN,vF]] _:=hS.join [0] [] rfl rfl hq
  refine wl_batch 5 6 [] [4,5] (fS [4,5] [vP b1,vI (w64 (y6.2 + 1))]) [] H40 (by decide) (by kernel_rfl) trivial fun _ _ H42 hb => ?_
  replace hS:=hS.below hb
  apply wl_end rfl
  apply w_ret
  obtain rfl:=someE hm
  exact retR2 H42 rfl (oneRes_agg rfl (hS.bk 0 rfl) Tryz.underlying61 rfl (by kernel_rfl)) rfl ⟨_,rfl,rfl,(hS.sel [] rfl)⟩
theorem r02_word_ok  (m : Nat) (s : Str) (i : Int) (r : TToken × Int) (hm : r02_word m s i = some r) : Ret Tryz.prog 112 ⟨[vS s,vI i]⟩ (vW [vG (cT r.1),vI r.2]):=retP_of (Tryz.call112 _) (fun w h => r02_word_w F0 m   s i r hm w h)

theorem r02_mark_w  (M : Av) (c_ : Int) (r : Int) (hm : r02_mark c_ = r) (w : World) (hS : S0 M [] w) : Calls Tryz.prog 113 ⟨[vU c_]⟩ w (fun e w' => ∃ v,e = .returned v ∧ v = vU r ∧ SH M (fpl []) w [] w'):=by
 rw [r02_mark] at hm
 have hS0 : SH M (fpl []) w [] w:=hS
 generalize hX : fpl [] = X at hS0 ⊢
 clear hS hX
 have hS:=hS0
 clear hS0
 refine calls_entryP Tryz.func113 rfl Tryz.ntmps113 rfl fun _ H => ?_
 refine s_reg [] [0] [(0,[],vU c_)] [] H (by kernel_rfl) trivial fun _ _ H2 hb => ?_
 replace hS:=hS.below hb
 apply w_seq
 refine s_reg [] [3] [(3,[],vU c_)] [] H2 (by kernel_rfl) trivial fun _ _ H4 hb => ?_
 replace hS:=hS.below hb
 apply w_block
 refine s_reg [] [3,4] (fS [3,4] [vU c_,vB (c_ == 58)]) [] H4 (by kernel_rfl) trivial fun _ _ H6 hb => ?_
 replace hS:=hS.below hb
 refine w_if H6 rfl (fun hc => ?c51) (fun hc => ?_)
 case c51 =>
  replace hm:=bT hc hm
  refine s_reg [] [2] [(2,[],vU 16)] [] H6 (by kernel_rfl) trivial fun _ _ H8 hb => ?_
  replace hS:=hS.below hb
  apply w_ret
  subst hm
  exact retR1 H8 rfl rfl ⟨_,rfl,rfl,(hS.sel [] rfl)⟩
 replace hm:=bF hc hm
 refine s_reg [] [3,6] (fS [3,6] [vU c_,vB (c_ == 59)]) [] H6 (by kernel_rfl) trivial fun _ _ H10 hb => ?_
 replace hS:=hS.below hb
 refine w_if H10 rfl (fun hc => ?c50) (fun hc => ?_)
 case c50 =>
  replace hm:=bT hc hm
  refine s_reg [] [2] [(2,[],vU 17)] [] H10 (by kernel_rfl) trivial fun _ _ H12 hb => ?_
  replace hS:=hS.below hb
  apply w_ret
  subst hm
  exact retR1 H12 rfl rfl ⟨_,rfl,rfl,(hS.sel [] rfl)⟩
 replace hm:=bF hc hm
 refine s_reg [] [3,8] (fS [3,8] [vU c_,vB (c_ == 44)]) [] H10 (by kernel_rfl) trivial fun _ _ H14 hb => ?_
 replace hS:=hS.below hb
 refine w_if H14 rfl (fun hc => ?c49) (fun hc => ?_)
 case c49 =>
  replace hm:=bT hc hm
  refine s_reg [] [2] [(2,[],vU 18)] [] H14 (by kernel_rfl) trivial fun _ _ H16 hb => ?_
  replace hS:=hS.below hb
  apply w_ret
  subst hm
  exact retR1 H16 rfl rfl ⟨_,rfl,rfl,(hS.sel [] rfl)⟩
 replace hm:=bF hc hm
 refine s_reg [] [3,10] (fS [3,10] [vU c_,vB (c_ == 91)]) [] H14 (by kernel_rfl) trivial fun _ _ H18 hb => ?_
 replace hS:=hS.below hb
 refine w_if H18 rfl (fun hc => ?c48) (fun hc => ?_)
 case c48 =>
  replace hm:=bT hc hm
  refine s_reg [] [2] [(2,[],vU 19)] [] H18 (by kernel_rfl) trivial fun _ _ H20 hb => ?_
  replace hS:=hS.below hb
  apply w_ret
  subst hm
  exact retR1 H20 rfl rfl ⟨_,rfl,rfl,(hS.sel [] rfl)⟩
 replace hm:=bF hc hm
 refine s_reg [] [3,12] (fS [3,12] [vU c_,vB (c_ == 93)]) [] H18 (by kernel_rfl) trivial fun _ _ H22 hb => ?_
 replace hS:=hS.below hb
 refine w_if H22 rfl (fun hc => ?c47) (fun hc => ?_)
 case c47 =>
  replace hm:=bT hc hm
  refine s_reg [] [2] [(2,[],vU 20)] [] H22 (by kernel_rfl) trivial fun _ _ H24 hb => ?_
  replace hS:=hS.below hb
  apply w_ret
  subst hm
  exact retR1 H24 rfl rfl ⟨_,rfl,rfl,(hS.sel [] rfl)⟩
 replace hm:=bF hc hm
 refine s_reg [] [3,14] (fS [3,14] [vU c_,vB (c_ == 40)]) [] H22 (by kernel_rfl) trivial fun _ _ H26 hb => ?_
 replace hS:=hS.below hb
 refine w_if H26 rfl (fun hc => ?c46) (fun hc => ?_)
 case c46 =>
  replace hm:=bT hc hm
  refine s_reg [] [2] [(2,[],vU 21)] [] H26 (by kernel_rfl) trivial fun _ _ H28 hb => ?_
  replace hS:=hS.below hb
  apply w_ret
  subst hm
  exact retR1 H28 rfl rfl ⟨_,rfl,rfl,(hS.sel [] rfl)⟩
 replace hm:=bF hc hm
 refine s_reg [] [3,16] (fS [3,16] [vU c_,vB (c_ == 41)]) [] H26 (by kernel_rfl) trivial fun _ _ H30 hb => ?_
 replace hS:=hS.below hb
 refine w_if H30 rfl (fun hc => ?c45) (fun hc => ?_)
 case c45 =>
  replace hm:=bT hc hm
  refine s_reg [] [2] [(2,[],vU 22)] [] H30 (by kernel_rfl) trivial fun _ _ H32 hb => ?_
  replace hS:=hS.below hb
  apply w_ret
  subst hm
  exact retR1 H32 rfl rfl ⟨_,rfl,rfl,(hS.sel [] rfl)⟩
 replace hm:=bF hc hm
 refine s_reg [] [3,18] (fS [3,18] [vU c_,vB (c_ == 123)]) [] H30 (by kernel_rfl) trivial fun _ _ H34 hb => ?_
 replace hS:=hS.below hb
 refine w_if H34 rfl (fun hc => ?c44) (fun hc => ?_)
 case c44 =>
  replace hm:=bT hc hm
  refine s_reg [] [2] [(2,[],vU 23)] [] H34 (by kernel_rfl) trivial fun _ _ H36 hb => ?_
  replace hS:=hS.below hb
  apply w_ret
  subst hm
  exact retR1 H36 rfl rfl ⟨_,rfl,rfl,(hS.sel [] rfl)⟩
 replace hm:=bF hc hm
 refine s_reg [] [20] [(20,[],vB (c_ == 125))] [] H34 (by kernel_rfl) trivial fun _ _ H38 hb => ?_
 replace hS:=hS.below hb
 refine w_if H38 rfl (fun hc => ?c43) (fun hc => ?_)
 case c43 =>
  replace hm:=bT hc hm
  refine s_reg [] [2] [(2,[],vU 24)] [] H38 (by kernel_rfl) trivial fun _ _ H40 hb => ?_
  replace hS:=hS.below hb
  apply w_ret
  subst hm
  exact retR1 H40 rfl rfl ⟨_,rfl,rfl,(hS.sel [] rfl)⟩
 replace hm:=bF hc hm
 apply w_skip
 refine s_reg [] [2] [(2,[],vU 0)] [] H38 (by kernel_rfl) trivial fun _ _ H42 hb => ?_
 replace hS:=hS.below hb
 apply w_ret
 subst hm
 exact retR1 H42 rfl rfl ⟨_,rfl,rfl,(hS.sel [] rfl)⟩
theorem r02_mark_ok  (c_ : Int) : Ret Tryz.prog 113 ⟨[vU c_]⟩ (vU (r02_mark c_)):=retP_of (Tryz.call113 _) (fun w h => r02_mark_w F0   c_ _ rfl w h)

theorem r02_One_w  (M : Av) (m : Nat) (s : Str) (i : Int) (r : TToken × Int) (hm : r02_One m s i = some r) (w : World) (hS : S0 M [] w) : Calls Tryz.prog 95 ⟨[vS s,vI i]⟩ w (fun e w' => ∃ v,e = .returned v ∧ v = vW [vG (cT r.1),vI r.2] ∧ SH M (fpl []) w [] w'):=by
 rw [r02_One] at hm
 have hS0 : SH M (fpl []) w [] w:=hS
 generalize hX : fpl [] = X at hS0 ⊢
 clear hS hX
 have hS:=hS0
 clear hS0
 refine calls_entryP Tryz.func95 rfl Tryz.ntmps95 rfl fun _ H => ?_
 apply w_seq
 apply wl_start
 have hd:=hS.hand [] [] rfl rfl
 refine m_stp [4,0,1] (fS [0,1] [vS s,vI i]) H rfl rfl rfl rfl (o_alloc [vU 0,vN,vI 0,vN,vF] (z:=vG [vU 0,vN,vI 0,vN,vF]) hd (by kernel_rfl) rfl) (fun _ => rfl) fun _ _ v H3 hq => ?_
 obtain ⟨b1,rfl,hq⟩:=hq
 replace hS : SH M X w [eB b1 [vU 0,vN,vI 0,vN,vF]] _:=hS.join [] [] rfl rfl hq
 refine wl_batch 1 2 [] [0,1,4] (fS [0,1,4] [vS s,vI i,vP b1]) [] H3 (by decide) (by kernel_rfl) trivial fun _ _ H5 hb => ?_
 replace hS:=hS.below hb
 apply wl_end rfl
 obtain ⟨ho6,hm⟩:=chkE hm
 refine s_reg [] [0,1,4,6] (fS [0,1,4,6] [vS s,vI i,vP b1,vU (bat s i)]) [fun _ => 0 ≤ i ∧ i < ln s] H5 (by kernel_rfl) ⟨ho6,trivial⟩ fun _ _ H8 hb => ?_
 replace hS:=hS.below hb
 apply w_seq
 apply w_block
 refine s_reg [(vB (r02_Space (bat s i)))] [0,1,4,6,14] (fS [0,1,4,6,14] [vS s,vI i,vP b1,vU (bat s i),vB (r02_Space (bat s i))]) [rB 103 [vU (bat s i)] (vB (r02_Space (bat s i)))] H8 (by kernel_rfl) ⟨((r02_Space_ok _).b),trivial⟩ fun _ _ H10 hb => ?_
 replace hS:=hS.below hb
 refine w_if H10 rfl (fun hc => ?c116) (fun hc => ?_)
 case c116 =>
  replace hm:=bT hc hm
  apply w_seq
  apply wl_start
  obtain ⟨y11,hy11,hm⟩:=bindE hm
  refine wl_batch 0 4 [(vI y11)] [4,17,20] (fS [4,17,20] [vP b1,vG [vU 13,vN,vI 0,vN,vF],vI y11]) [rB 104 [vS s,vI i] (vI y11)] H10 (by decide) (by kernel_rfl) ⟨((r02_spaces_ok m _ _ _ hy11).b),trivial⟩ fun _ _ H13 hb => ?_
  replace hS:=hS.below hb
  have hd:=hS.hand [0] [] rfl rfl
  refine m_stp0 [4,20] (fS [4,20] [vP b1,vI y11]) H13 rfl rfl rfl (o_store [vU 13,vN,vI 0,vN,vF] H13 hd rfl rfl (by kernel_rfl) rfl rfl rfl) rfl fun _ _ H15 hq => ?_
  obtain ⟨_,hq⟩:=hq
  replace hS : SH M X w [eB b1 [vU 13,vN,vI 0,vN,vF]] _:=hS.join [0] [] rfl rfl hq
  refine wl_batch 5 6 [] [4,5] (fS [4,5] [vP b1,vI y11]) [] H15 (by decide) (by kernel_rfl) trivial fun _ _ H17 hb => ?_
  replace hS:=hS.below hb
  apply wl_end rfl
  apply w_ret
  obtain rfl:=someE hm
  exact retR2 H17 rfl (oneRes_agg rfl (hS.bk 0 rfl) Tryz.underlying61 rfl (by kernel_rfl)) rfl ⟨_,rfl,rfl,(hS.sel [] rfl)⟩
 replace hm:=bF hc hm
 obtain ⟨x18,hx18,hm⟩:=letE hm
 refine s_reg [] [0,1,4,6,21] (fS [0,1,4,6,21] [vS s,vI i,vP b1,vU (bat s i),vB x18]) [] H10 (by subst hx18; kernel_rfl) trivial fun _ _ H20 hb => ?_
 replace hS:=hS.below hb
 refine w_if H20 rfl (fun hc => ?c115) (fun hc => ?_)
 case c115 =>
  replace hm:=bT hc hm
  apply w_seq
  apply wl_start
  obtain ⟨y21,hy21,hm⟩:=bindE hm
  refine wl_batch 0 5 [(vW [vG (cT y21.1),vI y21.2])] [4,31,32] (fS [4,31,32] [vP b1,vG (cT y21.1),vI y21.2]) [rB 105 [vS s,vI i] (vW [vG (cT y21.1),vI y21.2])] H20 (by decide) (by kernel_rfl) ⟨((r02_quoted_ok m _ _ _ hy21).b),trivial⟩ fun _ _ H23 hb => ?_
  replace hS:=hS.below hb
  have hd:=hS.hand [0] [] rfl rfl
  refine m_stp0 [4,32] (fS [4,32] [vP b1,vI y21.2]) H23 rfl rfl rfl (o_store (cT y21.1) H23 hd rfl rfl (by kernel_rfl) rfl rfl rfl) rfl fun _ _ H25 hq => ?_
  obtain ⟨_,hq⟩:=hq
  replace hS : SH M X w [eB b1 (cT y21.1)] _:=hS.join [0] [] rfl rfl hq
  refine wl_batch 6 7 [] [4,5] (fS [4,5] [vP b1,vI y21.2]) [] H25 (by decide) (by kernel_rfl) trivial fun _ _ H27 hb => ?_
  replace hS:=hS.below hb
  apply wl_end rfl
  apply w_ret
  obtain rfl:=someE hm
  exact retR2 H27 rfl (oneRes_agg rfl (hS.bk 0 rfl) Tryz.underlying61 rfl (by kernel_rfl)) rfl ⟨_,rfl,rfl,(hS.sel [] rfl)⟩
 replace hm:=bF hc hm
 obtain ⟨ho28,hm⟩:=chkE hm
 obtain ⟨y29,hy29,hm⟩:=bindE hm
 obtain ⟨x30,hx30,hm⟩:=letE hm
 refine s_reg [(vB (r02_Letter (bat s (w64 (i + 1))))),(vB y29)] [0,1,4,6,33] (fS [0,1,4,6,33] [vS s,vI i,vP b1,vU (bat s i),vB x30]) [fun _ => ((decide ((w64 (i + 1)) < (ln s))) = true ∧ ((bat s i) == 35) = true ∧ True → 0 ≤ (w64 (i + 1)) ∧ (w64 (i + 1)) < ln s),fun wz => ((decide ((w64 (i + 1)) < (ln s))) = true ∧ ((bat s i) == 35) = true ∧ True → RetB Tryz.prog 106 ⟨[vU (bat s (w64 (i + 1)))]⟩ (vB (r02_Letter (bat s (w64 (i + 1))))) wz),fun wz => ((cond (decide ((w64 (i + 1)) < (ln s))) (r02_Letter (bat s (w64 (i + 1)))) false) = false ∧ ((bat s i) == 35) = true ∧ True → RetB Tryz.prog 107 ⟨[vS s,vI (w64 (i + 1))]⟩ (vB y29) wz)] H20 (by subst hx30; kernel_rfl) ⟨fun hg => (ho28 hg.1 hg.2.1),fun hg => (r02_Letter_ok _).b,fun hg => (r02_Escape_ok _ _ _ (bF (hg.1) (bT (hg.2.1) hy29))).b,trivial⟩ fun _ _ H32 hb => ?_
 replace hS:=hS.below hb
 refine w_if H32 rfl (fun hc => ?c114) (fun hc => ?_)
 case c114 =>
  replace hm:=bT hc hm
  obtain ⟨y33,hy33,hm⟩:=bindE hm
  refine s_reg [(vW [vS y33.1,vI y33.2])] [0,1,4,7,8] (fS [0,1,4,7,8] [vS s,vI i,vP b1,vS y33.1,vI y33.2]) [rB 108 [vS s,vI (w64 (i + 1))] (vW [vS y33.1,vI y33.2])] H32 (by kernel_rfl) ⟨((r02_Named_ok m _ _ _ hy33).b),trivial⟩ fun _ _ H35 hb => ?_
  replace hS:=hS.below hb
  apply w_seq
  apply wl_start
  obtain ⟨y36,hy36,hm⟩:=bindE hm
  refine wl_batch 0 7 [(vB y36)] [4,68,69] (fS [4,68,69] [vP b1,vG [vU 4,vS y33.1,vI 0,vN,vB y36],vI y33.2]) [rB 109 [vS s,vI (w64 (i + 1))] (vB y36)] H35 (by decide) (by kernel_rfl) ⟨((r02_NameAt_ok _ _ _ hy36).b),trivial⟩ fun _ _ H38 hb => ?_
  replace hS:=hS.below hb
  have hd:=hS.hand [0] [] rfl rfl
  refine m_stp0 [4,69] (fS [4,69] [vP b1,vI y33.2]) H38 rfl rfl rfl (o_store [vU 4,vS y33.1,vI 0,vN,vB y36] H38 hd rfl rfl (by kernel_rfl) rfl rfl rfl) rfl fun _ _ H40 hq => ?_
  obtain ⟨_,hq⟩:=hq
  replace hS : SH M X w [eB b1 [vU 4,vS y33.1,vI 0,vN,vB y36]] _:=hS.join [0] [] rfl rfl hq
  refine wl_batch 8 9 [] [4,5] (fS [4,5] [vP b1,vI y33.2]) [] H40 (by decide) (by kernel_rfl) trivial fun _ _ H42 hb => ?_
  replace hS:=hS.below hb
  apply wl_end rfl
  apply w_ret
  obtain rfl:=someE hm
  exact retR2 H42 rfl (oneRes_agg rfl (hS.bk 0 rfl) Tryz.underlying61 rfl (by kernel_rfl)) rfl ⟨_,rfl,rfl,(hS.sel [] rfl)⟩
 replace hm:=bF hc hm
 obtain ⟨y43,hy43,hm⟩:=bindE hm
 refine s_reg [(vB y43)] [0,1,4,6,70] (fS [0,1,4,6,70] [vS s,vI i,vP b1,vU (bat s i),vB y43]) [rB 110 [vS s,vI i] (vB y43)] H32 (by kernel_rfl) ⟨((r02_NumberAt_ok _ _ _ hy43).b),trivial⟩ fun _ _ H45 hb => ?_
 replace hS:=hS.below hb
 refine w_if H45 rfl (fun hc => ?c113) (fun hc => ?_)
 case c113 =>
  replace hm:=bT hc hm
  apply w_seq
  apply wl_start
  obtain ⟨y46,hy46,hm⟩:=bindE hm
  refine wl_batch 0 5 [(vW [vG (cT y46.1),vI y46.2])] [4,77,78] (fS [4,77,78] [vP b1,vG (cT y46.1),vI y46.2]) [rB 111 [vS s,vI i] (vW [vG (cT y46.1),vI y46.2])] H45 (by decide) (by kernel_rfl) ⟨((r02_numeric_ok m _ _ _ hy46).b),trivial⟩ fun _ _ H48 hb => ?_
  replace hS:=hS.below hb
  have hd:=hS.hand [0] [] rfl rfl
  refine m_stp0 [4,78] (fS [4,78] [vP b1,vI y46.2]) H48 rfl rfl rfl (o_store (cT y46.1) H48 hd rfl rfl (by kernel_rfl) rfl rfl rfl) rfl fun _ _ H50 hq => ?_
  obtain ⟨_,hq⟩:=hq
  replace hS : SH M X w [eB b1 (cT y46.1)] _:=hS.join [0] [] rfl rfl hq
  refine wl_batch 6 7 [] [4,5] (fS [4,5] [vP b1,vI y46.2]) [] H50 (by decide) (by kernel_rfl) trivial fun _ _ H52 hb => ?_
  replace hS:=hS.below hb
  apply wl_end rfl
  apply w_ret
  obtain rfl:=someE hm
  exact retR2 H52 rfl (oneRes_agg rfl (hS.bk 0 rfl) Tryz.underlying61 rfl (by kernel_rfl)) rfl ⟨_,rfl,rfl,(hS.sel [] rfl)⟩
 replace hm:=bF hc hm
 obtain ⟨y53,hy53,hm⟩:=bindE hm
 refine s_reg [(vB y53)] [0,1,4,6,79] (fS [0,1,4,6,79] [vS s,vI i,vP b1,vU (bat s i),vB y53]) [rB 102 [vS s,vI i,vS [45,45,62]] (vB y53)] H45 (by kernel_rfl) ⟨((r02_has_ok _ _ _ _ hy53).b),trivial⟩ fun _ _ H55 hb => ?_
 replace hS:=hS.below hb
 refine w_if H55 rfl (fun hc => ?c112) (fun hc => ?_)
 case c112 =>
  replace hm:=bT hc hm
  apply w_seq
  apply wl_start
  refine wl_batch 0 3 [] [4,83,85] (fS [4,83,85] [vP b1,vG [vU 15,vN,vI 0,vN,vF],vI (w64 (i + 3))]) [] H55 (by decide) (by kernel_rfl) trivial fun _ _ H57 hb => ?_
  replace hS:=hS.below hb
  have hd:=hS.hand [0] [] rfl rfl
  refine m_stp0 [4,85] (fS [4,85] [vP b1,vI (w64 (i + 3))]) H57 rfl rfl rfl (o_store [vU 15,vN,vI 0,vN,vF] H57 hd rfl rfl (by kernel_rfl) rfl rfl rfl) rfl fun _ _ H59 hq => ?_
  obtain ⟨_,hq⟩:=hq
  replace hS : SH M X w [eB b1 [vU 15,vN,vI 0,vN,vF]] _:=hS.join [0] [] rfl rfl hq
  refine wl_batch 4 5 [] [4,5] (fS [4,5] [vP b1,vI (w64 (i + 3))]) [] H59 (by decide) (by kernel_rfl) trivial fun _ _ H61 hb => ?_
  replace hS:=hS.below hb
  apply wl_end rfl
  apply w_ret
  obtain rfl:=someE hm
  exact retR2 H61 rfl (oneRes_agg rfl (hS.bk 0 rfl) Tryz.underlying61 rfl (by kernel_rfl)) rfl ⟨_,rfl,rfl,(hS.sel [] rfl)⟩
 replace hm:=bF hc hm
 obtain ⟨y62,hy62,hm⟩:=bindE hm
 refine s_reg [(vB y62)] [0,1,4,6,86] (fS [0,1,4,6,86] [vS s,vI i,vP b1,vU (bat s i),vB y62]) [rB 102 [vS s,vI i,vS [60,33,45,45]] (vB y62)] H55 (by kernel_rfl) ⟨((r02_has_ok _ _ _ _ hy62).b),trivial⟩ fun _ _ H64 hb => ?_
 replace hS:=hS.below hb
 refine w_if H64 rfl (fun hc => ?c111) (fun hc => ?_)
 case c111 =>
  replace hm:=bT hc hm
  apply w_seq
  apply wl_start
  refine wl_batch 0 3 [] [4,90,92] (fS [4,90,92] [vP b1,vG [vU 14,vN,vI 0,vN,vF],vI (w64 (i + 4))]) [] H64 (by decide) (by kernel_rfl) trivial fun _ _ H66 hb => ?_
  replace hS:=hS.below hb
  have hd:=hS.hand [0] [] rfl rfl
  refine m_stp0 [4,92] (fS [4,92] [vP b1,vI (w64 (i + 4))]) H66 rfl rfl rfl (o_store [vU 14,vN,vI 0,vN,vF] H66 hd rfl rfl (by kernel_rfl) rfl rfl rfl) rfl fun _ _ H68 hq => ?_
  obtain ⟨_,hq⟩:=hq
  replace hS : SH M X w [eB b1 [vU 14,vN,vI 0,vN,vF]] _:=hS.join [0] [] rfl rfl hq
  refine wl_batch 4 5 [] [4,5] (fS [4,5] [vP b1,vI (w64 (i + 4))]) [] H68 (by decide) (by kernel_rfl) trivial fun _ _ H70 hb => ?_
  replace hS:=hS.below hb
  apply wl_end rfl
  apply w_ret
  obtain rfl:=someE hm
  exact retR2 H70 rfl (oneRes_agg rfl (hS.bk 0 rfl) Tryz.underlying61 rfl (by kernel_rfl)) rfl ⟨_,rfl,rfl,(hS.sel [] rfl)⟩
 replace hm:=bF hc hm
 obtain ⟨y71,hy71,hm⟩:=bindE hm
 refine s_reg [(vB y71)] [0,1,4,6,93] (fS [0,1,4,6,93] [vS s,vI i,vP b1,vU (bat s i),vB (cond ((bat s i) == 64) y71 false)]) [fun wz => (((bat s i) == 64) = true ∧ True → RetB Tryz.prog 109 ⟨[vS s,vI (w64 (i + 1))]⟩ (vB y71) wz)] H64 (by kernel_rfl) ⟨fun hg => (r02_NameAt_ok _ _ _ (bT (hg.1) hy71)).b,trivial⟩ fun _ _ H73 hb => ?_
 replace hS:=hS.below hb
 refine w_if H73 rfl (fun hc => ?c110) (fun hc => ?_)
 case c110 =>
  replace hm:=bT hc hm
  obtain ⟨y74,hy74,hm⟩:=bindE hm
  refine s_reg [(vW [vS y74.1,vI y74.2])] [4,9,10] (fS [4,9,10] [vP b1,vS y74.1,vI y74.2]) [rB 108 [vS s,vI (w64 (i + 1))] (vW [vS y74.1,vI y74.2])] H73 (by kernel_rfl) ⟨((r02_Named_ok m _ _ _ hy74).b),trivial⟩ fun _ _ H76 hb => ?_
  replace hS:=hS.below hb
  apply w_seq
  apply wl_start
  refine wl_batch 0 3 [] [4,110,111] (fS [4,110,111] [vP b1,vG [vU 3,vS y74.1,vI 0,vN,vF],vI y74.2]) [] H76 (by decide) (by kernel_rfl) trivial fun _ _ H78 hb => ?_
  replace hS:=hS.below hb
  have hd:=hS.hand [0] [] rfl rfl
  refine m_stp0 [4,111] (fS [4,111] [vP b1,vI y74.2]) H78 rfl rfl rfl (o_store [vU 3,vS y74.1,vI 0,vN,vF] H78 hd rfl rfl (by kernel_rfl) rfl rfl rfl) rfl fun _ _ H80 hq => ?_
  obtain ⟨_,hq⟩:=hq
  replace hS : SH M X w [eB b1 [vU 3,vS y74.1,vI 0,vN,vF]] _:=hS.join [0] [] rfl rfl hq
  refine wl_batch 4 5 [] [4,5] (fS [4,5] [vP b1,vI y74.2]) [] H80 (by decide) (by kernel_rfl) trivial fun _ _ H82 hb => ?_
  replace hS:=hS.below hb
  apply wl_end rfl
  apply w_ret
  obtain rfl:=someE hm
  exact retR2 H82 rfl (oneRes_agg rfl (hS.bk 0 rfl) Tryz.underlying61 rfl (by kernel_rfl)) rfl ⟨_,rfl,rfl,(hS.sel [] rfl)⟩
 replace hm:=bF hc hm
 obtain ⟨y83,hy83,hm⟩:=bindE hm
 refine s_reg [(vB y83)] [0,1,4,6,112] (fS [0,1,4,6,112] [vS s,vI i,vP b1,vU (bat s i),vB y83]) [rB 109 [vS s,vI i] (vB y83)] H73 (by kernel_rfl) ⟨((r02_NameAt_ok _ _ _ hy83).b),trivial⟩ fun _ _ H85 hb => ?_
 replace hS:=hS.below hb
 refine w_if H85 rfl (fun hc => ?c109) (fun hc => ?_)
 case c109 =>
  replace hm:=bT hc hm
  apply w_seq
  apply wl_start
  obtain ⟨y86,hy86,hm⟩:=bindE hm
  refine wl_batch 0 5 [(vW [vG (cT y86.1),vI y86.2])] [4,119,120] (fS [4,119,120] [vP b1,vG (cT y86.1),vI y86.2]) [rB 112 [vS s,vI i] (vW [vG (cT y86.1),vI y86.2])] H85 (by decide) (by kernel_rfl) ⟨((r02_word_ok m _ _ _ hy86).b),trivial⟩ fun _ _ H88 hb => ?_
  replace hS:=hS.below hb
  have hd:=hS.hand [0] [] rfl rfl
  refine m_stp0 [4,120] (fS [4,120] [vP b1,vI y86.2]) H88 rfl rfl rfl (o_store (cT y86.1) H88 hd rfl rfl (by kernel_rfl) rfl rfl rfl) rfl fun _ _ H90 hq => ?_
  obtain ⟨_,hq⟩:=hq
  replace hS : SH M X w [eB b1 (cT y86.1)] _:=hS.join [0] [] rfl rfl hq
  refine wl_batch 6 7 [] [4,5] (fS [4,5] [vP b1,vI y86.2]) [] H90 (by decide) (by kernel_rfl) trivial fun _ _ H92 hb => ?_
  replace hS:=hS.below hb
  apply wl_end rfl
  apply w_ret
  obtain rfl:=someE hm
  exact retR2 H92 rfl (oneRes_agg rfl (hS.bk 0 rfl) Tryz.underlying61 rfl (by kernel_rfl)) rfl ⟨_,rfl,rfl,(hS.sel [] rfl)⟩
 replace hm:=bF hc hm
 refine s_reg [(vU (r02_mark (bat s i)))] [0,1,4,6,121] (fS [0,1,4,6,121] [vS s,vI i,vP b1,vU (bat s i),vB ((r02_mark (bat s i)) != 0)]) [rB 113 [vU (bat s i)] (vU (r02_mark (bat s i)))] H85 (by kernel_rfl) ⟨((r02_mark_ok _).b),trivial⟩ fun _ _ H94 hb => ?_
 replace hS:=hS.below hb
 refine w_if H94 rfl (fun hc => ?c108) (fun hc => ?_)
 case c108 =>
  replace hm:=bT hc hm
  apply w_seq
  apply wl_start
  refine wl_batch 0 5 [(vU (r02_mark (bat s i)))] [4,127,129] (fS [4,127,129] [vP b1,vG [vU (r02_mark (bat s i)),vN,vI 0,vN,vF],vI (w64 (i + 1))]) [rB 113 [vU (bat s i)] (vU (r02_mark (bat s i)))] H94 (by decide) (by kernel_rfl) ⟨((r02_mark_ok _).b),trivial⟩ fun _ _ H96 hb => ?_
  replace hS:=hS.below hb
  have hd:=hS.hand [0] [] rfl rfl
  refine m_stp0 [4,129] (fS [4,129] [vP b1,vI (w64 (i + 1))]) H96 rfl rfl rfl (o_store [vU (r02_mark (bat s i)),vN,vI 0,vN,vF] H96 hd rfl rfl (by kernel_rfl) rfl rfl rfl) rfl fun _ _ H98 hq => ?_
  obtain ⟨_,hq⟩:=hq
  replace hS : SH M X w [eB b1 [vU (r02_mark (bat s i)),vN,vI 0,vN,vF]] _:=hS.join [0] [] rfl rfl hq
  refine wl_batch 6 7 [] [4,5] (fS [4,5] [vP b1,vI (w64 (i + 1))]) [] H98 (by decide) (by kernel_rfl) trivial fun _ _ H100 hb => ?_
  replace hS:=hS.below hb
  apply wl_end rfl
  apply w_ret
  obtain rfl:=someE hm
  exact retR2 H100 rfl (oneRes_agg rfl (hS.bk 0 rfl) Tryz.underlying61 rfl (by kernel_rfl)) rfl ⟨_,rfl,rfl,(hS.sel [] rfl)⟩
 replace hm:=bF hc hm
 apply w_skip
 apply w_seq
 apply wl_start
 obtain ⟨ho101,hm⟩:=chkE hm
 refine wl_batch 0 8 [] [4,135,137] (fS [4,135,137] [vP b1,vG [vU 9,vS (sub s i (w64 (i + 1))),vI 0,vN,vF],vI (w64 (i + 1))]) [fun _ => 0 ≤ i ∧ i ≤ (w64 (i + 1)) ∧ (w64 (i + 1)) ≤ ln s] H94 (by decide) (by kernel_rfl) ⟨ho101,trivial⟩ fun _ _ H103 hb => ?_
 replace hS:=hS.below hb
 have hd:=hS.hand [0] [] rfl rfl
 refine m_stp0 [4,137] (fS [4,137] [vP b1,vI (w64 (i + 1))]) H103 rfl rfl rfl (o_store [vU 9,vS (sub s i (w64 (i + 1))),vI 0,vN,vF] H103 hd rfl rfl (by kernel_rfl) rfl rfl rfl) rfl fun _ _ H105 hq => ?_
 obtain ⟨_,hq⟩:=hq
 replace hS : SH M X w [eB b1 [vU 9,vS (sub s i (w64 (i + 1))),vI 0,vN,vF]] _:=hS.join [0] [] rfl rfl hq
 refine wl_batch 9 10 [] [4,5] (fS [4,5] [vP b1,vI (w64 (i + 1))]) [] H105 (by decide) (by kernel_rfl) trivial fun _ _ H107 hb => ?_
 replace hS:=hS.below hb
 apply wl_end rfl
 apply w_ret
 obtain rfl:=someE hm
 exact retR2 H107 rfl (oneRes_agg rfl (hS.bk 0 rfl) Tryz.underlying61 rfl (by kernel_rfl)) rfl ⟨_,rfl,rfl,(hS.sel [] rfl)⟩
theorem r02_One_ok  (m : Nat) (s : Str) (i : Int) (r : TToken × Int) (hm : r02_One m s i = some r) : Ret Tryz.prog 95 ⟨[vS s,vI i]⟩ (vW [vG (cT r.1),vI r.2]):=retP_of (Tryz.call95 _) (fun w h => r02_One_w F0 m   s i r hm w h)

def tyA2_int : Ty TA2_int where
  z:=2
  enc:=fun x g => [vI x.e0,vI x.e1]
  inn:=fun _ _ _ _ => True
  len:=fun _ _ => rfl
  one:=fun _ _ => rfl
  kp:=fun _ _ _ => trivial
  anti:=fun _ _ => trivial
  fresh:=fun _ => trivial
theorem r02_Cut_w  (M : Av) (m : Nat) (s : Str) (r : (List TToken) × (List TA2_int)) (hm : r02_Cut m s = some r) (w : World) (hS : S0 M [] w) : Calls Tryz.prog 82 ⟨[vS s]⟩ w (fun e w' => ∃ v,e = .returned v ∧ ∃ (g901 : Gh) (g903 : Gh),v = vW [vL g901 r.1,vL g903 r.2] ∧ SH M (fpl []) w [eO 61 tyToken r.1 g901,eO 147 tyA2_int r.2 g903] w'):=by
 rw [r02_Cut] at hm
 have hS0 : SH M (fpl []) w [] w:=hS
 generalize hX : fpl [] = X at hS0 ⊢
 clear hS hX
 have hS:=hS0
 clear hS0
 refine calls_entryP Tryz.func82 rfl Tryz.ntmps82 rfl fun _ H => ?_
 refine s_reg [] [0] [(0,[],vS s)] [] H (by kernel_rfl) trivial fun _ _ H2 hb => ?_
 replace hS:=hS.below hb
 refine s_reg [] [0,4] (fS [0,4] [vS s,vO]) [] H2 (by kernel_rfl) trivial fun _ _ H4 hb => ?_
 replace hS:=hS.below hb
 refine s_reg [] [0,4,5] (fS [0,4,5] [vS s,vO,vO]) [] H4 (by kernel_rfl) trivial fun _ _ H6 hb => ?_
 replace hS:=hS.below hb
 obtain ⟨z7,hz,hm⟩:=bindE hm
 refine w_cut (fun a' w' => ∃ (g59 : Gh) (g61 : Gh),Fr 36 (fS [4,5] [vL g59 z7.1,vL g61 z7.2]) a' ∧ SH M X w [eO 61 tyToken z7.1 g59,eO 147 tyA2_int z7.2 g61] w') ?_ ?_
 ·replace hm:=hz
  obtain ⟨y8,hy8,hm⟩:=bindE hm
  refine s_reg [(vI y8)] [0,4,5,6] (fS [0,4,5,6] [vS s,vO,vO,vI y8]) [rB 94 [vS s,vI 0] (vI y8)] H6 (by kernel_rfl) ⟨((r02_Past_ok m _ _ _ hy8).b),trivial⟩ fun _ _ H10 hb => ?_
  replace hS:=hS.below hb
  apply w_block
  replace hS : SH M X w [eO 61 tyToken ([] : List TToken) (.nil)] _:=hS.addNil 61 tyToken
  replace hS : SH M X w [eO 147 tyA2_int ([] : List TA2_int) (.nil),eO 61 tyToken ([] : List TToken) (.nil)] _:=hS.addNil 147 tyA2_int
  refine w_loop (fun kk a' w' => ∃ (v13 : List TToken) (v15 : List TA2_int) (v17 : Int) (g14 : Gh) (g16 : Gh),r02_Cut_L1 m s kk v13 v15 v17 = some _ ∧ Fr 36 (fS [0,4,5,6] [vS s,vL g14 v13,vL g16 v15,vI v17]) a' ∧ SH M X w [eO 147 tyA2_int v15 g16,eO 61 tyToken v13 g14] w') ⟨_,([] : List TToken),([] : List TA2_int),y8,Gh.nil,Gh.nil,hm,FrG.keep (ks:=[0,4,5,6]) H10 (by kernel_rfl),hS⟩ ?_
  clear hm H10 hS
  rintro kk _ _ ⟨v13,v15,v17,g14,g16,hm,H,hS⟩
  cases kk with
  | zero => exact noneE hm
  | succ kk =>
   rw [r02_Cut_L1] at hm
   apply w_seq
   refine s_reg [] [0,4,5,6,14] (fS [0,4,5,6,14] [vS s,vL g14 v13,vL g16 v15,vI v17,vB (decide (v17 < (ln s)))]) [] H (by kernel_rfl) trivial fun _ _ H19 hb => ?_
   replace hS:=hS.below hb
   refine w_if H19 rfl (fun hc => ?_) (fun hc => ?c57)
   case c57 =>
    replace hm:=bF hc hm
    apply w_exit rfl
    obtain rfl:=someE hm
    replace hS : SH M X w [eO 61 tyToken v13 g14,eO 147 tyA2_int v15 g16] _:=hS.sel [1,0] rfl
    exact ⟨g14,g16,FrG.keep (ks:=[4,5]) H19 (by kernel_rfl),hS⟩
   replace hm:=bT hc hm
   apply w_skip
   apply w_block
   apply w_seq
   apply wl_start
   obtain ⟨y20,hy20,hm⟩:=bindE hm
   refine wl_batch 0 6 [(vW [vG (cT y20.1),vI y20.2])] [0,4,5,6,19,20] (fS [0,4,5,6,19,20] [vS s,vL g14 v13,vL g16 v15,vI v17,vG (cT y20.1),vI y20.2]) [rB 95 [vS s,vI v17] (vW [vG (cT y20.1),vI y20.2])] H19 (by decide) (by kernel_rfl) ⟨((r02_One_ok m _ _ _ hy20).b),trivial⟩ fun _ _ H22 hb => ?_
   replace hS:=hS.below hb
   have hd:=hS.hand [] [0,1] rfl rfl
   refine m_stp [7,0,4,5,6,19,20] (fS [0,4,5,6,19,20] [vS s,vL g14 v13,vL g16 v15,vI v17,vG (cT y20.1),vI y20.2]) H22 rfl rfl rfl rfl (o_alloc [vU 0,vN,vI 0,vN,vF] (z:=vG [vU 0,vN,vI 0,vN,vF]) hd (by kernel_rfl) rfl) (fun _ => rfl) fun _ _ v H25 hq => ?_
   obtain ⟨b23,rfl,hq⟩:=hq
   replace hS : SH M X w [eB b23 [vU 0,vN,vI 0,vN,vF],eO 147 tyA2_int v15 g16,eO 61 tyToken v13 g14] _:=hS.join [] [0,1] rfl rfl hq
   have hd:=hS.hand [0] [1,2] rfl rfl
   refine m_stp0 [0,4,5,6,7,20] (fS [0,4,5,6,7,20] [vS s,vL g14 v13,vL g16 v15,vI v17,vP b23,vI y20.2]) H25 rfl rfl rfl (o_store (cT y20.1) H25 hd rfl rfl (by kernel_rfl) rfl rfl rfl) rfl fun _ _ H27 hq => ?_
   obtain ⟨_,hq⟩:=hq
   replace hS : SH M X w [eB b23 (cT y20.1),eO 147 tyA2_int v15 g16,eO 61 tyToken v13 g14] _:=hS.join [0] [1,2] rfl rfl hq
   refine wl_batch 8 9 [] [0,4,5,6,7,8] (fS [0,4,5,6,7,8] [vS s,vL g14 v13,vL g16 v15,vI v17,vP b23,vI y20.2]) [] H27 (by decide) (by kernel_rfl) trivial fun _ _ H29 hb => ?_
   replace hS:=hS.below hb
   apply wl_end rfl
   apply w_seq
   apply wl_start
   refine wl_batch 0 2 [(vG (cT y20.1))] [0,5,6,8,21,22] (fS [0,5,6,8,21,22] [vS s,vL g16 v15,vI v17,vI y20.2,vL g14 v13,vG (cT y20.1)]) [rN b23 0 (cT y20.1)] H29 (by decide) (by kernel_rfl) ⟨((hS.bk 0 rfl).atD rfl),trivial⟩ fun _ _ H31 hb => ?_
   replace hS:=hS.below hb
   have hd:=hS.hand [] [0,1,2] rfl rfl
   refine m_stp [23,0,5,6,8,21] (fS [0,5,6,8,21] [vS s,vL g16 v15,vI v17,vI y20.2,vL g14 v13]) H31 rfl rfl rfl rfl (o_lit (T:=tyToken) (E:=61) (zv:=vG [vU 0,vN,vI 0,vN,vF]) (cT y20.1) ([y20.1] : List TToken) [gL []] _ H31 hd rfl (by kernel_rfl) (by kernel_rfl) (by kernel_rfl) (by kernel_rfl) (by kernel_rfl) (by kernel_rfl) (by kernel_rfl) rfl (InnL.cons trivial InnL.nil)) (fun _ => rfl) fun _ _ v H35 hq => ?_
   obtain ⟨g32,rfl,hq⟩:=hq
   replace hS : SH M X w [eO 61 tyToken ([y20.1] : List TToken) g32,eB b23 (cT y20.1),eO 147 tyA2_int v15 g16,eO 61 tyToken v13 g14] _:=hS.join [] [0,1,2] rfl rfl hq
   obtain ⟨ho36,hm⟩:=chkE hm
   obtain ⟨q37,hq37,hm⟩:=letE hm
   have hd:=hS.hand [3,0] [1,2] rfl rfl
   refine m_stp [24,0,5,6,8] (fS [0,5,6,8] [vS s,vL g16 v15,vI v17,vI y20.2]) H35 rfl rfl rfl rfl (o_app2 (T:=tyToken) (zv:=vG [vU 0,vN,vI 0,vN,vF]) (g1:=g14) (g2:=g32) (l1:=v13) (l2:=([y20.1] : List TToken)) q37 hq37.symm H35 hd rfl rfl rfl rfl rfl rfl rfl (by kernel_rfl) (by kernel_rfl) rfl rfl ho36) (fun _ => rfl) fun _ _ v H39 hq => ?_
   obtain ⟨g40,rfl,hq⟩:=hq
   replace hS : SH M X w [eO 61 tyToken q37 g40,eO 61 tyToken ([y20.1] : List TToken) g32,eB b23 (cT y20.1),eO 147 tyA2_int v15 g16] _:=hS.join [3,0] [1,2] rfl rfl hq
   refine wl_batch 4 8 [] [0,8,24,25,28] (fS [0,8,24,25,28] [vS s,vI y20.2,vL g40 q37,vL g16 v15,vG [vI v17,vI y20.2]]) [] H39 (by decide) (by kernel_rfl) trivial fun _ _ H42 hb => ?_
   replace hS:=hS.below hb
   have hd:=hS.hand [] [0,1,2,3] rfl rfl
   refine m_stp [29,0,8,24,25] (fS [0,8,24,25] [vS s,vI y20.2,vL g40 q37,vL g16 v15]) H42 rfl rfl rfl rfl (o_lit (T:=tyA2_int) (E:=147) (zv:=vG [vI 0,vI 0]) [vI v17,vI y20.2] ([(TA2_int.mk v17 y20.2)] : List TA2_int) [gL []] _ H42 hd rfl (by kernel_rfl) (by kernel_rfl) (by kernel_rfl) (by kernel_rfl) (by kernel_rfl) (by kernel_rfl) (by kernel_rfl) rfl (InnL.cons trivial InnL.nil)) (fun _ => rfl) fun _ _ v H46 hq => ?_
   obtain ⟨g43,rfl,hq⟩:=hq
   replace hS : SH M X w [eO 147 tyA2_int ([(TA2_int.mk v17 y20.2)] : List TA2_int) g43,eO 61 tyToken q37 g40,eO 61 tyToken ([y20.1] : List TToken) g32,eB b23 (cT y20.1),eO 147 tyA2_int v15 g16] _:=hS.join [] [0,1,2,3] rfl rfl hq
   obtain ⟨ho47,hm⟩:=chkE hm
   obtain ⟨q48,hq48,hm⟩:=letE hm
   have hd:=hS.hand [4,0] [1,2,3] rfl rfl
   refine m_stp [30,0,8,24] (fS [0,8,24] [vS s,vI y20.2,vL g40 q37]) H46 rfl rfl rfl rfl (o_app2 (T:=tyA2_int) (zv:=vG [vI 0,vI 0]) (g1:=g16) (g2:=g43) (l1:=v15) (l2:=([(TA2_int.mk v17 y20.2)] : List TA2_int)) q48 hq48.symm H46 hd rfl rfl rfl rfl rfl rfl rfl (by kernel_rfl) (by kernel_rfl) rfl rfl ho47) (fun _ => rfl) fun _ _ v H50 hq => ?_
   obtain ⟨g51,rfl,hq⟩:=hq
   replace hS : SH M X w [eO 147 tyA2_int q48 g51,eO 147 tyA2_int ([(TA2_int.mk v17 y20.2)] : List TA2_int) g43,eO 61 tyToken q37 g40,eO 61 tyToken ([y20.1] : List TToken) g32,eB b23 (cT y20.1)] _:=hS.join [4,0] [1,2,3] rfl rfl hq
   refine wl_batch 10 12 [] [0,4,5,8] (fS [0,4,5,8] [vS s,vL g40 q37,vL g51 q48,vI y20.2]) [] H50 (by decide) (by kernel_rfl) trivial fun _ _ H53 hb => ?_
   replace hS:=hS.below hb
   apply wl_end rfl
   replace hS : SH M X w [eO 147 tyA2_int q48 g51,eO 61 tyToken q37 g40] _:=hS.sel [0,2] rfl
   obtain ⟨y54,hy54,hm⟩:=bindE hm
   refine w_reg [(vI y54)] [0,4,5,6] (fS [0,4,5,6] [vS s,vL g40 q37,vL g51 q48,vI y54]) [rB 94 [vS s,vI y20.2] (vI y54)] H53 (by kernel_rfl) ⟨((r02_Past_ok m _ _ _ hy54).b),trivial⟩ fun _ _ H56 hb => ?_
   replace hS:=hS.below hb
   exact ⟨_,Nat.lt_succ_self _,q37,q48,y54,g40,g51,hm,FrG.keep (ks:=[0,4,5,6]) H56 (by kernel_rfl),hS⟩
 ·rintro _ _ ⟨g59,g61,H,hS⟩
  refine s_reg [] [2,3] (fS [2,3] [vL g59 z7.1,vL g61 z7.2]) [] H (by kernel_rfl) trivial fun _ _ H64 hb => ?_
  replace hS:=hS.below hb
  apply w_ret
  obtain rfl:=someE hm
  exact retR2 H64 rfl rfl rfl ⟨_,rfl,g59,g61,rfl,(hS.sel [0,1] rfl)⟩
theorem r02_Cut_ok  (m : Nat) (s : Str) (r : (List TToken) × (List TA2_int)) (hm : r02_Cut m s = some r) (M : Av) (w : World) (hS : S0 M [] w) : DoesX Tryz.prog 82 ⟨[vS s]⟩ w (fun v w' => ∃ (g901 : Gh) (g903 : Gh),v = vW [vL g901 r.1,vL g903 r.2] ∧ SH M (fpl []) w [eO 61 tyToken r.1 g901,eO 147 tyA2_int r.2 g903] w'):=⟨Tryz.call82 _,r02_Cut_w M m   s r hm w hS⟩

theorem r02_Tokens_w  (M : Av) (m : Nat) (s : Str) (r : (List TToken) × Int) (hm : r02_Tokens m s = some r) (w : World) (hS : S0 M [] w) : Calls Tryz.prog 64 ⟨[vS s]⟩ w (fun e w' => ∃ v,e = .returned v ∧ ∃ (g901 : Gh),v = vW [vL g901 r.1,vI r.2] ∧ SH M (fpl []) w [eO 61 tyToken r.1 g901] w'):=by
 rw [r02_Tokens] at hm
 have hS0 : SH M (fpl []) w [] w:=hS
 generalize hX : fpl [] = X at hS0 ⊢
 clear hS hX
 have hS:=hS0
 clear hS0
 refine calls_entryP Tryz.func64 rfl Tryz.ntmps64 rfl fun _ H => ?_
 refine s_reg [] [0] [(0,[],vS s)] [] H (by kernel_rfl) trivial fun _ _ H2 hb => ?_
 replace hS:=hS.below hb
 obtain ⟨y3,hy3,hm⟩:=bindE hm
 refine s_reg [(vW [vS y3.1,vI y3.2])] [4,5] (fS [4,5] [vS y3.1,vI y3.2]) [rB 81 [vS s] (vW [vS y3.1,vI y3.2])] H2 (by kernel_rfl) ⟨((r01_Clean_ok m _ _ hy3).b),trivial⟩ fun _ _ H5 hb => ?_
 replace hS:=hS.below hb
 apply w_seq
 refine s_reg [] [4,5,14] (fS [4,5,14] [vS y3.1,vI y3.2,vB (y3.2 != 0)]) [] H5 (by kernel_rfl) trivial fun _ _ H7 hb => ?_
 replace hS:=hS.below hb
 refine w_if H7 rfl (fun hc => ?c30) (fun hc => ?_)
 case c30 =>
  replace hm:=bT hc hm
  refine s_reg [] [2,3] (fS [2,3] [vO,vI y3.2]) [] H7 (by kernel_rfl) trivial fun _ _ H9 hb => ?_
  replace hS:=hS.below hb
  apply w_ret
  obtain rfl:=someE hm
  replace hS : SH M X w [eO 61 tyToken ([] : List TToken) (.nil)] _:=hS.addNil 61 tyToken
  exact retR2 H9 rfl rfl rfl ⟨_,rfl,Gh.nil,rfl,(hS.sel [0] rfl)⟩
 replace hm:=bF hc hm
 apply w_skip
 apply w_seq
 apply wl_start
 refine wl_batch 0 1 [] [17] [(17,[],vS y3.1)] [] H7 (by decide) (by kernel_rfl) trivial fun _ _ H12 hb => ?_
 replace hS:=hS.below hb
 obtain ⟨y13,hy13,hm⟩:=bindE hm
 have hd:=hS.hand [] [] rfl rfl
 refine m_stp [18] [] H12 rfl rfl rfl rfl (o_callx H12 rfl rfl (r02_Cut_ok m _ _ hy13 _ _ hd)) (fun _ => rfl) fun _ _ v H19 hq => ?_
 obtain ⟨g14,g16,rfl,hq⟩:=hq
 replace hS : SH M X w [eO 61 tyToken y13.1 g14,eO 147 tyA2_int y13.2 g16] _:=hS.join [] [] rfl rfl hq
 refine wl_batch 2 7 [] [6] [(6,[],vL g14 y13.1)] [] H19 (by decide) (by kernel_rfl) trivial fun _ _ H21 hb => ?_
 replace hS:=hS.below hb
 apply wl_end rfl
 replace hS : SH M X w [eO 61 tyToken y13.1 g14] _:=hS.sel [0] rfl
 apply w_seq
 refine s_reg [] [6,23] (fS [6,23] [vL g14 y13.1,vB (decide (1500 < (ln y13.1)))]) [] H21 (by kernel_rfl) trivial fun _ _ H23 hb => ?_
 replace hS:=hS.below hb
 refine w_if H23 rfl (fun hc => ?_) (fun hc => ?c29)
 case c29 =>
  replace hm:=bF hc hm
  apply w_skip
  refine s_reg [] [2,3] (fS [2,3] [vL g14 y13.1,vI 0]) [] H23 (by kernel_rfl) trivial fun _ _ H28 hb => ?_
  replace hS:=hS.below hb
  apply w_ret
  obtain rfl:=someE hm
  exact retR2 H28 rfl rfl rfl ⟨_,rfl,g14,rfl,(hS.sel [0] rfl)⟩
 replace hm:=bT hc hm
 refine s_reg [] [2,3] (fS [2,3] [vO,vI 4]) [] H23 (by kernel_rfl) trivial fun _ _ H25 hb => ?_
 replace hS:=hS.below hb
 replace hS : SH M X w [] _:=hS.sel [] rfl
 apply w_ret
 obtain rfl:=someE hm
 replace hS : SH M X w [eO 61 tyToken ([] : List TToken) (.nil)] _:=hS.addNil 61 tyToken
 exact retR2 H25 rfl rfl rfl ⟨_,rfl,Gh.nil,rfl,(hS.sel [0] rfl)⟩
theorem r02_Tokens_ok  (m : Nat) (s : Str) (r : (List TToken) × Int) (hm : r02_Tokens m s = some r) (M : Av) (w : World) (hS : S0 M [] w) : DoesX Tryz.prog 64 ⟨[vS s]⟩ w (fun v w' => ∃ (g901 : Gh),v = vW [vL g901 r.1,vI r.2] ∧ SH M (fpl []) w [eO 61 tyToken r.1 g901] w'):=⟨Tryz.call64 _,r02_Tokens_w M m   s r hm w hS⟩

theorem r04_Closer_w  (M : Av) (kind : Int) (r : Int) (hm : r04_Closer kind = r) (w : World) (hS : S0 M [] w) : Calls Tryz.prog 66 ⟨[vU kind]⟩ w (fun e w' => ∃ v,e = .returned v ∧ v = vU r ∧ SH M (fpl []) w [] w'):=by
 rw [r04_Closer] at hm
 have hS0 : SH M (fpl []) w [] w:=hS
 generalize hX : fpl [] = X at hS0 ⊢
 clear hS hX
 have hS:=hS0
 clear hS0
 refine calls_entryP Tryz.func66 rfl Tryz.ntmps66 rfl fun _ H => ?_
 refine s_reg [] [0] [(0,[],vU kind)] [] H (by kernel_rfl) trivial fun _ _ H2 hb => ?_
 replace hS:=hS.below hb
 apply w_seq
 refine s_reg [] [3] [(3,[],vU kind)] [] H2 (by kernel_rfl) trivial fun _ _ H4 hb => ?_
 replace hS:=hS.below hb
 apply w_block
 refine s_reg [] [3,4] (fS [3,4] [vU kind,vB (kind == 19)]) [] H4 (by kernel_rfl) trivial fun _ _ H6 hb => ?_
 replace hS:=hS.below hb
 refine w_if H6 rfl (fun hc => ?c26) (fun hc => ?_)
 case c26 =>
  replace hm:=bT hc hm
  refine s_reg [] [2] [(2,[],vU 20)] [] H6 (by kernel_rfl) trivial fun _ _ H8 hb => ?_
  replace hS:=hS.below hb
  apply w_ret
  subst hm
  exact retR1 H8 rfl rfl ⟨_,rfl,rfl,(hS.sel [] rfl)⟩
 replace hm:=bF hc hm
 obtain ⟨z9,hz,hm⟩:=letE hm
 refine w_cut (fun a' w' => Fr 11 (fS [3,6] [vU kind,vB z9]) a' ∧ SH M X w [] w') ?_ ?_
 ·replace hm:=hz.symm
  refine s_reg [] [3,6] (fS [3,6] [vU kind,vB (kind == 21)]) [] H6 (by kernel_rfl) trivial fun _ _ H11 hb => ?_
  replace hS:=hS.below hb
  refine w_if H11 rfl (fun hc => ?c14) (fun hc => ?_)
  case c14 =>
   replace hm:=bT hc hm
   apply w_skip
   subst hm
   exact ⟨FrG.keep (ks:=[3,6]) H11 (by kernel_rfl),hS⟩
  replace hm:=bF hc hm
  refine w_reg [] [3,6] (fS [3,6] [vU kind,vB (kind == 2)]) [] H11 (by kernel_rfl) trivial fun _ _ H13 hb => ?_
  replace hS:=hS.below hb
  subst hm
  exact ⟨FrG.keep (ks:=[3,6]) H13 (by kernel_rfl),hS⟩
 ·rintro _ _ ⟨H,hS⟩
  refine w_if H rfl (fun hc => ?c24) (fun hc => ?_)
  case c24 =>
   replace hm:=bT hc hm
   refine s_reg [] [2] [(2,[],vU 22)] [] H (by kernel_rfl) trivial fun _ _ H16 hb => ?_
   replace hS:=hS.below hb
   apply w_ret
   subst hm
   exact retR1 H16 rfl rfl ⟨_,rfl,rfl,(hS.sel [] rfl)⟩
  replace hm:=bF hc hm
  refine s_reg [] [9] [(9,[],vB (kind == 23))] [] H (by kernel_rfl) trivial fun _ _ H18 hb => ?_
  replace hS:=hS.below hb
  refine w_if H18 rfl (fun hc => ?c23) (fun hc => ?_)
  case c23 =>
   replace hm:=bT hc hm
   refine s_reg [] [2] [(2,[],vU 24)] [] H18 (by kernel_rfl) trivial fun _ _ H20 hb => ?_
   replace hS:=hS.below hb
   apply w_ret
   subst hm
   exact retR1 H20 rfl rfl ⟨_,rfl,rfl,(hS.sel [] rfl)⟩
  replace hm:=bF hc hm
  apply w_skip
  refine s_reg [] [2] [(2,[],vU 0)] [] H18 (by kernel_rfl) trivial fun _ _ H22 hb => ?_
  replace hS:=hS.below hb
  apply w_ret
  subst hm
  exact retR1 H22 rfl rfl ⟨_,rfl,rfl,(hS.sel [] rfl)⟩
theorem r04_Closer_ok  (kind : Int) : Ret Tryz.prog 66 ⟨[vU kind]⟩ (vU (r04_Closer kind)):=retP_of (Tryz.call66 _) (fun w h => r04_Closer_w F0   kind _ rfl w h)

def r04_values_S (rec_ : (List TToken) → Int → Int → Int → Option ((List TValue) × Int)) : Prop:=∀ (g_l_ : Gh) (M : Av) (l_ : List TToken) (i : Int) (closer : Int) (left : Int) (r : (List TValue) × Int),rec_ l_ i closer left = some r → ∀ w,S0 M [eI tyToken l_ g_l_] w → Calls Tryz.prog 96 ⟨[vL g_l_ l_,vI i,vU closer,vI left]⟩ w (fun e w' => ∃ v,e = .returned v ∧ ∃ (g901 : Gh),v = vW [vL g901 r.1,vI r.2] ∧ SH M (fpl [eI tyToken l_ g_l_]) w [eO 63 tyValue r.1 g901] w')
theorem r04_values_w (m : Nat) : ∀ (k : Nat),r04_values_S (r04_values_r m  k):=by
 intro k
 induction k with
 | zero => intro g_l_ M l_ i closer left r hm; exact noneE hm
 | succ k ih =>
  intro g_l_ M l_ i closer left r hm w hS
  rw [r04_values_r] at hm
  have hS0 : SH M (fpl [eI tyToken l_ g_l_]) w [eI tyToken l_ g_l_] w:=hS
  generalize hX : fpl [eI tyToken l_ g_l_] = X at hS0 ⊢
  clear hS hX
  have hS:=hS0
  clear hS0
  refine calls_entryP Tryz.func96 rfl Tryz.ntmps96 rfl fun _ H => ?_
  refine s_reg [] [0,1,2,3] (fS [0,1,2,3] [vL g_l_ l_,vI i,vU closer,vI left]) [] H (by kernel_rfl) trivial fun _ _ H2 hb => ?_
  replace hS:=hS.below hb
  refine s_reg [] [0,1,2,3,10] (fS [0,1,2,3,10] [vL g_l_ l_,vI i,vU closer,vI left,vO]) [] H2 (by kernel_rfl) trivial fun _ _ H4 hb => ?_
  replace hS:=hS.below hb
  obtain ⟨z5,hz,hm_z5⟩:=bindE hm
  refine w_cut (fun a' w' => ∃ s_z5 : Int × (List TValue),z5 = Sum.inr s_z5 ∧ ∃ (g74 : Gh),Fr 67 (fS [0,1,10] [vL g_l_ l_,vI s_z5.1,vL g74 s_z5.2]) a' ∧ SH M X w [eO 63 tyValue s_z5.2 g74,eI tyToken l_ g_l_] w') ?_ ?_
  ·replace hm:=hz
   apply w_block
   replace hS : SH M X w [eO 63 tyValue ([] : List TValue) (.nil),eI tyToken l_ g_l_] _:=hS.addNil 63 tyValue
   refine w_loop (fun kk a' w' => ∃ (v7 : Int) (v8 : List TValue) (g9 : Gh),r04_values_L1 m l_ closer left (r04_values_r m k) kk v7 v8 = some _ ∧ Fr 67 (fS [0,2,3,1,10] [vL g_l_ l_,vU closer,vI left,vI v7,vL g9 v8]) a' ∧ SH M X w [eO 63 tyValue v8 g9,eI tyToken l_ g_l_] w') ⟨_,i,([] : List TValue),Gh.nil,hm,FrG.keep (ks:=[0,2,3,1,10]) H4 (by kernel_rfl),hS⟩ ?_
   clear hm H4 hS
   rintro kk _ _ ⟨v7,v8,g9,hm,H,hS⟩
   cases kk with
   | zero => exact noneE hm
   | succ kk =>
    rw [r04_values_L1] at hm
    apply w_seq
    obtain ⟨ho10,hm⟩:=chkE hm
    obtain ⟨x11,hx11,hm⟩:=letE hm
    refine s_reg [(vU ((gi l_ v7).Kind))] [0,1,2,3,10,29] (fS [0,1,2,3,10,29] [vL g_l_ l_,vI v7,vU closer,vI left,vL g9 v8,vB x11]) [fun _ => ((closer == 0) = false ∧ (decide (v7 < (ln l_))) = true ∧ True → oka g_l_.a ∧ 0 ≤ v7 ∧ v7 < ln l_),fun wz => ((closer == 0) = false ∧ (decide (v7 < (ln l_))) = true ∧ True → V.at1 ⟨ab g_l_.a,ao g_l_.a + (v7).toNat * 5,none⟩ (vU ((gi l_ v7).Kind)) wz)] H (by subst hx11; kernel_rfl) ⟨fun hg => (hS.im 1 rfl).oki (ho10 hg.1 hg.2.1),fun hg => (hS.im 1 rfl).at1 (ho10 hg.1 hg.2.1) 0 rfl,trivial⟩ fun _ _ H13 hb => ?_
    replace hS:=hS.below hb
    refine w_if H13 rfl (fun hc => ?_) (fun hc => ?c72)
    case c72 =>
     replace hm:=bF hc hm
     apply w_exit rfl
     obtain rfl:=someE hm
     exact ⟨_,rfl,g9,FrG.keep (ks:=[0,1,10]) H13 (by kernel_rfl),hS⟩
    replace hm:=bT hc hm
    apply w_skip
    apply w_block
    apply w_seq
    apply wl_start
    obtain ⟨ho14,hm⟩:=chkE hm
    refine wl_batch 0 5 [(vG [vU ((gi l_ v7).Kind),vS (gi l_ v7).Text,vI ((gi l_ v7).Num),vS (gi l_ v7).Unit,vB ((gi l_ v7).Flag)])] [0,1,2,3,10,34] (fS [0,1,2,3,10,34] [vL g_l_ l_,vI v7,vU closer,vI left,vL g9 v8,vG [vU ((gi l_ v7).Kind),vS (gi l_ v7).Text,vI ((gi l_ v7).Num),vS (gi l_ v7).Unit,vB ((gi l_ v7).Flag),vO]]) [fun _ => oka g_l_.a ∧ 0 ≤ v7 ∧ v7 < ln l_,fun wz => V.atN (ab g_l_.a) (ao g_l_.a + (v7).toNat * 5) [vU ((gi l_ v7).Kind),vS (gi l_ v7).Text,vI ((gi l_ v7).Num),vS (gi l_ v7).Unit,vB ((gi l_ v7).Flag)] 0 wz] H13 (by decide) (by kernel_rfl) ⟨((hS.im 1 rfl).oki ho14),((hS.im 1 rfl).atA ho14 0 rfl),trivial⟩ fun _ _ H16 hb => ?_
    replace hS:=hS.below hb
    have hd:=hS.hand [] [0,1] rfl rfl
    refine m_stp [11,0,1,2,3,10,34] (fS [0,1,2,3,10,34] [vL g_l_ l_,vI v7,vU closer,vI left,vL g9 v8,vG [vU ((gi l_ v7).Kind),vS (gi l_ v7).Text,vI ((gi l_ v7).Num),vS (gi l_ v7).Unit,vB ((gi l_ v7).Flag),vO]]) H16 rfl rfl rfl rfl (o_alloc [vU 0,vN,vI 0,vN,vF,vO] (z:=vG [vU 0,vN,vI 0,vN,vF,vO]) hd (by kernel_rfl) rfl) (fun _ => rfl) fun _ _ v H19 hq => ?_
    obtain ⟨b17,rfl,hq⟩:=hq
    replace hS : SH M X w [eB b17 [vU 0,vN,vI 0,vN,vF,vO],eO 63 tyValue v8 g9,eI tyToken l_ g_l_] _:=hS.join [] [0,1] rfl rfl hq
    have hd:=hS.hand [0] [1,2] rfl rfl
    refine m_stp0 [0,1,2,3,10,11] (fS [0,1,2,3,10,11] [vL g_l_ l_,vI v7,vU closer,vI left,vL g9 v8,vP b17]) H19 rfl rfl rfl (o_store [vU ((gi l_ v7).Kind),vS (gi l_ v7).Text,vI ((gi l_ v7).Num),vS (gi l_ v7).Unit,vB ((gi l_ v7).Flag),vO] H19 hd rfl rfl (by kernel_rfl) rfl rfl rfl) rfl fun _ _ H21 hq => ?_
    obtain ⟨_,hq⟩:=hq
    replace hS : SH M X w [eB b17 [vU ((gi l_ v7).Kind),vS (gi l_ v7).Text,vI ((gi l_ v7).Num),vS (gi l_ v7).Unit,vB ((gi l_ v7).Flag),vO],eO 63 tyValue v8 g9,eI tyToken l_ g_l_] _:=hS.join [0] [1,2] rfl rfl hq
    apply wl_end rfl
    refine s_reg [] [0,1,2,3,10,11] (fS [0,1,2,3,10,11] [vL g_l_ l_,vI (w64 (v7 + 1)),vU closer,vI left,vL g9 v8,vP b17]) [] H21 (by kernel_rfl) trivial fun _ _ H23 hb => ?_
    replace hS:=hS.below hb
    obtain ⟨z24,hz,hm_z24⟩:=bindE hm
    refine w_cut (fun a' w' => ∃ s_z24 : Int × (List TValue),z24 = Sum.inr s_z24 ∧ ∃ (g56 : Gh),Fr 67 (fS [0,2,3,10,11,1] [vL g_l_ l_,vU closer,vI left,vL g9 v8,vP b17,vI s_z24.1]) a' ∧ SH M X w [eO 63 tyValue s_z24.2 g56,eB b17 [vU ((gi l_ v7).Kind),vS (gi l_ v7).Text,vI ((gi l_ v7).Num),vS (gi l_ v7).Unit,vB ((gi l_ v7).Flag),vL g56 s_z24.2],eO 63 tyValue v8 g9,eI tyToken l_ g_l_] w') ?_ ?_
    ·replace hm:=hz
     refine s_reg [(vU ((gi l_ v7).Kind)),(vU (r04_Closer ((gi l_ v7).Kind)))] [0,1,2,3,10,11,12] (fS [0,1,2,3,10,11,12] [vL g_l_ l_,vI (w64 (v7 + 1)),vU closer,vI left,vL g9 v8,vP b17,vU (r04_Closer ((gi l_ v7).Kind))]) [rA b17 0 (vU ((gi l_ v7).Kind)),rB 66 [vU ((gi l_ v7).Kind)] (vU (r04_Closer ((gi l_ v7).Kind)))] H23 (by kernel_rfl) ⟨((hS.bk 0 rfl).at1 rfl),((r04_Closer_ok _).b),trivial⟩ fun _ _ H26 hb => ?_
     replace hS:=hS.below hb
     refine s_reg [] [0,1,2,3,10,11,12,42] (fS [0,1,2,3,10,11,12,42] [vL g_l_ l_,vI (w64 (v7 + 1)),vU closer,vI left,vL g9 v8,vP b17,vU (r04_Closer ((gi l_ v7).Kind)),vB ((r04_Closer ((gi l_ v7).Kind)) != 0)]) [] H26 (by kernel_rfl) trivial fun _ _ H28 hb => ?_
     replace hS:=hS.below hb
     refine w_if H28 rfl (fun hc => ?_) (fun hc => ?c55)
     case c55 =>
      replace hm:=bF hc hm
      apply w_skip
      obtain rfl:=someE hm
      replace hS : SH M X w [eO 63 tyValue ([] : List TValue) (.nil),eB b17 [vU ((gi l_ v7).Kind),vS (gi l_ v7).Text,vI ((gi l_ v7).Num),vS (gi l_ v7).Unit,vB ((gi l_ v7).Flag),vO],eO 63 tyValue v8 g9,eI tyToken l_ g_l_] _:=hS.addNil 63 tyValue
      exact ⟨_,rfl,Gh.nil,FrG.keep (ks:=[0,2,3,10,11,1]) H28 (by kernel_rfl),hS⟩
     replace hm:=bT hc hm
     apply w_seq
     refine s_reg [] [0,1,2,3,10,11,12,44] (fS [0,1,2,3,10,11,12,44] [vL g_l_ l_,vI (w64 (v7 + 1)),vU closer,vI left,vL g9 v8,vP b17,vU (r04_Closer ((gi l_ v7).Kind)),vB (left == 0)]) [] H28 (by kernel_rfl) trivial fun _ _ H30 hb => ?_
     replace hS:=hS.below hb
     refine w_if H30 rfl (fun hc => ?c53) (fun hc => ?_)
     case c53 =>
      replace hm:=bT hc hm
      refine s_reg [] [8,9] (fS [8,9] [vO,vI (-1)]) [] H30 (by kernel_rfl) trivial fun _ _ H32 hb => ?_
      replace hS:=hS.below hb
      apply w_ret
      obtain rfl:=someE hm
      have hm:=hm_z24
      obtain rfl:=someE hm
      have hm:=hm_z5
      obtain rfl:=someE hm
      replace hS : SH M X w [eO 63 tyValue ([] : List TValue) (.nil),eB b17 [vU ((gi l_ v7).Kind),vS (gi l_ v7).Text,vI ((gi l_ v7).Num),vS (gi l_ v7).Unit,vB ((gi l_ v7).Flag),vO],eO 63 tyValue v8 g9,eI tyToken l_ g_l_] _:=hS.addNil 63 tyValue
      exact retR2 H32 rfl rfl rfl ⟨_,rfl,Gh.nil,rfl,(hS.sel [0] rfl)⟩
     replace hm:=bF hc hm
     apply w_skip
     apply w_seq
     apply wl_start
     refine wl_batch 0 5 [] [0,2,3,10,11,46,47,48,50] (fS [0,2,3,10,11,46,47,48,50] [vL g_l_ l_,vU closer,vI left,vL g9 v8,vP b17,vL g_l_ l_,vI (w64 (v7 + 1)),vU (r04_Closer ((gi l_ v7).Kind)),vI (w64 (left - 1))]) [] H30 (by decide) (by kernel_rfl) trivial fun _ _ H35 hb => ?_
     replace hS:=hS.below hb
     obtain ⟨y36,hy36,hm⟩:=bindE hm
     have hd:=hS.hand [2] [0,1,2] rfl rfl
     refine m_stp [51,0,2,3,10,11] (fS [0,2,3,10,11] [vL g_l_ l_,vU closer,vI left,vL g9 v8,vP b17]) H35 rfl rfl rfl rfl (o_callx H35 rfl rfl (⟨Tryz.call96 _,ih (g_l_) _ _ _ _ _ _ hy36 _ hd⟩ : DoesX _ _ _ _ _)) (fun _ => rfl) fun _ _ v H40 hq => ?_
     obtain ⟨g37,rfl,hq⟩:=hq
     replace hS : SH M X w [eO 63 tyValue y36.1 g37,eB b17 [vU ((gi l_ v7).Kind),vS (gi l_ v7).Text,vI ((gi l_ v7).Num),vS (gi l_ v7).Unit,vB ((gi l_ v7).Flag),vO],eO 63 tyValue v8 g9,eI tyToken l_ g_l_] _:=hS.join [2] [0,1,2] rfl rfl hq
     refine wl_batch 6 10 [] [0,2,3,10,11,52,53,54] (fS [0,2,3,10,11,52,53,54] [vL g_l_ l_,vU closer,vI left,vL g9 v8,vP b17,vL g37 y36.1,vI y36.2,vA b17 5]) [] H40 (by decide) (by kernel_rfl) trivial fun _ _ H42 hb => ?_
     replace hS:=hS.below hb
     have hd:=hS.hand [1] [0,2,3] rfl rfl
     refine m_stp0 [0,2,3,10,11,53] (fS [0,2,3,10,11,53] [vL g_l_ l_,vU closer,vI left,vL g9 v8,vP b17,vI y36.2]) H42 rfl rfl rfl (o_store [vU ((gi l_ v7).Kind),vS (gi l_ v7).Text,vI ((gi l_ v7).Num),vS (gi l_ v7).Unit,vB ((gi l_ v7).Flag),vL g37 y36.1] H42 hd rfl rfl (by kernel_rfl) rfl rfl rfl) rfl fun _ _ H44 hq => ?_
     obtain ⟨_,hq⟩:=hq
     replace hS : SH M X w [eB b17 [vU ((gi l_ v7).Kind),vS (gi l_ v7).Text,vI ((gi l_ v7).Num),vS (gi l_ v7).Unit,vB ((gi l_ v7).Flag),vL g37 y36.1],eO 63 tyValue y36.1 g37,eO 63 tyValue v8 g9,eI tyToken l_ g_l_] _:=hS.join [1] [0,2,3] rfl rfl hq
     refine wl_batch 11 12 [] [0,1,2,3,10,11] (fS [0,1,2,3,10,11] [vL g_l_ l_,vI y36.2,vU closer,vI left,vL g9 v8,vP b17]) [] H44 (by decide) (by kernel_rfl) trivial fun _ _ H46 hb => ?_
     replace hS:=hS.below hb
     apply wl_end rfl
     refine s_reg [] [0,1,2,3,10,11,56] (fS [0,1,2,3,10,11,56] [vL g_l_ l_,vI y36.2,vU closer,vI left,vL g9 v8,vP b17,vB (decide (y36.2 < 0))]) [] H46 (by kernel_rfl) trivial fun _ _ H48 hb => ?_
     replace hS:=hS.below hb
     refine w_if H48 rfl (fun hc => ?_) (fun hc => ?c52)
     case c52 =>
      replace hm:=bF hc hm
      apply w_skip
      obtain rfl:=someE hm
      replace hS : SH M X w [eO 63 tyValue y36.1 g37,eB b17 [vU ((gi l_ v7).Kind),vS (gi l_ v7).Text,vI ((gi l_ v7).Num),vS (gi l_ v7).Unit,vB ((gi l_ v7).Flag),vL g37 y36.1],eO 63 tyValue v8 g9,eI tyToken l_ g_l_] _:=hS.sel [1,0,2,3] rfl
      exact ⟨_,rfl,g37,FrG.keep (ks:=[0,2,3,10,11,1]) H48 (by kernel_rfl),hS⟩
     replace hm:=bT hc hm
     refine s_reg [] [8,9] (fS [8,9] [vO,vI (-1)]) [] H48 (by kernel_rfl) trivial fun _ _ H50 hb => ?_
     replace hS:=hS.below hb
     replace hS : SH M X w [eB b17 [vU ((gi l_ v7).Kind),vS (gi l_ v7).Text,vI ((gi l_ v7).Num),vS (gi l_ v7).Unit,vB ((gi l_ v7).Flag),vL g37 y36.1],eO 63 tyValue v8 g9,eI tyToken l_ g_l_] _:=hS.sel [0,2,3] rfl
     apply w_ret
     obtain rfl:=someE hm
     have hm:=hm_z24
     obtain rfl:=someE hm
     have hm:=hm_z5
     obtain rfl:=someE hm
     replace hS : SH M X w [eO 63 tyValue ([] : List TValue) (.nil),eB b17 [vU ((gi l_ v7).Kind),vS (gi l_ v7).Text,vI ((gi l_ v7).Num),vS (gi l_ v7).Unit,vB ((gi l_ v7).Flag),vL g37 y36.1],eO 63 tyValue v8 g9,eI tyToken l_ g_l_] _:=hS.addNil 63 tyValue
     exact retR2 H50 rfl rfl rfl ⟨_,rfl,Gh.nil,rfl,(hS.sel [0] rfl)⟩
    ·rintro _ _ ⟨s_z24,hz,g56,H,hS⟩
     subst hz
     replace hm:=sumR hm_z24
     apply wl_start
     refine wl_batch 0 2 [(vG [vU ((gi l_ v7).Kind),vS (gi l_ v7).Text,vI ((gi l_ v7).Num),vS (gi l_ v7).Unit,vB ((gi l_ v7).Flag),vL g56 s_z24.2])] [0,1,2,3,57,58] (fS [0,1,2,3,57,58] [vL g_l_ l_,vI s_z24.1,vU closer,vI left,vL g9 v8,vG [vU ((gi l_ v7).Kind),vS (gi l_ v7).Text,vI ((gi l_ v7).Num),vS (gi l_ v7).Unit,vB ((gi l_ v7).Flag),vL g56 s_z24.2]]) [rN b17 0 [vU ((gi l_ v7).Kind),vS (gi l_ v7).Text,vI ((gi l_ v7).Num),vS (gi l_ v7).Unit,vB ((gi l_ v7).Flag),vL g56 s_z24.2]] H (by decide) (by kernel_rfl) ⟨((hS.bk 1 rfl).atD rfl),trivial⟩ fun _ _ H59 hb => ?_
     replace hS:=hS.below hb
     replace hS : SH M X w [eI tyValue s_z24.2 g56,eB b17 [vU ((gi l_ v7).Kind),vS (gi l_ v7).Text,vI ((gi l_ v7).Num),vS (gi l_ v7).Unit,vB ((gi l_ v7).Flag),vL g56 s_z24.2],eO 63 tyValue v8 g9,eI tyToken l_ g_l_] _:=SH.frz1 (hS.sel [0,1,2,3] rfl)
     have hd:=hS.hand [0] [0,1,2,3] rfl rfl
     refine m_stp [59,0,1,2,3,57] (fS [0,1,2,3,57] [vL g_l_ l_,vI s_z24.1,vU closer,vI left,vL g9 v8]) H59 rfl rfl rfl rfl (o_lit (T:=tyValue) (E:=63) (zv:=vG [vU 0,vN,vI 0,vN,vF,vO]) [vU ((gi l_ v7).Kind),vS (gi l_ v7).Text,vI ((gi l_ v7).Num),vS (gi l_ v7).Unit,vB ((gi l_ v7).Flag),vL g56 s_z24.2] ([(TValue.mk (gi l_ v7) s_z24.2)] : List TValue) [gL [g56]] _ H59 hd rfl (by kernel_rfl) (by kernel_rfl) (by kernel_rfl) (by kernel_rfl) (by kernel_rfl) (by kernel_rfl) (by kernel_rfl) rfl (InnL.cons (tyValue_mk (hd.im 0 rfl)) InnL.nil)) (fun _ => rfl) fun _ _ v H63 hq => ?_
     obtain ⟨g60,rfl,hq⟩:=hq
     replace hS : SH M X w [eO 63 tyValue ([(TValue.mk (gi l_ v7) s_z24.2)] : List TValue) g60,eI tyValue s_z24.2 g56,eB b17 [vU ((gi l_ v7).Kind),vS (gi l_ v7).Text,vI ((gi l_ v7).Num),vS (gi l_ v7).Unit,vB ((gi l_ v7).Flag),vL g56 s_z24.2],eO 63 tyValue v8 g9,eI tyToken l_ g_l_] _:=hS.join [0] [0,1,2,3] rfl rfl hq
     obtain ⟨ho64,hm⟩:=chkE hm
     obtain ⟨q65,hq65,hm⟩:=letE hm
     have hd:=hS.hand [3,0] [1,2,4] rfl rfl
     refine m_stp [60,0,1,2,3] (fS [0,1,2,3] [vL g_l_ l_,vI s_z24.1,vU closer,vI left]) H63 rfl rfl rfl rfl (o_app2 (T:=tyValue) (zv:=vG [vU 0,vN,vI 0,vN,vF,vO]) (g1:=g9) (g2:=g60) (l1:=v8) (l2:=([(TValue.mk (gi l_ v7) s_z24.2)] : List TValue)) q65 hq65.symm H63 hd rfl rfl rfl rfl rfl rfl rfl (by kernel_rfl) (by kernel_rfl) rfl rfl ho64) (fun _ => rfl) fun _ _ v H67 hq => ?_
     obtain ⟨g68,rfl,hq⟩:=hq
     replace hS : SH M X w [eO 63 tyValue q65 g68,eO 63 tyValue ([(TValue.mk (gi l_ v7) s_z24.2)] : List TValue) g60,eI tyValue s_z24.2 g56,eB b17 [vU ((gi l_ v7).Kind),vS (gi l_ v7).Text,vI ((gi l_ v7).Num),vS (gi l_ v7).Unit,vB ((gi l_ v7).Flag),vL g56 s_z24.2],eI tyToken l_ g_l_] _:=hS.join [3,0] [1,2,4] rfl rfl hq
     refine wl_batch 4 5 [] [0,1,2,3,10] (fS [0,1,2,3,10] [vL g_l_ l_,vI s_z24.1,vU closer,vI left,vL g68 q65]) [] H67 (by decide) (by kernel_rfl) trivial fun _ _ H70 hb => ?_
     replace hS:=hS.below hb
     apply wl_end rfl
     replace hS : SH M X w [eO 63 tyValue q65 g68,eI tyToken l_ g_l_] _:=hS.sel [0,4] rfl
     exact ⟨_,Nat.lt_succ_self _,s_z24.1,q65,g68,hm,FrG.keep (ks:=[0,2,3,1,10]) H70 (by kernel_rfl),hS⟩
  ·rintro _ _ ⟨s_z5,hz,g74,H,hS⟩
   subst hz
   replace hm:=sumR hm_z5
   obtain ⟨x76,hx76,hm⟩:=letE hm
   refine s_reg [] [8,9] (fS [8,9] [vL g74 s_z5.2,vI x76]) [] H (by subst hx76; kernel_rfl) trivial fun _ _ H78 hb => ?_
   replace hS:=hS.below hb
   replace hS : SH M X w [eO 63 tyValue s_z5.2 g74] _:=hS.sel [0] rfl
   apply w_ret
   obtain rfl:=someE hm
   exact retR2 H78 rfl rfl rfl ⟨_,rfl,g74,rfl,(hS.sel [0] rfl)⟩
theorem r04_values_ok {g_l_ : Gh} (m : Nat) (l_ : List TToken) (i : Int) (closer : Int) (left : Int) (r : (List TValue) × Int) (hm : r04_values m l_ i closer left = some r) (M : Av) (w : World) (hS : S0 M [eI tyToken l_ g_l_] w) : DoesX Tryz.prog 96 ⟨[vL g_l_ l_,vI i,vU closer,vI left]⟩ w (fun v w' => ∃ (g901 : Gh),v = vW [vL g901 r.1,vI r.2] ∧ SH M (fpl [eI tyToken l_ g_l_]) w [eO 63 tyValue r.1 g901] w'):=⟨Tryz.call96 _,r04_values_w m   m g_l_ M l_ i closer left r hm w hS⟩

theorem r04_Parsed_w {g_l_ : Gh} (M : Av) (m : Nat) (l_ : List TToken) (r : (List TValue) × Bool) (hm : r04_Parsed m l_ = some r) (w : World) (hS : S0 M [eI tyToken l_ g_l_] w) : Calls Tryz.prog 83 ⟨[vL g_l_ l_]⟩ w (fun e w' => ∃ v,e = .returned v ∧ ∃ (g901 : Gh),v = vW [vL g901 r.1,vB r.2] ∧ SH M (fpl [eI tyToken l_ g_l_]) w [eO 63 tyValue r.1 g901] w'):=by
 rw [r04_Parsed] at hm
 have hS0 : SH M (fpl [eI tyToken l_ g_l_]) w [eI tyToken l_ g_l_] w:=hS
 generalize hX : fpl [eI tyToken l_ g_l_] = X at hS0 ⊢
 clear hS hX
 have hS:=hS0
 clear hS0
 refine calls_entryP Tryz.func83 rfl Tryz.ntmps83 rfl fun _ H => ?_
 refine s_reg [] [0] [(0,[],vL g_l_ l_)] [] H (by kernel_rfl) trivial fun _ _ H2 hb => ?_
 replace hS:=hS.below hb
 apply w_seq
 apply wl_start
 refine wl_batch 0 1 [] [7] [(7,[],vL g_l_ l_)] [] H2 (by decide) (by kernel_rfl) trivial fun _ _ H4 hb => ?_
 replace hS:=hS.below hb
 obtain ⟨y5,hy5,hm⟩:=bindE hm
 have hd:=hS.hand [0] [0] rfl rfl
 refine m_stp [8] [] H4 rfl rfl rfl rfl (o_callx H4 rfl rfl (r04_values_ok (g_l_:=g_l_) m _ _ _ _ _ hy5 _ _ hd)) (fun _ => rfl) fun _ _ v H9 hq => ?_
 obtain ⟨g6,rfl,hq⟩:=hq
 replace hS : SH M X w [eO 63 tyValue y5.1 g6,eI tyToken l_ g_l_] _:=hS.join [0] [0] rfl rfl hq
 refine wl_batch 2 7 [] [4,5] (fS [4,5] [vL g6 y5.1,vI y5.2]) [] H9 (by decide) (by kernel_rfl) trivial fun _ _ H11 hb => ?_
 replace hS:=hS.below hb
 apply wl_end rfl
 replace hS : SH M X w [eO 63 tyValue y5.1 g6] _:=hS.sel [0] rfl
 refine s_reg [] [2,3] (fS [2,3] [vL g6 y5.1,vB (decide (0 ≤ y5.2))]) [] H11 (by kernel_rfl) trivial fun _ _ H13 hb => ?_
 replace hS:=hS.below hb
 apply w_ret
 obtain rfl:=someE hm
 exact retR2 H13 rfl rfl rfl ⟨_,rfl,g6,rfl,(hS.sel [0] rfl)⟩
theorem r04_Parsed_ok {g_l_ : Gh} (m : Nat) (l_ : List TToken) (r : (List TValue) × Bool) (hm : r04_Parsed m l_ = some r) (M : Av) (w : World) (hS : S0 M [eI tyToken l_ g_l_] w) : DoesX Tryz.prog 83 ⟨[vL g_l_ l_]⟩ w (fun v w' => ∃ (g901 : Gh),v = vW [vL g901 r.1,vB r.2] ∧ SH M (fpl [eI tyToken l_ g_l_]) w [eO 63 tyValue r.1 g901] w'):=⟨Tryz.call83 _,r04_Parsed_w M m   l_ r hm w hS⟩

def r04_Tokens_S (rec_ : (List TValue) → Option (List TToken)) : Prop:=∀ (g_v_ : Gh) (M : Av) (v_ : List TValue) (r : List TToken),rec_ v_ = some r → ∀ w,S0 M [eI tyValue v_ g_v_] w → Calls Tryz.prog 84 ⟨[vL g_v_ v_]⟩ w (fun e w' => ∃ v,e = .returned v ∧ ∃ (g901 : Gh),v = vL g901 r ∧ SH M (fpl [eI tyValue v_ g_v_]) w [eO 61 tyToken r g901] w')
theorem r04_Tokens_w (m : Nat) : ∀ (k : Nat),r04_Tokens_S (r04_Tokens_r m  k):=by
 intro k
 induction k with
 | zero => intro g_v_ M v_ r hm; exact noneE hm
 | succ k ih =>
  intro g_v_ M v_ r hm w hS
  rw [r04_Tokens_r] at hm
  have hS0 : SH M (fpl [eI tyValue v_ g_v_]) w [eI tyValue v_ g_v_] w:=hS
  generalize hX : fpl [eI tyValue v_ g_v_] = X at hS0 ⊢
  clear hS hX
  have hS:=hS0
  clear hS0
  refine calls_entryP Tryz.func84 rfl Tryz.ntmps84 rfl fun _ H => ?_
  refine s_reg [] [0] [(0,[],vL g_v_ v_)] [] H (by kernel_rfl) trivial fun _ _ H2 hb => ?_
  replace hS:=hS.below hb
  refine s_reg [] [0,3] (fS [0,3] [vL g_v_ v_,vO]) [] H2 (by kernel_rfl) trivial fun _ _ H4 hb => ?_
  replace hS:=hS.below hb
  obtain ⟨z5,hz,hm⟩:=bindE hm
  refine w_cut (fun a' w' => ∃ (g69 : Gh),Fr 43 [(3,[],vL g69 z5)] a' ∧ SH M X w [eO 61 tyToken z5 g69,eI tyValue v_ g_v_] w') ?_ ?_
  ·replace hm:=hz
   refine s_reg [] [0,3,4] (fS [0,3,4] [vL g_v_ v_,vO,vI 0]) [] H4 (by kernel_rfl) trivial fun _ _ H7 hb => ?_
   replace hS:=hS.below hb
   apply w_block
   replace hS : SH M X w [eO 61 tyToken ([] : List TToken) (.nil),eI tyValue v_ g_v_] _:=hS.addNil 61 tyToken
   refine w_loop (fun kk a' w' => ∃ (v9 : List TToken) (v11 : Int) (g10 : Gh),r04_Tokens_L1 m v_ (r04_Tokens_r m k) kk v9 v11 = some _ ∧ Fr 43 (fS [0,3,4] [vL g_v_ v_,vL g10 v9,vI v11]) a' ∧ SH M X w [eO 61 tyToken v9 g10,eI tyValue v_ g_v_] w') ⟨_,([] : List TToken),0,Gh.nil,hm,FrG.keep (ks:=[0,3,4]) H7 (by kernel_rfl),hS⟩ ?_
   clear hm H7 hS
   rintro kk _ _ ⟨v9,v11,g10,hm,H,hS⟩
   cases kk with
   | zero => exact noneE hm
   | succ kk =>
    rw [r04_Tokens_L1] at hm
    apply w_seq
    refine s_reg [] [0,3,4,9] (fS [0,3,4,9] [vL g_v_ v_,vL g10 v9,vI v11,vB (decide (v11 < (ln v_)))]) [] H (by kernel_rfl) trivial fun _ _ H13 hb => ?_
    replace hS:=hS.below hb
    refine w_if H13 rfl (fun hc => ?_) (fun hc => ?c67)
    case c67 =>
     replace hm:=bF hc hm
     apply w_exit rfl
     obtain rfl:=someE hm
     exact ⟨g10,FrG.keep (ks:=[3]) H13 (by kernel_rfl),hS⟩
    replace hm:=bT hc hm
    apply w_skip
    obtain ⟨z14,hz,hm⟩:=bindE hm
    refine w_cut (fun a' w' => ∃ (g63 : Gh),Fr 43 (fS [0,4,3] [vL g_v_ v_,vI v11,vL g63 z14]) a' ∧ SH M X w [eO 61 tyToken z14 g63,eI tyValue v_ g_v_] w') ?_ ?_
    ·replace hm:=hz
     apply w_block
     apply w_seq
     apply wl_start
     obtain ⟨ho15,hm⟩:=chkE hm
     refine wl_batch 0 6 [(vG [vU ((gi v_ v11).Token.Kind),vS (gi v_ v11).Token.Text,vI ((gi v_ v11).Token.Num),vS (gi v_ v11).Token.Unit,vB ((gi v_ v11).Token.Flag)])] [0,4,12,17] (fS [0,4,12,17] [vL g_v_ v_,vI v11,vL g10 v9,vG [vU ((gi v_ v11).Token.Kind),vS (gi v_ v11).Token.Text,vI ((gi v_ v11).Token.Num),vS (gi v_ v11).Token.Unit,vB ((gi v_ v11).Token.Flag)]]) [fun _ => oka g_v_.a ∧ 0 ≤ v11 ∧ v11 < ln v_,fun wz => V.atN (ab g_v_.a) (ao g_v_.a + (v11).toNat * 6) [vU ((gi v_ v11).Token.Kind),vS (gi v_ v11).Token.Text,vI ((gi v_ v11).Token.Num),vS (gi v_ v11).Token.Unit,vB ((gi v_ v11).Token.Flag)] 0 wz] H13 (by decide) (by kernel_rfl) ⟨((hS.im 1 rfl).oki ho15),((hS.im 1 rfl).atA ho15 0 rfl),trivial⟩ fun _ _ H17 hb => ?_
     replace hS:=hS.below hb
     have hd:=hS.hand [] [0,1] rfl rfl
     refine m_stp [18,0,4,12] (fS [0,4,12] [vL g_v_ v_,vI v11,vL g10 v9]) H17 rfl rfl rfl rfl (o_lit (T:=tyToken) (E:=61) (zv:=vG [vU 0,vN,vI 0,vN,vF]) [vU ((gi v_ v11).Token.Kind),vS (gi v_ v11).Token.Text,vI ((gi v_ v11).Token.Num),vS (gi v_ v11).Token.Unit,vB ((gi v_ v11).Token.Flag)] ([(gi v_ v11).Token] : List TToken) [gL []] _ H17 hd rfl (by kernel_rfl) (by kernel_rfl) (by kernel_rfl) (by kernel_rfl) (by kernel_rfl) (by kernel_rfl) (by kernel_rfl) rfl (InnL.cons trivial InnL.nil)) (fun _ => rfl) fun _ _ v H21 hq => ?_
     obtain ⟨g18,rfl,hq⟩:=hq
     replace hS : SH M X w [eO 61 tyToken ([(gi v_ v11).Token] : List TToken) g18,eO 61 tyToken v9 g10,eI tyValue v_ g_v_] _:=hS.join [] [0,1] rfl rfl hq
     obtain ⟨ho22,hm⟩:=chkE hm
     obtain ⟨q23,hq23,hm⟩:=letE hm
     have hd:=hS.hand [1,0] [2] rfl rfl
     refine m_stp [19,0,4] (fS [0,4] [vL g_v_ v_,vI v11]) H21 rfl rfl rfl rfl (o_app2 (T:=tyToken) (zv:=vG [vU 0,vN,vI 0,vN,vF]) (g1:=g10) (g2:=g18) (l1:=v9) (l2:=([(gi v_ v11).Token] : List TToken)) q23 hq23.symm H21 hd rfl rfl rfl rfl rfl rfl rfl (by kernel_rfl) (by kernel_rfl) rfl rfl ho22) (fun _ => rfl) fun _ _ v H25 hq => ?_
     obtain ⟨g26,rfl,hq⟩:=hq
     replace hS : SH M X w [eO 61 tyToken q23 g26,eO 61 tyToken ([(gi v_ v11).Token] : List TToken) g18,eI tyValue v_ g_v_] _:=hS.join [1,0] [2] rfl rfl hq
     refine wl_batch 8 9 [] [0,3,4] (fS [0,3,4] [vL g_v_ v_,vL g26 q23,vI v11]) [] H25 (by decide) (by kernel_rfl) trivial fun _ _ H28 hb => ?_
     replace hS:=hS.below hb
     apply wl_end rfl
     replace hS : SH M X w [eO 61 tyToken q23 g26,eI tyValue v_ g_v_] _:=hS.sel [0,2] rfl
     refine s_reg [(vU ((gi v_ v11).Token.Kind)),(vU (r04_Closer ((gi v_ v11).Token.Kind)))] [0,3,4,5] (fS [0,3,4,5] [vL g_v_ v_,vL g26 q23,vI v11,vU (r04_Closer ((gi v_ v11).Token.Kind))]) [fun _ => oka g_v_.a ∧ 0 ≤ v11 ∧ v11 < ln v_,fun wz => V.at1 ⟨ab g_v_.a,ao g_v_.a + (v11).toNat * 6,none⟩ (vU ((gi v_ v11).Token.Kind)) wz,rB 66 [vU ((gi v_ v11).Token.Kind)] (vU (r04_Closer ((gi v_ v11).Token.Kind)))] H28 (by kernel_rfl) ⟨((hS.im 1 rfl).oki ho15),((hS.im 1 rfl).at1 ho15 0 rfl),((r04_Closer_ok _).b),trivial⟩ fun _ _ H30 hb => ?_
     replace hS:=hS.below hb
     obtain ⟨x31,hx31,hm⟩:=letE hm
     refine s_reg [] [0,3,4,5,28] (fS [0,3,4,5,28] [vL g_v_ v_,vL g26 q23,vI v11,vU (r04_Closer ((gi v_ v11).Token.Kind)),vB x31]) [] H30 (by subst hx31; kernel_rfl) trivial fun _ _ H33 hb => ?_
     replace hS:=hS.below hb
     refine w_if H33 rfl (fun hc => ?_) (fun hc => ?c62)
     case c62 =>
      replace hm:=bF hc hm
      apply w_skip
      obtain rfl:=someE hm
      exact ⟨g26,FrG.keep (ks:=[0,4,3]) H33 (by kernel_rfl),hS⟩
     replace hm:=bT hc hm
     apply w_seq
     apply wl_start
     refine wl_batch 0 6 [(.slice (g_v_.s (v11).toNat 0).a (((gi v_ v11).List_).length) (g_v_.s (v11).toNat 0).c)] [0,4,5,29,34] (fS [0,4,5,29,34] [vL g_v_ v_,vI v11,vU (r04_Closer ((gi v_ v11).Token.Kind)),vL g26 q23,.slice (g_v_.s (v11).toNat 0).a (((gi v_ v11).List_).length) (g_v_.s (v11).toNat 0).c]) [fun _ => oka g_v_.a ∧ 0 ≤ v11 ∧ v11 < ln v_,fun wz => V.at1 ⟨ab g_v_.a,ao g_v_.a + (v11).toNat * 6 + 5,none⟩ (.slice (g_v_.s (v11).toNat 0).a (((gi v_ v11).List_).length) (g_v_.s (v11).toNat 0).c) wz] H33 (by decide) (by kernel_rfl) ⟨((hS.im 1 rfl).oki ho15),((hS.im 1 rfl).at1 ho15 5 rfl),trivial⟩ fun _ _ H35 hb => ?_
     replace hS:=hS.below hb
     replace hS : SH M X w [eI tyValue ((gi v_ v11).List_) (g_v_.s (v11).toNat 0),eO 61 tyToken q23 g26,eI tyValue v_ g_v_] _:=hS.addIm (tyValue_i0 ((hS.im 1 rfl).el ho15))
     obtain ⟨y37,hy37,hm⟩:=bindE hm
     have hd:=hS.hand [0] [0,1,2] rfl rfl
     refine m_stp [35,0,4,5,29] (fS [0,4,5,29] [vL g_v_ v_,vI v11,vU (r04_Closer ((gi v_ v11).Token.Kind)),vL g26 q23]) H35 rfl rfl rfl rfl (o_callx H35 rfl rfl (⟨Tryz.call84 _,ih ((g_v_.s (v11).toNat 0)) _ _ _ hy37 _ hd⟩ : DoesX _ _ _ _ _)) (fun _ => rfl) fun _ _ v H41 hq => ?_
     obtain ⟨g38,rfl,hq⟩:=hq
     replace hS : SH M X w [eO 61 tyToken y37 g38,eI tyValue ((gi v_ v11).List_) (g_v_.s (v11).toNat 0),eO 61 tyToken q23 g26,eI tyValue v_ g_v_] _:=hS.join [0] [0,1,2] rfl rfl hq
     obtain ⟨ho42,hm⟩:=chkE hm
     obtain ⟨q43,hq43,hm⟩:=letE hm
     have hd:=hS.hand [2,0] [1,3] rfl rfl
     refine m_stp [36,0,4,5] (fS [0,4,5] [vL g_v_ v_,vI v11,vU (r04_Closer ((gi v_ v11).Token.Kind))]) H41 rfl rfl rfl rfl (o_app2 (T:=tyToken) (zv:=vG [vU 0,vN,vI 0,vN,vF]) (g1:=g26) (g2:=g38) (l1:=q23) (l2:=y37) q43 hq43.symm H41 hd rfl rfl rfl rfl rfl rfl rfl (by kernel_rfl) (by kernel_rfl) rfl rfl ho42) (fun _ => rfl) fun _ _ v H45 hq => ?_
     obtain ⟨g46,rfl,hq⟩:=hq
     replace hS : SH M X w [eO 61 tyToken q43 g46,eO 61 tyToken y37 g38,eI tyValue ((gi v_ v11).List_) (g_v_.s (v11).toNat 0),eI tyValue v_ g_v_] _:=hS.join [2,0] [1,3] rfl rfl hq
     refine wl_batch 8 9 [] [0,3,4,5] (fS [0,3,4,5] [vL g_v_ v_,vL g46 q43,vI v11,vU (r04_Closer ((gi v_ v11).Token.Kind))]) [] H45 (by decide) (by kernel_rfl) trivial fun _ _ H48 hb => ?_
     replace hS:=hS.below hb
     apply wl_end rfl
     replace hS : SH M X w [eO 61 tyToken q43 g46,eI tyValue v_ g_v_] _:=hS.sel [0,3] rfl
     apply wl_start
     refine wl_batch 0 3 [] [0,4,37,39] (fS [0,4,37,39] [vL g_v_ v_,vI v11,vL g46 q43,vG [vU (r04_Closer ((gi v_ v11).Token.Kind)),vN,vI 0,vN,vF]]) [] H48 (by decide) (by kernel_rfl) trivial fun _ _ H50 hb => ?_
     replace hS:=hS.below hb
     have hd:=hS.hand [] [0,1] rfl rfl
     refine m_stp [40,0,4,37] (fS [0,4,37] [vL g_v_ v_,vI v11,vL g46 q43]) H50 rfl rfl rfl rfl (o_lit (T:=tyToken) (E:=61) (zv:=vG [vU 0,vN,vI 0,vN,vF]) [vU (r04_Closer ((gi v_ v11).Token.Kind)),vN,vI 0,vN,vF] ([(TToken.mk (r04_Closer ((gi v_ v11).Token.Kind)) [] 0 [] false)] : List TToken) [gL []] _ H50 hd rfl (by kernel_rfl) (by kernel_rfl) (by kernel_rfl) (by kernel_rfl) (by kernel_rfl) (by kernel_rfl) (by kernel_rfl) rfl (InnL.cons trivial InnL.nil)) (fun _ => rfl) fun _ _ v H54 hq => ?_
     obtain ⟨g51,rfl,hq⟩:=hq
     replace hS : SH M X w [eO 61 tyToken ([(TToken.mk (r04_Closer ((gi v_ v11).Token.Kind)) [] 0 [] false)] : List TToken) g51,eO 61 tyToken q43 g46,eI tyValue v_ g_v_] _:=hS.join [] [0,1] rfl rfl hq
     obtain ⟨ho55,hm⟩:=chkE hm
     obtain ⟨q56,hq56,hm⟩:=letE hm
     have hd:=hS.hand [1,0] [2] rfl rfl
     refine m_stp [41,0,4] (fS [0,4] [vL g_v_ v_,vI v11]) H54 rfl rfl rfl rfl (o_app2 (T:=tyToken) (zv:=vG [vU 0,vN,vI 0,vN,vF]) (g1:=g46) (g2:=g51) (l1:=q43) (l2:=([(TToken.mk (r04_Closer ((gi v_ v11).Token.Kind)) [] 0 [] false)] : List TToken)) q56 hq56.symm H54 hd rfl rfl rfl rfl rfl rfl rfl (by kernel_rfl) (by kernel_rfl) rfl rfl ho55) (fun _ => rfl) fun _ _ v H58 hq => ?_
     obtain ⟨g59,rfl,hq⟩:=hq
     replace hS : SH M X w [eO 61 tyToken q56 g59,eO 61 tyToken ([(TToken.mk (r04_Closer ((gi v_ v11).Token.Kind)) [] 0 [] false)] : List TToken) g51,eI tyValue v_ g_v_] _:=hS.join [1,0] [2] rfl rfl hq
     refine wl_batch 5 6 [] [0,3,4] (fS [0,3,4] [vL g_v_ v_,vL g59 q56,vI v11]) [] H58 (by decide) (by kernel_rfl) trivial fun _ _ H61 hb => ?_
     replace hS:=hS.below hb
     apply wl_end rfl
     replace hS : SH M X w [eO 61 tyToken q56 g59,eI tyValue v_ g_v_] _:=hS.sel [0,2] rfl
     obtain rfl:=someE hm
     exact ⟨g59,FrG.keep (ks:=[0,4,3]) H61 (by kernel_rfl),hS⟩
    ·rintro _ _ ⟨g63,H,hS⟩
     refine w_reg [] [0,3,4] (fS [0,3,4] [vL g_v_ v_,vL g63 z14,vI (w64 (v11 + 1))]) [] H (by kernel_rfl) trivial fun _ _ H65 hb => ?_
     replace hS:=hS.below hb
     exact ⟨_,Nat.lt_succ_self _,z14,w64 (v11 + 1),g63,hm,FrG.keep (ks:=[0,3,4]) H65 (by kernel_rfl),hS⟩
  ·rintro _ _ ⟨g69,H,hS⟩
   replace hS : SH M X w [eO 61 tyToken z5 g69] _:=hS.sel [0] rfl
   refine s_reg [] [2] [(2,[],vL g69 z5)] [] H (by kernel_rfl) trivial fun _ _ H72 hb => ?_
   replace hS:=hS.below hb
   apply w_ret
   obtain rfl:=someE hm
   exact retR1 H72 rfl rfl ⟨_,rfl,g69,rfl,(hS.sel [0] rfl)⟩
theorem r04_Tokens_ok {g_v_ : Gh} (m : Nat) (v_ : List TValue) (r : List TToken) (hm : r04_Tokens m v_ = some r) (M : Av) (w : World) (hS : S0 M [eI tyValue v_ g_v_] w) : DoesX Tryz.prog 84 ⟨[vL g_v_ v_]⟩ w (fun v w' => ∃ (g901 : Gh),v = vL g901 r ∧ SH M (fpl [eI tyValue v_ g_v_]) w [eO 61 tyToken r g901] w'):=⟨Tryz.call84 _,r04_Tokens_w m   m g_v_ M v_ r hm w hS⟩

theorem r04_Parse_w {g_l_ : Gh} (M : Av) (m : Nat) (l_ : List TToken) (r : (List TValue) × Int) (hm : r04_Parse m l_ = some r) (w : World) (hS : S0 M [eI tyToken l_ g_l_] w) : Calls Tryz.prog 65 ⟨[vL g_l_ l_]⟩ w (fun e w' => ∃ v,e = .returned v ∧ ∃ (g901 : Gh),v = vW [vL g901 r.1,vI r.2] ∧ SH M (fpl [eI tyToken l_ g_l_]) w [eI tyValue r.1 g901] w'):=by
 rw [r04_Parse] at hm
 have hS0 : SH M (fpl [eI tyToken l_ g_l_]) w [eI tyToken l_ g_l_] w:=hS
 generalize hX : fpl [eI tyToken l_ g_l_] = X at hS0 ⊢
 clear hS hX
 have hS:=hS0
 clear hS0
 refine calls_entryP Tryz.func65 rfl Tryz.ntmps65 rfl fun _ H => ?_
 refine s_reg [] [0] [(0,[],vL g_l_ l_)] [] H (by kernel_rfl) trivial fun _ _ H2 hb => ?_
 replace hS:=hS.below hb
 apply w_seq
 refine s_reg [] [0,8] (fS [0,8] [vL g_l_ l_,vB (decide (1500 < (ln l_)))]) [] H2 (by kernel_rfl) trivial fun _ _ H4 hb => ?_
 replace hS:=hS.below hb
 refine w_if H4 rfl (fun hc => ?c38) (fun hc => ?_)
 case c38 =>
  replace hm:=bT hc hm
  refine s_reg [] [2,3] (fS [2,3] [vO,vI 4]) [] H4 (by kernel_rfl) trivial fun _ _ H6 hb => ?_
  replace hS:=hS.below hb
  replace hS : SH M X w [] _:=hS.sel [] rfl
  apply w_ret
  obtain rfl:=someE hm
  replace hS : SH M X w [eO 63 tyValue ([] : List TValue) (.nil)] _:=hS.addNil 63 tyValue
  replace hS : SH M X w [eI tyValue ([] : List TValue) (.nil)] _:=SH.frz1 (hS.sel [0] rfl)
  exact retR2 H6 rfl rfl rfl ⟨_,rfl,Gh.nil,rfl,(hS.sel [0] rfl)⟩
 replace hm:=bF hc hm
 apply w_skip
 apply w_seq
 apply wl_start
 refine wl_batch 0 1 [] [10] [(10,[],vL g_l_ l_)] [] H4 (by decide) (by kernel_rfl) trivial fun _ _ H9 hb => ?_
 replace hS:=hS.below hb
 obtain ⟨y10,hy10,hm⟩:=bindE hm
 have hd:=hS.hand [0] [0] rfl rfl
 refine m_stp [11] [] H9 rfl rfl rfl rfl (o_callx H9 rfl rfl (r04_Parsed_ok (g_l_:=g_l_) m _ _ hy10 _ _ hd)) (fun _ => rfl) fun _ _ v H14 hq => ?_
 obtain ⟨g11,rfl,hq⟩:=hq
 replace hS : SH M X w [eO 63 tyValue y10.1 g11,eI tyToken l_ g_l_] _:=hS.join [0] [0] rfl rfl hq
 refine wl_batch 2 7 [] [4,5] (fS [4,5] [vL g11 y10.1,vB y10.2]) [] H14 (by decide) (by kernel_rfl) trivial fun _ _ H16 hb => ?_
 replace hS:=hS.below hb
 apply wl_end rfl
 replace hS : SH M X w [eO 63 tyValue y10.1 g11] _:=hS.sel [0] rfl
 apply w_seq
 refine s_reg [] [4,15] (fS [4,15] [vL g11 y10.1,vB (!y10.2)]) [] H16 (by kernel_rfl) trivial fun _ _ H18 hb => ?_
 replace hS:=hS.below hb
 refine w_if H18 rfl (fun hc => ?c37) (fun hc => ?_)
 case c37 =>
  replace hm:=bT hc hm
  refine s_reg [] [2,3] (fS [2,3] [vO,vI 20]) [] H18 (by kernel_rfl) trivial fun _ _ H20 hb => ?_
  replace hS:=hS.below hb
  replace hS : SH M X w [] _:=hS.sel [] rfl
  apply w_ret
  obtain rfl:=someE hm
  replace hS : SH M X w [eO 63 tyValue ([] : List TValue) (.nil)] _:=hS.addNil 63 tyValue
  replace hS : SH M X w [eI tyValue ([] : List TValue) (.nil)] _:=SH.frz1 (hS.sel [0] rfl)
  exact retR2 H20 rfl rfl rfl ⟨_,rfl,Gh.nil,rfl,(hS.sel [0] rfl)⟩
 replace hm:=bF hc hm
 apply w_skip
 apply w_seq
 apply w_seq
 apply wl_start
 refine wl_batch 0 1 [] [4,16] (fS [4,16] [vL g11 y10.1,vL g11 y10.1]) [] H18 (by decide) (by kernel_rfl) trivial fun _ _ H23 hb => ?_
 replace hS:=hS.below hb
 replace hS : SH M X w [eI tyValue y10.1 g11] _:=SH.frz1 (hS.sel [0] rfl)
 obtain ⟨y24,hy24,hm⟩:=bindE hm
 have hd:=hS.hand [0] [0] rfl rfl
 refine m_stp [17,4] [(4,[],vL g11 y10.1)] H23 rfl rfl rfl rfl (o_callx H23 rfl rfl (r04_Tokens_ok (g_v_:=g11) m _ _ hy24 _ _ hd)) (fun _ => rfl) fun _ _ v H28 hq => ?_
 obtain ⟨g25,rfl,hq⟩:=hq
 replace hS : SH M X w [eO 61 tyToken y24 g25,eI tyValue y10.1 g11] _:=hS.join [0] [0] rfl rfl hq
 refine wl_batch 2 4 [] [4,19] (fS [4,19] [vL g11 y10.1,vB (decide (1500 < (ln y24)))]) [] H28 (by decide) (by kernel_rfl) trivial fun _ _ H30 hb => ?_
 replace hS:=hS.below hb
 apply wl_end rfl
 replace hS : SH M X w [eI tyValue y10.1 g11] _:=hS.sel [1] rfl
 refine w_if H30 rfl (fun hc => ?_) (fun hc => ?c36)
 case c36 =>
  replace hm:=bF hc hm
  apply w_skip
  refine s_reg [] [2,3] (fS [2,3] [vL g11 y10.1,vI 0]) [] H30 (by kernel_rfl) trivial fun _ _ H35 hb => ?_
  replace hS:=hS.below hb
  apply w_ret
  obtain rfl:=someE hm
  exact retR2 H35 rfl rfl rfl ⟨_,rfl,g11,rfl,(hS.sel [0] rfl)⟩
 replace hm:=bT hc hm
 refine s_reg [] [2,3] (fS [2,3] [vO,vI 4]) [] H30 (by kernel_rfl) trivial fun _ _ H32 hb => ?_
 replace hS:=hS.below hb
 replace hS : SH M X w [] _:=hS.sel [] rfl
 apply w_ret
 obtain rfl:=someE hm
 replace hS : SH M X w [eO 63 tyValue ([] : List TValue) (.nil)] _:=hS.addNil 63 tyValue
 replace hS : SH M X w [eI tyValue ([] : List TValue) (.nil)] _:=SH.frz1 (hS.sel [0] rfl)
 exact retR2 H32 rfl rfl rfl ⟨_,rfl,Gh.nil,rfl,(hS.sel [0] rfl)⟩
theorem r04_Parse_ok {g_l_ : Gh} (m : Nat) (l_ : List TToken) (r : (List TValue) × Int) (hm : r04_Parse m l_ = some r) (M : Av) (w : World) (hS : S0 M [eI tyToken l_ g_l_] w) : DoesX Tryz.prog 65 ⟨[vL g_l_ l_]⟩ w (fun v w' => ∃ (g901 : Gh),v = vW [vL g901 r.1,vI r.2] ∧ SH M (fpl [eI tyToken l_ g_l_]) w [eI tyValue r.1 g901] w'):=⟨Tryz.call65 _,r04_Parse_w M m   l_ r hm w hS⟩

theorem r04_Of_w  (M : Av) (m : Nat) (s : Str) (r : List TValue) (hm : r04_Of m s = some r) (w : World) (hS : S0 M [] w) : Calls Tryz.prog 41 ⟨[vS s]⟩ w (fun e w' => ∃ v,e = .returned v ∧ ∃ (g901 : Gh),v = vL g901 r ∧ SH M (fpl []) w [eI tyValue r g901] w'):=by
 rw [r04_Of] at hm
 have hS0 : SH M (fpl []) w [] w:=hS
 generalize hX : fpl [] = X at hS0 ⊢
 clear hS hX
 have hS:=hS0
 clear hS0
 refine calls_entryP Tryz.func41 rfl Tryz.ntmps41 rfl fun _ H => ?_
 refine s_reg [] [0] [(0,[],vS s)] [] H (by kernel_rfl) trivial fun _ _ H2 hb => ?_
 replace hS:=hS.below hb
 apply w_seq
 apply wl_start
 refine wl_batch 0 1 [] [8] [(8,[],vS s)] [] H2 (by decide) (by kernel_rfl) trivial fun _ _ H4 hb => ?_
 replace hS:=hS.below hb
 obtain ⟨y5,hy5,hm⟩:=bindE hm
 have hd:=hS.hand [] [] rfl rfl
 refine m_stp [9] [] H4 rfl rfl rfl rfl (o_callx H4 rfl rfl (r02_Tokens_ok m _ _ hy5 _ _ hd)) (fun _ => rfl) fun _ _ v H9 hq => ?_
 obtain ⟨g6,rfl,hq⟩:=hq
 replace hS : SH M X w [eO 61 tyToken y5.1 g6] _:=hS.join [] [] rfl rfl hq
 refine wl_batch 2 7 [] [3] [(3,[],vL g6 y5.1)] [] H9 (by decide) (by kernel_rfl) trivial fun _ _ H11 hb => ?_
 replace hS:=hS.below hb
 apply wl_end rfl
 apply w_seq
 apply wl_start
 refine wl_batch 0 1 [] [13] [(13,[],vL g6 y5.1)] [] H11 (by decide) (by kernel_rfl) trivial fun _ _ H13 hb => ?_
 replace hS:=hS.below hb
 replace hS : SH M X w [eI tyToken y5.1 g6] _:=SH.frz1 (hS.sel [0] rfl)
 obtain ⟨y14,hy14,hm⟩:=bindE hm
 have hd:=hS.hand [0] [0] rfl rfl
 refine m_stp [14] [] H13 rfl rfl rfl rfl (o_callx H13 rfl rfl (r04_Parse_ok (g_l_:=g6) m _ _ hy14 _ _ hd)) (fun _ => rfl) fun _ _ v H18 hq => ?_
 obtain ⟨g15,rfl,hq⟩:=hq
 replace hS : SH M X w [eI tyValue y14.1 g15,eI tyToken y5.1 g6] _:=hS.join [0] [0] rfl rfl hq
 refine wl_batch 2 7 [] [5] [(5,[],vL g15 y14.1)] [] H18 (by decide) (by kernel_rfl) trivial fun _ _ H20 hb => ?_
 replace hS:=hS.below hb
 apply wl_end rfl
 replace hS : SH M X w [eI tyValue y14.1 g15] _:=hS.sel [0] rfl
 refine s_reg [] [2] [(2,[],vL g15 y14.1)] [] H20 (by kernel_rfl) trivial fun _ _ H22 hb => ?_
 replace hS:=hS.below hb
 apply w_ret
 obtain rfl:=someE hm
 exact retR1 H22 rfl rfl ⟨_,rfl,g15,rfl,(hS.sel [0] rfl)⟩
theorem r04_Of_ok  (m : Nat) (s : Str) (r : List TValue) (hm : r04_Of m s = some r) (M : Av) (w : World) (hS : S0 M [] w) : DoesX Tryz.prog 41 ⟨[vS s]⟩ w (fun v w' => ∃ (g901 : Gh),v = vL g901 r ∧ SH M (fpl []) w [eI tyValue r g901] w'):=⟨Tryz.call41 _,r04_Of_w M m   s r hm w hS⟩

theorem law31_of_w  (M : Av) (m : Nat) (origin : Int) (name_ : Str) (s : Str) (r : TDeclared) (hm : law31_of m origin name_ s = some r) (w : World) (hS : S0 M [] w) : Calls Tryz.prog 19 ⟨[vU origin,vS name_,vS s]⟩ w (fun e w' => ∃ v,e = .returned v ∧ ∃ (g901 : Gh),v = vG [vS r.Long.Name,vL g901 r.Long.Value,vS r.Long.Whole,vB r.Important,vU r.Origin,vB r.Attached,vI r.Layer,vI r.Weight.e0,vI r.Weight.e1,vI r.Weight.e2,vI r.Order] ∧ SH M (fpl []) w [eI tyValue r.Long.Value g901] w'):=by
 rw [law31_of] at hm
 have hS0 : SH M (fpl []) w [] w:=hS
 generalize hX : fpl [] = X at hS0 ⊢
 clear hS hX
 have hS:=hS0
 clear hS0
 refine calls_entryP Tryz.func19 rfl Tryz.ntmps19 rfl fun _ H => ?_
 apply w_seq
 apply wl_start
 have hd:=hS.hand [] [] rfl rfl
 refine m_stp [6,0,1,2] (fS [0,1,2] [vU origin,vS name_,vS s]) H rfl rfl rfl rfl (o_alloc [vN,vO,vN,vF,vU 0,vF,vI 0,vI 0,vI 0,vI 0,vI 0] (z:=vG [vN,vO,vN,vF,vU 0,vF,vI 0,vI 0,vI 0,vI 0,vI 0]) hd (by kernel_rfl) rfl) (fun _ => rfl) fun _ _ v H3 hq => ?_
 obtain ⟨b1,rfl,hq⟩:=hq
 replace hS : SH M X w [eB b1 [vN,vO,vN,vF,vU 0,vF,vI 0,vI 0,vI 0,vI 0,vI 0]] _:=hS.join [] [] rfl rfl hq
 apply wl_end rfl
 apply w_seq
 apply wl_start
 refine wl_batch 0 2 [] [0,6,7,8] (fS [0,6,7,8] [vU origin,vP b1,vS name_,vS s]) [] H3 (by decide) (by kernel_rfl) trivial fun _ _ H5 hb => ?_
 replace hS:=hS.below hb
 obtain ⟨y6,hy6,hm⟩:=bindE hm
 have hd:=hS.hand [] [0] rfl rfl
 refine m_stp [9,0,6,7] (fS [0,6,7] [vU origin,vP b1,vS name_]) H5 rfl rfl rfl rfl (o_callx H5 rfl rfl (r04_Of_ok m _ _ hy6 _ _ hd)) (fun _ => rfl) fun _ _ v H10 hq => ?_
 obtain ⟨g7,rfl,hq⟩:=hq
 replace hS : SH M X w [eI tyValue y6 g7,eB b1 [vN,vO,vN,vF,vU 0,vF,vI 0,vI 0,vI 0,vI 0,vI 0]] _:=hS.join [] [0] rfl rfl hq
 refine wl_batch 3 6 [] [6,12] (fS [6,12] [vP b1,vG [vS name_,vL g7 y6,vN,vF,vU origin,vF,vI 0,vI 0,vI 0,vI 0,vI 0]]) [] H10 (by decide) (by kernel_rfl) trivial fun _ _ H12 hb => ?_
 replace hS:=hS.below hb
 have hd:=hS.hand [1] [0] rfl rfl
 refine m_stp0 [6] [(6,[],vP b1)] H12 rfl rfl rfl (o_store [vS name_,vL g7 y6,vN,vF,vU origin,vF,vI 0,vI 0,vI 0,vI 0,vI 0] H12 hd rfl rfl (by kernel_rfl) rfl rfl rfl) rfl fun _ _ H14 hq => ?_
 obtain ⟨_,hq⟩:=hq
 replace hS : SH M X w [eB b1 [vS name_,vL g7 y6,vN,vF,vU origin,vF,vI 0,vI 0,vI 0,vI 0,vI 0],eI tyValue y6 g7] _:=hS.join [1] [0] rfl rfl hq
 apply wl_end rfl
 apply w_ret
 obtain rfl:=someE hm
 exact retR1 H14 rfl (oneRes_agg rfl (hS.bk 0 rfl) Tryz.underlying35 rfl (by kernel_rfl)) ⟨_,rfl,g7,rfl,(hS.sel [1] rfl)⟩
theorem law31_of_ok  (m : Nat) (origin : Int) (name_ : Str) (s : Str) (r : TDeclared) (hm : law31_of m origin name_ s = some r) (M : Av) (w : World) (hS : S0 M [] w) : DoesX Tryz.prog 19 ⟨[vU origin,vS name_,vS s]⟩ w (fun v w' => ∃ (g901 : Gh),v = vG [vS r.Long.Name,vL g901 r.Long.Value,vS r.Long.Whole,vB r.Important,vU r.Origin,vB r.Attached,vI r.Layer,vI r.Weight.e0,vI r.Weight.e1,vI r.Weight.e2,vI r.Order] ∧ SH M (fpl []) w [eI tyValue r.Long.Value g901] w'):=⟨Tryz.call19 _,law31_of_w M m   origin name_ s r hm w hS⟩

theorem stringslite_HasPrefix_w  (M : Av) (s : Str) (prefix_ : Str) (r : Bool) (hm : stringslite_HasPrefix s prefix_ = some r) (w : World) (hS : S0 M [] w) : Calls Tryz.prog 76 ⟨[vS s,vS prefix_]⟩ w (fun e w' => ∃ v,e = .returned v ∧ v = vB r ∧ SH M (fpl []) w [] w'):=by
 rw [stringslite_HasPrefix] at hm
 have hS0 : SH M (fpl []) w [] w:=hS
 generalize hX : fpl [] = X at hS0 ⊢
 clear hS hX
 have hS:=hS0
 clear hS0
 refine calls_entryP Tryz.func76 rfl Tryz.ntmps76 rfl fun _ H => ?_
 refine s_reg [] [0,1] (fS [0,1] [vS s,vS prefix_]) [] H (by kernel_rfl) trivial fun _ _ H2 hb => ?_
 replace hS:=hS.below hb
 obtain ⟨ho3,hm⟩:=chkE hm
 obtain ⟨x4,hx4,hm⟩:=letE hm
 refine s_reg [] [4] [(4,[],vB x4)] [fun _ => ((decide ((ln prefix_) ≤ (ln s))) = true ∧ True → 0 ≤ (ln prefix_) ∧ (ln prefix_) ≤ ln s)] H2 (by subst hx4; kernel_rfl) ⟨fun hg => (ho3 hg.1),trivial⟩ fun _ _ H6 hb => ?_
 replace hS:=hS.below hb
 apply w_ret
 obtain rfl:=someE hm
 exact retR1 H6 rfl rfl ⟨_,rfl,rfl,(hS.sel [] rfl)⟩
theorem stringslite_HasPrefix_ok  (s : Str) (prefix_ : Str) (r : Bool) (hm : stringslite_HasPrefix s prefix_ = some r) : Ret Tryz.prog 76 ⟨[vS s,vS prefix_]⟩ (vB r):=retP_of (Tryz.call76 _) (fun w h => stringslite_HasPrefix_w F0   s prefix_ r hm w h)

theorem strings_HasPrefix_w  (M : Av) (s : Str) (prefix_ : Str) (r : Bool) (hm : strings_HasPrefix s prefix_ = some r) (w : World) (hS : S0 M [] w) : Calls Tryz.prog 54 ⟨[vS s,vS prefix_]⟩ w (fun e w' => ∃ v,e = .returned v ∧ v = vB r ∧ SH M (fpl []) w [] w'):=by
 rw [strings_HasPrefix] at hm
 have hS0 : SH M (fpl []) w [] w:=hS
 generalize hX : fpl [] = X at hS0 ⊢
 clear hS hX
 have hS:=hS0
 clear hS0
 refine calls_entryP Tryz.func54 rfl Tryz.ntmps54 rfl fun _ H => ?_
 refine s_reg [] [0,1] (fS [0,1] [vS s,vS prefix_]) [] H (by kernel_rfl) trivial fun _ _ H2 hb => ?_
 replace hS:=hS.below hb
 obtain ⟨y3,hy3,hm⟩:=bindE hm
 refine s_reg [(vB y3)] [4] [(4,[],vB y3)] [rB 76 [vS s,vS prefix_] (vB y3)] H2 (by kernel_rfl) ⟨((stringslite_HasPrefix_ok _ _ _ hy3).b),trivial⟩ fun _ _ H5 hb => ?_
 replace hS:=hS.below hb
 apply w_ret
 obtain rfl:=someE hm
 exact retR1 H5 rfl rfl ⟨_,rfl,rfl,(hS.sel [] rfl)⟩
theorem strings_HasPrefix_ok  (s : Str) (prefix_ : Str) (r : Bool) (hm : strings_HasPrefix s prefix_ = some r) : Ret Tryz.prog 54 ⟨[vS s,vS prefix_]⟩ (vB r):=retP_of (Tryz.call54 _) (fun w h => strings_HasPrefix_w F0   s prefix_ r hm w h)

theorem props_Custom_w  (M : Av) (name_ : Str) (r : Bool) (hm : props_Custom name_ = some r) (w : World) (hS : S0 M [] w) : Calls Tryz.prog 33 ⟨[vS name_]⟩ w (fun e w' => ∃ v,e = .returned v ∧ v = vB r ∧ SH M (fpl []) w [] w'):=by
 rw [props_Custom] at hm
 have hS0 : SH M (fpl []) w [] w:=hS
 generalize hX : fpl [] = X at hS0 ⊢
 clear hS hX
 have hS:=hS0
 clear hS0
 refine calls_entryP Tryz.func33 rfl Tryz.ntmps33 rfl fun _ H => ?_
 refine s_reg [] [0] [(0,[],vS name_)] [] H (by kernel_rfl) trivial fun _ _ H2 hb => ?_
 replace hS:=hS.below hb
 obtain ⟨y3,hy3,hm⟩:=bindE hm
 obtain ⟨x4,hx4,hm⟩:=letE hm
 refine s_reg [(vB y3)] [2] [(2,[],vB x4)] [rB 54 [vS name_,vS [45,45]] (vB y3)] H2 (by subst hx4; kernel_rfl) ⟨((strings_HasPrefix_ok _ _ _ hy3).b),trivial⟩ fun _ _ H6 hb => ?_
 replace hS:=hS.below hb
 apply w_ret
 obtain rfl:=someE hm
 exact retR1 H6 rfl rfl ⟨_,rfl,rfl,(hS.sel [] rfl)⟩
theorem props_Custom_ok  (name_ : Str) (r : Bool) (hm : props_Custom name_ = some r) : Ret Tryz.prog 33 ⟨[vS name_]⟩ (vB r):=retP_of (Tryz.call33 _) (fun w h => props_Custom_w F0   name_ r hm w h)

def tyColor : Ty TColor where
  z:=4
  enc:=fun x g => (cC x)
  inn:=fun _ _ _ _ => True
  len:=fun _ _ => rfl
  one:=fun _ _ => rfl
  kp:=fun _ _ _ => trivial
  anti:=fun _ _ => trivial
  fresh:=fun _ => trivial
def tyVal : Ty TVal where
  z:=7
  enc:=fun x g => (cV x)
  inn:=fun _ _ _ _ => True
  len:=fun _ _ => rfl
  one:=fun _ _ => rfl
  kp:=fun _ _ _ => trivial
  anti:=fun _ _ => trivial
  fresh:=fun _ => trivial
theorem props_word_w  (M : Av) (s : Str) (r : TVal) (hm : props_word s = r) (w : World) (hS : S0 M [] w) : Calls Tryz.prog 57 ⟨[vS s]⟩ w (fun e w' => ∃ v,e = .returned v ∧ v = vG (cV r) ∧ SH M (fpl []) w [] w'):=by
 rw [props_word] at hm
 have hS0 : SH M (fpl []) w [] w:=hS
 generalize hX : fpl [] = X at hS0 ⊢
 clear hS hX
 have hS:=hS0
 clear hS0
 refine calls_entryP Tryz.func57 rfl Tryz.ntmps57 rfl fun _ H => ?_
 apply w_seq
 apply wl_start
 have hd:=hS.hand [] [] rfl rfl
 refine m_stp [2,0] [(0,[],vS s)] H rfl rfl rfl rfl (o_alloc [vU 0,vN,vI 0,vU 0,vU 0,vU 0,vU 0] (z:=vG [vU 0,vN,vI 0,vU 0,vU 0,vU 0,vU 0]) hd (by kernel_rfl) rfl) (fun _ => rfl) fun _ _ v H3 hq => ?_
 obtain ⟨b1,rfl,hq⟩:=hq
 replace hS : SH M X w [eB b1 [vU 0,vN,vI 0,vU 0,vU 0,vU 0,vU 0]] _:=hS.join [] [] rfl rfl hq
 apply wl_end rfl
 apply w_seq
 apply wl_start
 refine wl_batch 0 2 [] [2,4] (fS [2,4] [vP b1,vG [vU 1,vS s,vI 0,vU 0,vU 0,vU 0,vU 0]]) [] H3 (by decide) (by kernel_rfl) trivial fun _ _ H5 hb => ?_
 replace hS:=hS.below hb
 have hd:=hS.hand [0] [] rfl rfl
 refine m_stp0 [2] [(2,[],vP b1)] H5 rfl rfl rfl (o_store [vU 1,vS s,vI 0,vU 0,vU 0,vU 0,vU 0] H5 hd rfl rfl (by kernel_rfl) rfl rfl rfl) rfl fun _ _ H7 hq => ?_
 obtain ⟨_,hq⟩:=hq
 replace hS : SH M X w [eB b1 [vU 1,vS s,vI 0,vU 0,vU 0,vU 0,vU 0]] _:=hS.join [0] [] rfl rfl hq
 apply wl_end rfl
 apply w_ret
 subst hm
 exact retR1 H7 rfl (oneRes_agg rfl (hS.bk 0 rfl) Tryz.underlying74 rfl (by kernel_rfl)) ⟨_,rfl,rfl,(hS.sel [] rfl)⟩
theorem props_word_ok  (s : Str) : Ret Tryz.prog 57 ⟨[vS s]⟩ (vG (cV (props_word s))):=retP_of (Tryz.call57 _) (fun w h => props_word_w F0   s _ rfl w h)

def tyProp : Ty TProp where
  z:=12
  enc:=fun x g => [vS x.Name,vB x.Inherited,vU x.Initial.Kind,vS x.Initial.Word,vI x.Initial.Num,vU x.Initial.Color.Red,vU x.Initial.Color.Green,vU x.Initial.Color.Blue,vU x.Initial.Color.Alpha,.slice (g 0).a x.Words.length (g 0).c,.slice (g 1).a x.Kinds.length (g 1).c,vB x.Least]
  inn:=fun M w x g => SlG tS M w x.Words (g 0) ∧ SlG (tI .u8) M w x.Kinds (g 1) ∧ True
  len:=fun _ _ => rfl
  one:=fun _ _ => rfl
  kp:=fun h k hX => ⟨h.1.kp k hX,h.2.1.kp k hX,trivial⟩
  anti:=fun h hM => ⟨h.1.anti hM,h.2.1.anti hM,trivial⟩
  fresh:=fun h => ⟨h.1.fresh,h.2.1.fresh,trivial⟩
theorem tyProp_i0 {M : Av} {w : World} {x : TProp} {g : Nat → Gh} (h : tyProp.inn M w x g) : SlG tS M w x.Words (g 0):=(show SlG tS M w x.Words (g 0) ∧ SlG (tI .u8) M w x.Kinds (g 1) ∧ True from h).1
theorem tyProp_i1 {M : Av} {w : World} {x : TProp} {g : Nat → Gh} (h : tyProp.inn M w x g) : SlG (tI .u8) M w x.Kinds (g 1):=(show SlG tS M w x.Words (g 0) ∧ SlG (tI .u8) M w x.Kinds (g 1) ∧ True from h).2.1
theorem tyProp_mk {M : Av} {w : World} {x : TProp} {g : Nat → Gh} (h0 : SlG tS M w x.Words (g 0)) (h1 : SlG (tI .u8) M w x.Kinds (g 1)) : tyProp.inn M w x g:=show SlG tS M w x.Words (g 0) ∧ SlG (tI .u8) M w x.Kinds (g 1) ∧ True from ⟨h0,h1,trivial⟩
theorem props_color_w  (M : Av) (name_ : Str) (inherited : Bool) (first : TVal) (r : TProp) (hm : props_color name_ inherited first = r) (w : World) (hS : S0 M [] w) : Calls Tryz.prog 58 ⟨[vS name_,vB inherited,vG (cV first)]⟩ w (fun e w' => ∃ v,e = .returned v ∧ ∃ (g901 : Gh) (g903 : Gh),v = vG [vS r.Name,vB r.Inherited,vU r.Initial.Kind,vS r.Initial.Word,vI r.Initial.Num,vU r.Initial.Color.Red,vU r.Initial.Color.Green,vU r.Initial.Color.Blue,vU r.Initial.Color.Alpha,vL g901 r.Words,vL g903 r.Kinds,vB r.Least] ∧ SH M (fpl []) w [eO 9 tS r.Words g901,eO 5 (tI .u8) r.Kinds g903] w'):=by
 rw [props_color] at hm
 have hS0 : SH M (fpl []) w [] w:=hS
 generalize hX : fpl [] = X at hS0 ⊢
 clear hS hX
 have hS:=hS0
 clear hS0
 refine calls_entryP Tryz.func58 rfl Tryz.ntmps58 rfl fun _ H => ?_
 apply w_seq
 apply wl_start
 have hd:=hS.hand [] [] rfl rfl
 refine m_stp [5,0,1] (fS [0,1] [vS name_,vB inherited]) H rfl rfl rfl rfl (o_box (cV first) H hd rfl rfl) (fun _ => rfl) fun _ _ v H3 hq => ?_
 obtain ⟨b1,rfl,hq⟩:=hq
 replace hS : SH M X w [eB b1 (cV first)] _:=hS.join [] [] rfl rfl hq
 have hd:=hS.hand [] [0] rfl rfl
 refine m_stp [6,0,1,5] (fS [0,1,5] [vS name_,vB inherited,vP b1]) H3 rfl rfl rfl rfl (o_alloc [vN,vF,vU 0,vN,vI 0,vU 0,vU 0,vU 0,vU 0,vO,vO,vF] (z:=vG [vN,vF,vU 0,vN,vI 0,vU 0,vU 0,vU 0,vU 0,vO,vO,vF]) hd (by kernel_rfl) rfl) (fun _ => rfl) fun _ _ v H6 hq => ?_
 obtain ⟨b4,rfl,hq⟩:=hq
 replace hS : SH M X w [eB b4 [vN,vF,vU 0,vN,vI 0,vU 0,vU 0,vU 0,vU 0,vO,vO,vF],eB b1 (cV first)] _:=hS.join [] [0] rfl rfl hq
 apply wl_end rfl
 apply w_seq
 apply wl_start
 refine wl_batch 0 3 [(vG (cV first))] [6,7,8,9] (fS [6,7,8,9] [vP b4,vS name_,vB inherited,vG (cV first)]) [rN b1 0 (cV first)] H6 (by decide) (by kernel_rfl) ⟨((hS.bk 1 rfl).atD rfl),trivial⟩ fun _ _ H8 hb => ?_
 replace hS:=hS.below hb
 have hd:=hS.hand [] [0,1] rfl rfl
 refine m_stp [10,6,7,8,9] (fS [6,7,8,9] [vP b4,vS name_,vB inherited,vG (cV first)]) H8 rfl rfl rfl rfl (o_lit (T:=(tI .u8)) (E:=5) (zv:=vU 0) [vU 7,vU 8] ([7,8] : List Int) [gL [],gL []] _ H8 hd rfl (by kernel_rfl) (by kernel_rfl) (by kernel_rfl) (by kernel_rfl) (by kernel_rfl) (by kernel_rfl) (by kernel_rfl) rfl (InnL.cons trivial (InnL.cons trivial InnL.nil))) (fun _ => rfl) fun _ _ v H12 hq => ?_
 obtain ⟨g9,rfl,hq⟩:=hq
 replace hS : SH M X w [eO 5 (tI .u8) ([7,8] : List Int) g9,eB b4 [vN,vF,vU 0,vN,vI 0,vU 0,vU 0,vU 0,vU 0,vO,vO,vF],eB b1 (cV first)] _:=hS.join [] [0,1] rfl rfl hq
 refine wl_batch 4 5 [] [6,11] (fS [6,11] [vP b4,vG [vS name_,vB inherited,vU first.Kind,vS first.Word,vI first.Num,vU first.Color.Red,vU first.Color.Green,vU first.Color.Blue,vU first.Color.Alpha,vO,vK g9 2,vF]]) [] H12 (by decide) (by kernel_rfl) trivial fun _ _ H14 hb => ?_
 replace hS:=hS.below hb
 have hd:=hS.hand [1] [0,2] rfl rfl
 refine m_stp0 [6] [(6,[],vP b4)] H14 rfl rfl rfl (o_store [vS name_,vB inherited,vU first.Kind,vS first.Word,vI first.Num,vU first.Color.Red,vU first.Color.Green,vU first.Color.Blue,vU first.Color.Alpha,vO,vK g9 2,vF] H14 hd rfl rfl (by kernel_rfl) rfl rfl rfl) rfl fun _ _ H16 hq => ?_
 obtain ⟨_,hq⟩:=hq
 replace hS : SH M X w [eB b4 [vS name_,vB inherited,vU first.Kind,vS first.Word,vI first.Num,vU first.Color.Red,vU first.Color.Green,vU first.Color.Blue,vU first.Color.Alpha,vO,vK g9 2,vF],eO 5 (tI .u8) ([7,8] : List Int) g9,eB b1 (cV first)] _:=hS.join [1] [0,2] rfl rfl hq
 apply wl_end rfl
 replace hS : SH M X w [eB b4 [vS name_,vB inherited,vU first.Kind,vS first.Word,vI first.Num,vU first.Color.Red,vU first.Color.Green,vU first.Color.Blue,vU first.Color.Alpha,vO,vK g9 2,vF],eO 5 (tI .u8) ([7,8] : List Int) g9] _:=hS.sel [0,1] rfl
 apply w_ret
 subst hm
 replace hS : SH M X w [eO 9 tS ([] : List Str) (.nil),eB b4 [vS name_,vB inherited,vU first.Kind,vS first.Word,vI first.Num,vU first.Color.Red,vU first.Color.Green,vU first.Color.Blue,vU first.Color.Alpha,vO,vK g9 2,vF],eO 5 (tI .u8) ([7,8] : List Int) g9] _:=hS.addNil 9 tS
 exact retR1 H16 rfl (oneRes_agg rfl (hS.bk 1 rfl) Tryz.underlying77 rfl (by kernel_rfl)) ⟨_,rfl,Gh.nil,g9,rfl,(hS.sel [0,2] rfl)⟩
theorem props_color_ok  (name_ : Str) (inherited : Bool) (first : TVal) (r : TProp) (hm : props_color name_ inherited first = r) (M : Av) (w : World) (hS : S0 M [] w) : DoesX Tryz.prog 58 ⟨[vS name_,vB inherited,vG (cV first)]⟩ w (fun v w' => ∃ (g901 : Gh) (g903 : Gh),v = vG [vS r.Name,vB r.Inherited,vU r.Initial.Kind,vS r.Initial.Word,vI r.Initial.Num,vU r.Initial.Color.Red,vU r.Initial.Color.Green,vU r.Initial.Color.Blue,vU r.Initial.Color.Alpha,vL g901 r.Words,vL g903 r.Kinds,vB r.Least] ∧ SH M (fpl []) w [eO 9 tS r.Words g901,eO 5 (tI .u8) r.Kinds g903] w'):=⟨Tryz.call58 _,props_color_w M   name_ inherited first r hm w hS⟩

abbrev gE0 : Ent:=eI (tI .u8) gl_strings_asciiSpace (Gh.mk (some ⟨0,0,none⟩) 256 fun _ _ => .nil)
theorem strings_Fields_w  (M : Av) (m : Nat) (s : Str) (r : List Str) (hm : strings_Fields m s = some r) (w : World) (hS : S0 M [gE0] w) : Calls Tryz.prog 77 ⟨[vS s]⟩ w (fun e w' => ∃ v,e = .returned v ∧ ∃ (g901 : Gh),v = .slice g901.a r.length g901.c ∧ SH M (fpl [gE0]) w [eO 9 tS r g901] w'):=by
 rw [strings_Fields] at hm
 have hS0 : SH M (fpl [gE0]) w [gE0] w:=hS
 generalize hX : fpl [gE0] = X at hS0 ⊢
 clear hS hX
 have hS:=hS0
 clear hS0
 refine calls_entryP Tryz.func77 rfl Tryz.ntmps77 rfl fun _ H => ?_
 refine s_reg [] [0] [(0,[],vS s)] [] H (by kernel_rfl) trivial fun _ _ H2 hb => ?_
 replace hS:=hS.below hb
 refine s_reg [] [0,3] (fS [0,3] [vS s,vI 0]) [] H2 (by kernel_rfl) trivial fun _ _ H4 hb => ?_
 replace hS:=hS.below hb
 refine s_reg [] [0,3,4] (fS [0,3,4] [vS s,vI 0,vI 1]) [] H4 (by kernel_rfl) trivial fun _ _ H6 hb => ?_
 replace hS:=hS.below hb
 refine s_reg [] [0,3,4,5] (fS [0,3,4,5] [vS s,vI 0,vI 1,vU 0]) [] H6 (by kernel_rfl) trivial fun _ _ H8 hb => ?_
 replace hS:=hS.below hb
 obtain ⟨z9,hz,hm⟩:=bindE hm
 refine w_cut (fun a' w' => Fr 106 (fS [0,3,5] [vS s,vI z9.1,vU z9.2]) a' ∧ SH M X w [gE0] w') ?_ ?_
 ·replace hm:=hz
  refine s_reg [] [0,3,4,5,6] (fS [0,3,4,5,6] [vS s,vI 0,vI 1,vU 0,vI 0]) [] H8 (by kernel_rfl) trivial fun _ _ H11 hb => ?_
  replace hS:=hS.below hb
  apply w_block
  refine w_loop (fun kk a' w' => ∃ (v12 : Int) (v13 : Int) (v14 : Int) (v15 : Int),strings_Fields_L1 m s kk v12 v13 v14 v15 = some _ ∧ Fr 106 (fS [0,3,4,5,6] [vS s,vI v12,vI v13,vU v14,vI v15]) a' ∧ SH M X w [gE0] w') ⟨_,0,1,0,0,hm,FrG.keep (ks:=[0,3,4,5,6]) H11 (by kernel_rfl),hS⟩ ?_
  clear hm H11 hS
  rintro kk _ _ ⟨v12,v13,v14,v15,hm,H,hS⟩
  cases kk with
  | zero => exact noneE hm
  | succ kk =>
   rw [strings_Fields_L1] at hm
   apply w_seq
   refine s_reg [] [0,3,4,5,6,16] (fS [0,3,4,5,6,16] [vS s,vI v12,vI v13,vU v14,vI v15,vB (decide (v15 < (ln s)))]) [] H (by kernel_rfl) trivial fun _ _ H17 hb => ?_
   replace hS:=hS.below hb
   refine w_if H17 rfl (fun hc => ?_) (fun hc => ?c34)
   case c34 =>
    replace hm:=bF hc hm
    apply w_exit rfl
    obtain rfl:=someE hm
    exact ⟨FrG.keep (ks:=[0,3,5]) H17 (by kernel_rfl),hS⟩
   replace hm:=bT hc hm
   apply w_skip
   apply w_seq
   apply w_block
   obtain ⟨ho18,hm⟩:=chkE hm
   refine s_reg [] [0,3,4,5,6,7] (fS [0,3,4,5,6,7] [vS s,vI v12,vI v13,vU v14,vI v15,vU (bat s v15)]) [fun _ => 0 ≤ v15 ∧ v15 < ln s] H17 (by kernel_rfl) ⟨ho18,trivial⟩ fun _ _ H20 hb => ?_
   replace hS:=hS.below hb
   refine s_reg [] [0,3,4,5,6,7] (fS [0,3,4,5,6,7] [vS s,vI v12,vI v13,vU (ibit .or .u8 v14 (bat s v15)),vI v15,vU (bat s v15)]) [] H20 (by kernel_rfl) trivial fun _ _ H22 hb => ?_
   replace hS:=hS.below hb
   obtain ⟨ho23,hm⟩:=chkE hm
   obtain ⟨x24,hx24,hm⟩:=letE hm
   refine s_reg [(vU (gi gl_strings_asciiSpace (bat s v15)))] [0,3,4,5,6,8] (fS [0,3,4,5,6,8] [vS s,vI v12,vI v13,vU (ibit .or .u8 v14 (bat s v15)),vI v15,vI x24]) [fun _ => 0 ≤ (bat s v15) ∧ (bat s v15) < (256 : Int),fun wz => V.at1 ⟨0,0 + ((bat s v15)).toNat * 1,none⟩ (vU (gi gl_strings_asciiSpace (bat s v15))) wz] H22 (by subst hx24; kernel_rfl) ⟨ho23,((hS.im 0 rfl).at1 ho23 0 rfl),trivial⟩ fun _ _ H26 hb => ?_
   replace hS:=hS.below hb
   obtain ⟨x27,hx27,hm⟩:=letE hm
   refine s_reg [] [0,3,5,6,8] (fS [0,3,5,6,8] [vS s,vI (w64 (v12 + x27)),vU (ibit .or .u8 v14 (bat s v15)),vI v15,vI x24]) [] H26 (by subst hx27; kernel_rfl) trivial fun _ _ H29 hb => ?_
   replace hS:=hS.below hb
   refine w_reg [] [0,3,4,5,6] (fS [0,3,4,5,6] [vS s,vI (w64 (v12 + x27)),vI x24,vU (ibit .or .u8 v14 (bat s v15)),vI v15]) [] H29 (by kernel_rfl) trivial fun _ _ H31 hb => ?_
   replace hS:=hS.below hb
   refine w_reg [] [0,3,4,5,6] (fS [0,3,4,5,6] [vS s,vI (w64 (v12 + x27)),vI x24,vU (ibit .or .u8 v14 (bat s v15)),vI (w64 (v15 + 1))]) [] H31 (by kernel_rfl) trivial fun _ _ H33 hb => ?_
   replace hS:=hS.below hb
   exact ⟨_,Nat.lt_succ_self _,w64 (v12 + x27),x24,ibit .or .u8 v14 (bat s v15),w64 (v15 + 1),hm,FrG.keep (ks:=[0,3,4,5,6]) H33 (by kernel_rfl),hS⟩
 ·rintro _ _ ⟨H,hS⟩
  apply w_seq
  refine s_reg [] [0,3,37] (fS [0,3,37] [vS s,vI z9.1,vB (decide (128 ≤ z9.2))]) [] H (by kernel_rfl) trivial fun _ _ H37 hb => ?_
  replace hS:=hS.below hb
  refine w_if H37 rfl (fun hc => ?c130) (fun hc => ?_)
  case c130 =>
   replace hm:=bT hc hm
   exact noneE hm
  replace hm:=bF hc hm
  apply w_skip
  apply w_seq
  apply wl_start
  refine wl_batch 0 1 [] [0,40] (fS [0,40] [vS s,vI z9.1]) [] H37 (by decide) (by kernel_rfl) trivial fun _ _ H39 hb => ?_
  replace hS:=hS.below hb
  obtain ⟨ho40,hm⟩:=chkE hm
  obtain ⟨q41,hq41,hm⟩:=letE hm
  have hd:=hS.hand [] [0] rfl rfl
  refine m_stp [41,0] [(0,[],vS s)] H39 rfl rfl rfl rfl (o_make (T:=tS) (E:=9) (zv:=vN) ([] : Str) H39 hd rfl rfl (by kernel_rfl) (by kernel_rfl) rfl rfl (fun _ _ => trivial) ho40) (fun _ => rfl) fun _ _ v H43 hq => ?_
  obtain ⟨g44,rfl,hq⟩:=hq
  rw [← hq41] at hq
  rw [← hq41] at H43
  replace hS : SH M X w [eO 9 tS q41 g44,gE0] _:=hS.join [] [0] rfl rfl hq
  refine wl_batch 2 3 [] [0,9] (fS [0,9] [vS s,.slice g44.a q41.length g44.c]) [] H43 (by decide) (by kernel_rfl) trivial fun _ _ H47 hb => ?_
  replace hS:=hS.below hb
  apply wl_end rfl
  refine s_reg [] [0,9,10] (fS [0,9,10] [vS s,.slice g44.a q41.length g44.c,vI 0]) [] H47 (by kernel_rfl) trivial fun _ _ H49 hb => ?_
  replace hS:=hS.below hb
  refine s_reg [] [0,9,10] (fS [0,9,10] [vS s,.slice g44.a q41.length g44.c,vI 0]) [] H49 (by kernel_rfl) trivial fun _ _ H51 hb => ?_
  replace hS:=hS.below hb
  refine s_reg [] [0,9,10,12] (fS [0,9,10,12] [vS s,.slice g44.a q41.length g44.c,vI 0,vI 0]) [] H51 (by kernel_rfl) trivial fun _ _ H53 hb => ?_
  replace hS:=hS.below hb
  obtain ⟨z54,hz,hm⟩:=bindE hm
  refine w_cut (fun a' w' => Fr 106 (fS [0,9,10,12] [vS s,.slice g44.a q41.length g44.c,vI 0,vI z54]) a' ∧ SH M X w [eO 9 tS q41 g44,gE0] w') ?_ ?_
  ·replace hm:=hz
   apply w_block
   refine w_loop (fun kk a' w' => ∃ (v55 : Int),strings_Fields_L2 m s kk v55 = some _ ∧ Fr 106 (fS [0,9,10,12] [vS s,.slice g44.a q41.length g44.c,vI 0,vI v55]) a' ∧ SH M X w [eO 9 tS q41 g44,gE0] w') ⟨_,0,hm,FrG.keep (ks:=[0,9,10,12]) H53 (by kernel_rfl),hS⟩ ?_
   clear hm H53 hS
   rintro kk _ _ ⟨v55,hm,H,hS⟩
   cases kk with
   | zero => exact noneE hm
   | succ kk =>
    rw [strings_Fields_L2] at hm
    apply w_seq
    obtain ⟨ho56,hm⟩:=chkE hm
    obtain ⟨ho57,hm⟩:=chkE hm
    obtain ⟨x58,hx58,hm⟩:=letE hm
    refine s_reg [(vU (gi gl_strings_asciiSpace (bat s v55)))] [0,9,10,12,53] (fS [0,9,10,12,53] [vS s,.slice g44.a q41.length g44.c,vI 0,vI v55,vB x58]) [fun _ => ((decide (v55 < (ln s))) = true ∧ True → 0 ≤ v55 ∧ v55 < ln s),fun _ => ((decide (v55 < (ln s))) = true ∧ True → 0 ≤ (bat s v55) ∧ (bat s v55) < (256 : Int)),fun wz => ((decide (v55 < (ln s))) = true ∧ True → V.at1 ⟨0,0 + ((bat s v55)).toNat * 1,none⟩ (vU (gi gl_strings_asciiSpace (bat s v55))) wz)] H (by subst hx58; kernel_rfl) ⟨fun hg => (ho56 hg.1),fun hg => (ho57 hg.1),fun hg => (hS.im 1 rfl).at1 (ho57 hg.1) 0 rfl,trivial⟩ fun _ _ H60 hb => ?_
    replace hS:=hS.below hb
    refine w_if H60 rfl (fun hc => ?_) (fun hc => ?c63)
    case c63 =>
     replace hm:=bF hc hm
     apply w_exit rfl
     obtain rfl:=someE hm
     exact ⟨FrG.keep (ks:=[0,9,10,12]) H60 (by kernel_rfl),hS⟩
    replace hm:=bT hc hm
    apply w_skip
    apply w_block
    refine w_reg [] [0,9,10,12] (fS [0,9,10,12] [vS s,.slice g44.a q41.length g44.c,vI 0,vI (w64 (v55 + 1))]) [] H60 (by kernel_rfl) trivial fun _ _ H62 hb => ?_
    replace hS:=hS.below hb
    exact ⟨_,Nat.lt_succ_self _,w64 (v55 + 1),hm,FrG.keep (ks:=[0,9,10,12]) H62 (by kernel_rfl),hS⟩
  ·rintro _ _ ⟨H,hS⟩
   refine s_reg [] [0,9,10,11,12] (fS [0,9,10,11,12] [vS s,.slice g44.a q41.length g44.c,vI 0,vI z54,vI z54]) [] H (by kernel_rfl) trivial fun _ _ H66 hb => ?_
   replace hS:=hS.below hb
   obtain ⟨z67,hz,hm⟩:=bindE hm
   refine w_cut (fun a' w' => ∃ (g111 : Gh),Fr 106 (fS [0,9,10,11] [vS s,.slice g111.a z67.2.2.length g111.c,vI z67.1,vI z67.2.1]) a' ∧ SH M X w [eO 9 tS z67.2.2 g111,gE0] w') ?_ ?_
   ·replace hm:=hz
    apply w_block
    refine w_loop (fun kk a' w' => ∃ (v68 : List Str) (v70 : Int) (v71 : Int) (v72 : Int) (g69 : Gh),strings_Fields_L3 m s kk v68 v70 v71 v72 = some _ ∧ Fr 106 (fS [0,9,10,11,12] [vS s,.slice g69.a v68.length g69.c,vI v70,vI v71,vI v72]) a' ∧ SH M X w [eO 9 tS v68 g69,gE0] w') ⟨_,q41,0,z54,z54,g44,hm,FrG.keep (ks:=[0,9,10,11,12]) H66 (by kernel_rfl),hS⟩ ?_
    clear hm H66 hS
    rintro kk _ _ ⟨v68,v70,v71,v72,g69,hm,H,hS⟩
    cases kk with
    | zero => exact noneE hm
    | succ kk =>
     rw [strings_Fields_L3] at hm
     apply w_seq
     refine s_reg [] [0,9,10,11,12,60] (fS [0,9,10,11,12,60] [vS s,.slice g69.a v68.length g69.c,vI v70,vI v71,vI v72,vB (decide (v72 < (ln s)))]) [] H (by kernel_rfl) trivial fun _ _ H74 hb => ?_
     replace hS:=hS.below hb
     refine w_if H74 rfl (fun hc => ?_) (fun hc => ?c109)
     case c109 =>
      replace hm:=bF hc hm
      apply w_exit rfl
      obtain rfl:=someE hm
      exact ⟨g69,FrG.keep (ks:=[0,9,10,11]) H74 (by kernel_rfl),hS⟩
     replace hm:=bT hc hm
     apply w_skip
     apply w_block
     apply w_seq
     obtain ⟨ho75,hm⟩:=chkE hm
     obtain ⟨ho76,hm⟩:=chkE hm
     obtain ⟨x77,hx77,hm⟩:=letE hm
     refine s_reg [(vU (gi gl_strings_asciiSpace (bat s v72)))] [0,9,10,11,12,66] (fS [0,9,10,11,12,66] [vS s,.slice g69.a v68.length g69.c,vI v70,vI v71,vI v72,vB x77]) [fun _ => 0 ≤ v72 ∧ v72 < ln s,fun _ => 0 ≤ (bat s v72) ∧ (bat s v72) < (256 : Int),fun wz => V.at1 ⟨0,0 + ((bat s v72)).toNat * 1,none⟩ (vU (gi gl_strings_asciiSpace (bat s v72))) wz] H74 (by subst hx77; kernel_rfl) ⟨ho75,ho76,((hS.im 1 rfl).at1 ho76 0 rfl),trivial⟩ fun _ _ H79 hb => ?_
     replace hS:=hS.below hb
     refine w_if H79 rfl (fun hc => ?c108) (fun hc => ?_)
     case c108 =>
      replace hm:=bT hc hm
      refine s_reg [] [0,9,10,11,12] (fS [0,9,10,11,12] [vS s,.slice g69.a v68.length g69.c,vI v70,vI v71,vI (w64 (v72 + 1))]) [] H79 (by kernel_rfl) trivial fun _ _ H81 hb => ?_
      replace hS:=hS.below hb
      apply w_exit rfl
      exact ⟨_,Nat.lt_succ_self _,v68,v70,v71,w64 (v72 + 1),g69,hm,FrG.keep (ks:=[0,9,10,11,12]) H81 (by kernel_rfl),hS⟩
     replace hm:=bF hc hm
     apply w_skip
     apply w_seq
     apply wl_start
     obtain ⟨ho82,hm⟩:=chkE hm
     obtain ⟨ho83,hm⟩:=chkE hm
     refine wl_batch 0 7 [] [0,9,10,12,74,75] (fS [0,9,10,12,74,75] [vS s,.slice g69.a v68.length g69.c,vI v70,vI v72,vS (sub s v71 v72),.pointer (some ⟨ab g69.a,ao g69.a + (v70).toNat * 1,none⟩)]) [fun _ => 0 ≤ v71 ∧ v71 ≤ v72 ∧ v72 ≤ ln s,fun _ => oka g69.a ∧ 0 ≤ v70 ∧ v70 < ln v68] H79 (by decide) (by kernel_rfl) ⟨ho82,((hS.osl 0 rfl).oki ho83),trivial⟩ fun _ _ H85 hb => ?_
     replace hS:=hS.below hb
     have hd:=hS.hand [0] [1] rfl rfl
     refine m_stp0 [0,9,10,12] (fS [0,9,10,12] [vS s,.slice g69.a v68.length g69.c,vI v70,vI v72]) H85 rfl rfl rfl (o_estore (T:=tS) (g:=g69) (q:=v68) (ix:=v70) (off:=0) (sub s v71 v72) (gL []) H85 hd rfl rfl rfl rfl (by kernel_rfl) rfl rfl ho83 rfl trivial rfl) rfl fun _ _ H87 hq => ?_
     obtain ⟨_,hq⟩:=hq
     obtain ⟨s88,hq⟩:=hq
     obtain ⟨q89,hq89,hm⟩:=letE hm
     rw [← hq89] at hq
     have hn : v68.length = q89.length:=by rw [hq89,setl_len]
     first | rw [hn] at H87 | skip
     first | rw [hn] at hS | skip
     clear hn
     replace hS : SH M X w [eO 9 tS q89 (Gh.mk g69.a g69.c s88),gE0] _:=hS.join [0] [1] rfl rfl hq
     apply wl_end rfl
     refine s_reg [] [0,9,10,12] (fS [0,9,10,12] [vS s,.slice (Gh.mk g69.a g69.c s88).a q89.length (Gh.mk g69.a g69.c s88).c,vI (w64 (v70 + 1)),vI v72]) [] H87 (by kernel_rfl) trivial fun _ _ H91 hb => ?_
     replace hS:=hS.below hb
     refine s_reg [] [0,9,10,12] (fS [0,9,10,12] [vS s,.slice (Gh.mk g69.a g69.c s88).a q89.length (Gh.mk g69.a g69.c s88).c,vI (w64 (v70 + 1)),vI (w64 (v72 + 1))]) [] H91 (by kernel_rfl) trivial fun _ _ H93 hb => ?_
     replace hS:=hS.below hb
     obtain ⟨z94,hz,hm⟩:=bindE hm
     refine w_cut (fun a' w' => Fr 106 (fS [0,9,10,12] [vS s,.slice (Gh.mk g69.a g69.c s88).a q89.length (Gh.mk g69.a g69.c s88).c,vI (w64 (v70 + 1)),vI z94]) a' ∧ SH M X w [eO 9 tS q89 (Gh.mk g69.a g69.c s88),gE0] w') ?_ ?_
     ·replace hm:=hz
      apply w_block
      refine w_loop (fun kk a' w' => ∃ (v95 : Int),strings_Fields_L4 m s kk v95 = some _ ∧ Fr 106 (fS [0,9,10,12] [vS s,.slice (Gh.mk g69.a g69.c s88).a q89.length (Gh.mk g69.a g69.c s88).c,vI (w64 (v70 + 1)),vI v95]) a' ∧ SH M X w [eO 9 tS q89 (Gh.mk g69.a g69.c s88),gE0] w') ⟨_,w64 (v72 + 1),hm,FrG.keep (ks:=[0,9,10,12]) H93 (by kernel_rfl),hS⟩ ?_
      clear hm H93 hS
      rintro kk _ _ ⟨v95,hm,H,hS⟩
      cases kk with
      | zero => exact noneE hm
      | succ kk =>
       rw [strings_Fields_L4] at hm
       apply w_seq
       obtain ⟨ho96,hm⟩:=chkE hm
       obtain ⟨ho97,hm⟩:=chkE hm
       obtain ⟨x98,hx98,hm⟩:=letE hm
       refine s_reg [(vU (gi gl_strings_asciiSpace (bat s v95)))] [0,9,10,12,91] (fS [0,9,10,12,91] [vS s,.slice (Gh.mk g69.a g69.c s88).a q89.length (Gh.mk g69.a g69.c s88).c,vI (w64 (v70 + 1)),vI v95,vB x98]) [fun _ => ((decide (v95 < (ln s))) = true ∧ True → 0 ≤ v95 ∧ v95 < ln s),fun _ => ((decide (v95 < (ln s))) = true ∧ True → 0 ≤ (bat s v95) ∧ (bat s v95) < (256 : Int)),fun wz => ((decide (v95 < (ln s))) = true ∧ True → V.at1 ⟨0,0 + ((bat s v95)).toNat * 1,none⟩ (vU (gi gl_strings_asciiSpace (bat s v95))) wz)] H (by subst hx98; kernel_rfl) ⟨fun hg => (ho96 hg.1),fun hg => (ho97 hg.1),fun hg => (hS.im 1 rfl).at1 (ho97 hg.1) 0 rfl,trivial⟩ fun _ _ H100 hb => ?_
       replace hS:=hS.below hb
       refine w_if H100 rfl (fun hc => ?_) (fun hc => ?c103)
       case c103 =>
        replace hm:=bF hc hm
        apply w_exit rfl
        obtain rfl:=someE hm
        exact ⟨FrG.keep (ks:=[0,9,10,12]) H100 (by kernel_rfl),hS⟩
       replace hm:=bT hc hm
       apply w_skip
       apply w_block
       refine w_reg [] [0,9,10,12] (fS [0,9,10,12] [vS s,.slice (Gh.mk g69.a g69.c s88).a q89.length (Gh.mk g69.a g69.c s88).c,vI (w64 (v70 + 1)),vI (w64 (v95 + 1))]) [] H100 (by kernel_rfl) trivial fun _ _ H102 hb => ?_
       replace hS:=hS.below hb
       exact ⟨_,Nat.lt_succ_self _,w64 (v95 + 1),hm,FrG.keep (ks:=[0,9,10,12]) H102 (by kernel_rfl),hS⟩
     ·rintro _ _ ⟨H,hS⟩
      refine w_reg [] [0,9,10,11,12] (fS [0,9,10,11,12] [vS s,.slice (Gh.mk g69.a g69.c s88).a q89.length (Gh.mk g69.a g69.c s88).c,vI (w64 (v70 + 1)),vI z94,vI z94]) [] H (by kernel_rfl) trivial fun _ _ H106 hb => ?_
      replace hS:=hS.below hb
      exact ⟨_,Nat.lt_succ_self _,q89,w64 (v70 + 1),z94,z94,(Gh.mk g69.a g69.c s88),hm,FrG.keep (ks:=[0,9,10,11,12]) H106 (by kernel_rfl),hS⟩
   ·rintro _ _ ⟨g111,H,hS⟩
    obtain ⟨z112,hz,hm⟩:=bindE hm
    refine w_cut (fun a' w' => ∃ (g124 : Gh),Fr 106 [(9,[],.slice g124.a z112.length g124.c)] a' ∧ SH M X w [eO 9 tS z112 g124,gE0] w') ?_ ?_
    ·replace hm:=hz
     refine s_reg [] [0,9,10,11,98] (fS [0,9,10,11,98] [vS s,.slice g111.a z67.2.2.length g111.c,vI z67.1,vI z67.2.1,vB (decide (z67.2.1 < (ln s)))]) [] H (by kernel_rfl) trivial fun _ _ H114 hb => ?_
     replace hS:=hS.below hb
     refine w_if H114 rfl (fun hc => ?_) (fun hc => ?c123)
     case c123 =>
      replace hm:=bF hc hm
      apply w_skip
      obtain rfl:=someE hm
      exact ⟨g111,FrG.keep (ks:=[9]) H114 (by kernel_rfl),hS⟩
     replace hm:=bT hc hm
     apply wl_start
     obtain ⟨ho115,hm⟩:=chkE hm
     obtain ⟨ho116,hm⟩:=chkE hm
     refine wl_batch 0 6 [] [9,103,104] (fS [9,103,104] [.slice g111.a z67.2.2.length g111.c,vS (sub s z67.2.1 (ln s)),.pointer (some ⟨ab g111.a,ao g111.a + (z67.1).toNat * 1,none⟩)]) [fun _ => 0 ≤ z67.2.1 ∧ z67.2.1 ≤ ln s,fun _ => oka g111.a ∧ 0 ≤ z67.1 ∧ z67.1 < ln z67.2.2] H114 (by decide) (by kernel_rfl) ⟨ho115,((hS.osl 0 rfl).oki ho116),trivial⟩ fun _ _ H118 hb => ?_
     replace hS:=hS.below hb
     have hd:=hS.hand [0] [1] rfl rfl
     refine m_stp0 [9] [(9,[],.slice g111.a z67.2.2.length g111.c)] H118 rfl rfl rfl (o_estore (T:=tS) (g:=g111) (q:=z67.2.2) (ix:=z67.1) (off:=0) (sub s z67.2.1 (ln s)) (gL []) H118 hd rfl rfl rfl rfl (by kernel_rfl) rfl rfl ho116 rfl trivial rfl) rfl fun _ _ H120 hq => ?_
     obtain ⟨_,hq⟩:=hq
     obtain ⟨s121,hq⟩:=hq
     obtain ⟨q122,hq122,hm⟩:=letE hm
     rw [← hq122] at hq
     have hn : z67.2.2.length = q122.length:=by rw [hq122,setl_len]
     first | rw [hn] at H120 | skip
     first | rw [hn] at hS | skip
     clear hn
     replace hS : SH M X w [eO 9 tS q122 (Gh.mk g111.a g111.c s121),gE0] _:=hS.join [0] [1] rfl rfl hq
     apply wl_end rfl
     obtain rfl:=someE hm
     exact ⟨(Gh.mk g111.a g111.c s121),FrG.keep (ks:=[9]) H120 (by kernel_rfl),hS⟩
    ·rintro _ _ ⟨g124,H,hS⟩
     refine s_reg [] [2] [(2,[],.slice g124.a z112.length g124.c)] [] H (by kernel_rfl) trivial fun _ _ H126 hb => ?_
     replace hS:=hS.below hb
     apply w_ret
     obtain rfl:=someE hm
     exact retR1 H126 rfl rfl ⟨_,rfl,g124,rfl,(hS.sel [0] rfl)⟩
theorem strings_Fields_ok  (m : Nat) (s : Str) (r : List Str) (hm : strings_Fields m s = some r) (M : Av) (w : World) (hS : S0 M [gE0] w) : DoesX Tryz.prog 77 ⟨[vS s]⟩ w (fun v w' => ∃ (g901 : Gh),v = vL g901 r ∧ SH M (fpl [gE0]) w [eO 9 tS r g901] w'):=⟨Tryz.call77 _,strings_Fields_w M m   s r hm w hS⟩

theorem props_words_w  (M : Av) (m : Nat) (name_ : Str) (inherited : Bool) (first : Str) (all_ : Str) (r : TProp) (hm : props_words m name_ inherited first all_ = some r) (w : World) (hS : S0 M [gE0] w) : Calls Tryz.prog 59 ⟨[vS name_,vB inherited,vS first,vS all_]⟩ w (fun e w' => ∃ v,e = .returned v ∧ ∃ (g901 : Gh) (g903 : Gh),v = vG [vS r.Name,vB r.Inherited,vU r.Initial.Kind,vS r.Initial.Word,vI r.Initial.Num,vU r.Initial.Color.Red,vU r.Initial.Color.Green,vU r.Initial.Color.Blue,vU r.Initial.Color.Alpha,vL g901 r.Words,vL g903 r.Kinds,vB r.Least] ∧ SH M (fpl [gE0]) w [eO 9 tS r.Words g901,eO 5 (tI .u8) r.Kinds g903] w'):=by
 rw [props_words] at hm
 have hS0 : SH M (fpl [gE0]) w [gE0] w:=hS
 generalize hX : fpl [gE0] = X at hS0 ⊢
 clear hS hX
 have hS:=hS0
 clear hS0
 refine calls_entryP Tryz.func59 rfl Tryz.ntmps59 rfl fun _ H => ?_
 apply w_seq
 apply wl_start
 have hd:=hS.hand [] [0] rfl rfl
 refine m_stp [8,0,1,2,3] (fS [0,1,2,3] [vS name_,vB inherited,vS first,vS all_]) H rfl rfl rfl rfl (o_alloc [vN,vF,vU 0,vN,vI 0,vU 0,vU 0,vU 0,vU 0,vO,vO,vF] (z:=vG [vN,vF,vU 0,vN,vI 0,vU 0,vU 0,vU 0,vU 0,vO,vO,vF]) hd (by kernel_rfl) rfl) (fun _ => rfl) fun _ _ v H3 hq => ?_
 obtain ⟨b1,rfl,hq⟩:=hq
 replace hS : SH M X w [eB b1 [vN,vF,vU 0,vN,vI 0,vU 0,vU 0,vU 0,vU 0,vO,vO,vF],gE0] _:=hS.join [] [0] rfl rfl hq
 apply wl_end rfl
 apply w_seq
 apply wl_start
 obtain ⟨y4,hy4,hm⟩:=letE hm
 refine wl_batch 0 5 [(vG (cV y4))] [8,9,10,12,13] (fS [8,9,10,12,13] [vP b1,vS name_,vB inherited,vG (cV y4),vS all_]) [rB 57 [vS first] (vG (cV y4))] H3 (by decide) (by subst hy4; kernel_rfl) ⟨((by rw [hy4]; exact (props_word_ok _).b)),trivial⟩ fun _ _ H6 hb => ?_
 replace hS:=hS.below hb
 obtain ⟨y7,hy7,hm⟩:=bindE hm
 have hd:=hS.hand [1] [0,1] rfl rfl
 refine m_stp [14,8,9,10,12] (fS [8,9,10,12] [vP b1,vS name_,vB inherited,vG (cV y4)]) H6 rfl rfl rfl rfl (o_callx H6 rfl rfl (strings_Fields_ok m _ _ hy7 _ _ hd)) (fun _ => rfl) fun _ _ v H11 hq => ?_
 obtain ⟨g8,rfl,hq⟩:=hq
 replace hS : SH M X w [eO 9 tS y7 g8,eB b1 [vN,vF,vU 0,vN,vI 0,vU 0,vU 0,vU 0,vU 0,vO,vO,vF],gE0] _:=hS.join [1] [0,1] rfl rfl hq
 refine wl_batch 6 7 [] [8,15] (fS [8,15] [vP b1,vG [vS name_,vB inherited,vU y4.Kind,vS y4.Word,vI y4.Num,vU y4.Color.Red,vU y4.Color.Green,vU y4.Color.Blue,vU y4.Color.Alpha,vL g8 y7,vO,vF]]) [] H11 (by decide) (by kernel_rfl) trivial fun _ _ H13 hb => ?_
 replace hS:=hS.below hb
 have hd:=hS.hand [1] [0,2] rfl rfl
 refine m_stp0 [8] [(8,[],vP b1)] H13 rfl rfl rfl (o_store [vS name_,vB inherited,vU y4.Kind,vS y4.Word,vI y4.Num,vU y4.Color.Red,vU y4.Color.Green,vU y4.Color.Blue,vU y4.Color.Alpha,vL g8 y7,vO,vF] H13 hd rfl rfl (by kernel_rfl) rfl rfl rfl) rfl fun _ _ H15 hq => ?_
 obtain ⟨_,hq⟩:=hq
 replace hS : SH M X w [eB b1 [vS name_,vB inherited,vU y4.Kind,vS y4.Word,vI y4.Num,vU y4.Color.Red,vU y4.Color.Green,vU y4.Color.Blue,vU y4.Color.Alpha,vL g8 y7,vO,vF],eO 9 tS y7 g8,gE0] _:=hS.join [1] [0,2] rfl rfl hq
 apply wl_end rfl
 apply w_ret
 obtain rfl:=someE hm
 replace hS : SH M X w [eO 5 (tI .u8) ([] : List Int) (.nil),eB b1 [vS name_,vB inherited,vU y4.Kind,vS y4.Word,vI y4.Num,vU y4.Color.Red,vU y4.Color.Green,vU y4.Color.Blue,vU y4.Color.Alpha,vL g8 y7,vO,vF],eO 9 tS y7 g8,gE0] _:=hS.addNil 5 (tI .u8)
 exact retR1 H15 rfl (oneRes_agg rfl (hS.bk 1 rfl) Tryz.underlying77 rfl (by kernel_rfl)) ⟨_,rfl,g8,Gh.nil,rfl,(hS.sel [2,0] rfl)⟩
theorem props_words_ok  (m : Nat) (name_ : Str) (inherited : Bool) (first : Str) (all_ : Str) (r : TProp) (hm : props_words m name_ inherited first all_ = some r) (M : Av) (w : World) (hS : S0 M [gE0] w) : DoesX Tryz.prog 59 ⟨[vS name_,vB inherited,vS first,vS all_]⟩ w (fun v w' => ∃ (g901 : Gh) (g903 : Gh),v = vG [vS r.Name,vB r.Inherited,vU r.Initial.Kind,vS r.Initial.Word,vI r.Initial.Num,vU r.Initial.Color.Red,vU r.Initial.Color.Green,vU r.Initial.Color.Blue,vU r.Initial.Color.Alpha,vL g901 r.Words,vL g903 r.Kinds,vB r.Least] ∧ SH M (fpl [gE0]) w [eO 9 tS r.Words g901,eO 5 (tI .u8) r.Kinds g903] w'):=⟨Tryz.call59 _,props_words_w M m   name_ inherited first all_ r hm w hS⟩

theorem props_length_w {g_more : Gh} (M : Av) (m : Nat) (name_ : Str) (inherited : Bool) (first : TVal) (all_ : Str) (least : Bool) (more : List Int) (r : TProp) (hm : props_length m name_ inherited first all_ least more = some r) (w : World) (hS : S0 M [eI (tI .u8) more g_more,gE0] w) : Calls Tryz.prog 60 ⟨[vS name_,vB inherited,vG (cV first),vS all_,vB least,vL g_more more]⟩ w (fun e w' => ∃ v,e = .returned v ∧ ∃ (g901 : Gh) (g903 : Gh),v = vG [vS r.Name,vB r.Inherited,vU r.Initial.Kind,vS r.Initial.Word,vI r.Initial.Num,vU r.Initial.Color.Red,vU r.Initial.Color.Green,vU r.Initial.Color.Blue,vU r.Initial.Color.Alpha,vL g901 r.Words,vL g903 r.Kinds,vB r.Least] ∧ SH M (fpl [eI (tI .u8) more g_more,gE0]) w [eO 9 tS r.Words g901,eO 5 (tI .u8) r.Kinds g903] w'):=by
 rw [props_length] at hm
 have hS0 : SH M (fpl [eI (tI .u8) more g_more,gE0]) w [eI (tI .u8) more g_more,gE0] w:=hS
 generalize hX : fpl [eI (tI .u8) more g_more,gE0] = X at hS0 ⊢
 clear hS hX
 have hS:=hS0
 clear hS0
 refine calls_entryP Tryz.func60 rfl Tryz.ntmps60 rfl fun _ H => ?_
 apply w_seq
 apply wl_start
 have hd:=hS.hand [] [0,1] rfl rfl
 refine m_stp [8,0,1,3,4,5] (fS [0,1,3,4,5] [vS name_,vB inherited,vS all_,vB least,vL g_more more]) H rfl rfl rfl rfl (o_box (cV first) H hd rfl rfl) (fun _ => rfl) fun _ _ v H3 hq => ?_
 obtain ⟨b1,rfl,hq⟩:=hq
 replace hS : SH M X w [eB b1 (cV first),eI (tI .u8) more g_more,gE0] _:=hS.join [] [0,1] rfl rfl hq
 have hd:=hS.hand [] [0,1,2] rfl rfl
 refine m_stp [12,0,1,3,4,5,8] (fS [0,1,3,4,5,8] [vS name_,vB inherited,vS all_,vB least,vL g_more more,vP b1]) H3 rfl rfl rfl rfl (o_alloc [vN,vF,vU 0,vN,vI 0,vU 0,vU 0,vU 0,vU 0,vO,vO,vF] (z:=vG [vN,vF,vU 0,vN,vI 0,vU 0,vU 0,vU 0,vU 0,vO,vO,vF]) hd (by kernel_rfl) rfl) (fun _ => rfl) fun _ _ v H6 hq => ?_
 obtain ⟨b4,rfl,hq⟩:=hq
 replace hS : SH M X w [eB b4 [vN,vF,vU 0,vN,vI 0,vU 0,vU 0,vU 0,vU 0,vO,vO,vF],eB b1 (cV first),eI (tI .u8) more g_more,gE0] _:=hS.join [] [0,1,2] rfl rfl hq
 apply wl_end rfl
 obtain ⟨y8,hy8,hm⟩:=bindE hm
 obtain ⟨ho13,hm⟩:=chkE hm
 obtain ⟨q14,hq14,hm⟩:=letE hm
 refine s_drawS (base:=(fS [0,1,3,4,5,8,12] [vS name_,vB inherited,vS all_,vB least,vL g_more more,vP b1,vP b4])) (L:=[eB b4 [vN,vF,vU 0,vN,vI 0,vU 0,vU 0,vU 0,vU 0,vO,vO,vF],eB b1 (cV first),eI (tI .u8) more g_more,gE0]) 11 4 (fun yg7 => [vS name_,vB inherited,vG (cV first),vS all_,.slice (yg7 4 0).a y8.length (yg7 4 0).c,vK (yg7 5 0) 3,vL g_more more,.slice (yg7 7 0).a q14.length (yg7 7 0).c,vB least,vG [vS name_,vB inherited,vU first.Kind,vS first.Word,vI first.Num,vU first.Color.Red,vU first.Color.Green,vU first.Color.Blue,vU first.Color.Alpha,.slice (yg7 4 0).a y8.length (yg7 4 0).c,.slice (yg7 7 0).a q14.length (yg7 7 0).c,vB least],undef]) (fun yg7 => [[],[],[],[],[eO 9 tS y8 (yg7 4 0)],[eO 5 (tI .u8) kL1 (yg7 5 0)],[],[eO 5 (tI .u8) q14 (yg7 7 0)],[],[],[eB b4 [vS name_,vB inherited,vU first.Kind,vS first.Word,vI first.Num,vU first.Color.Red,vU first.Color.Green,vU first.Color.Blue,vU first.Color.Alpha,.slice (yg7 4 0).a y8.length (yg7 4 0).c,.slice (yg7 7 0).a q14.length (yg7 7 0).c,vB least]]]) [[],[],[12],[],[14],[],[],[5,13],[],[4,7],[4,7,11]] [[],[],[],[],[],[],[],[5],[],[],[11]] [[0],[1],[2],[3],[3,4],[5],[6],[5,6,7],[8],[0,1,2,3,4,5,6,7,8,9],[0,1,2,3,4,5,6,7,8,9,10]] [] (FrG.keep (ks:=[0,1,3,4,5,8,12]) H6 (by kernel_rfl)) (fun _ _ h => by cases h) (by kernel_rfl) hS (by kernel_rfl) rfl rfl (by kernel_rfl) (by kernel_rfl) (by kernel_rfl) (gd_none (by kernel_rfl) _ _) ?hloc_yg7 ?hstep_yg7 fun _ _ yg7 H17 hv hS => ?hK_yg7
 case hloc_yg7 => exact ⟨(fun _ _ _ _ => ⟨rfl,rfl⟩),(fun _ _ _ _ => ⟨rfl,rfl⟩),(fun _ _ _ _ => ⟨rfl,rfl⟩),(fun _ _ _ _ => ⟨rfl,rfl⟩),(fun _ i g hi => lcG [4] (fun yg7 => (.slice (yg7 4 0).a y8.length (yg7 4 0).c,[eO 9 tS y8 (yg7 4 0)])) hi rfl),(fun _ i g hi => lcG [5] (fun yg7 => (vK (yg7 5 0) 3,[eO 5 (tI .u8) kL1 (yg7 5 0)])) hi rfl),(fun _ _ _ _ => ⟨rfl,rfl⟩),(fun _ i g hi => lcG [7] (fun yg7 => (.slice (yg7 7 0).a q14.length (yg7 7 0).c,[eO 5 (tI .u8) q14 (yg7 7 0)])) hi rfl),(fun _ _ _ _ => ⟨rfl,rfl⟩),(fun _ i g hi => lcG [4,7] (fun yg7 => (vG [vS name_,vB inherited,vU first.Kind,vS first.Word,vI first.Num,vU first.Color.Red,vU first.Color.Green,vU first.Color.Blue,vU first.Color.Alpha,.slice (yg7 4 0).a y8.length (yg7 4 0).c,.slice (yg7 7 0).a q14.length (yg7 7 0).c,vB least],[])) hi rfl),(fun _ i g hi => lcG [4,7] (fun yg7 => (undef,[eB b4 [vS name_,vB inherited,vU first.Kind,vS first.Word,vI first.Num,vU first.Color.Red,vU first.Color.Green,vU first.Color.Blue,vU first.Color.Alpha,.slice (yg7 4 0).a y8.length (yg7 4 0).c,.slice (yg7 7 0).a q14.length (yg7 7 0).c,vB least]])) hi rfl),trivial⟩
 case hstep_yg7 =>
  refine ⟨?_,?_,?_,?_,?_,?_,?_,?_,?_,?_,?_,trivial⟩
  ·intro o ho a w yg7 M Hb hv hO hS
   obtain rfl:=someE ho
   exact Stp.mono (o_evs [] (vS name_) none [] Hb rfl (by kernel_rfl) (fun q e => by cases e)) fun _ _ hq => ⟨gL [],fun _ _ => hq.1,(hS.below hq.2.below).sel [] rfl⟩
  ·intro o ho a w yg7 M Hb hv hO hS
   obtain rfl:=someE ho
   exact Stp.mono (o_evs [] (vB inherited) none [] Hb rfl (by kernel_rfl) (fun q e => by cases e)) fun _ _ hq => ⟨gL [],fun _ _ => hq.1,(hS.below hq.2.below).sel [] rfl⟩
  ·intro o ho a w yg7 M Hb hv hO hS
   obtain rfl:=someE ho
   exact Stp.mono (o_evs [(vG (cV first))] (vG (cV first)) (some (rN b1 0 (cV first))) [] Hb rfl (by kernel_rfl) (fun q e => by cases e; exact ((hS.bk 0 rfl).atD rfl))) fun _ _ hq => ⟨gL [],fun _ _ => hq.1,(hS.below hq.2.below).sel [0] rfl⟩
  ·intro o ho a w yg7 M Hb hv hO hS
   obtain rfl:=someE ho
   exact Stp.mono (o_evs [] (vS all_) none [] Hb rfl (by kernel_rfl) (fun q e => by cases e)) fun _ _ hq => ⟨gL [],fun _ _ => hq.1,(hS.below hq.2.below).sel [] rfl⟩
  ·intro o ho a w yg7 M Hb hv hO hS0
   obtain rfl:=someE ho
   have H : Fr 23 ([(16,[],vS all_)] ++ (fS [0,1,3,4,5,8,12] [vS name_,vB inherited,vS all_,vB least,vL g_more more,vP b1,vP b4])) _:=(Hb).add (hv 3 (by decide) (by decide) 16 rfl)
   obtain ⟨X,hX⟩ : ∃ X,X = fpl [gE0]:=⟨_,rfl⟩
   have hS : SH M X w [gE0] w:=by rw [hX]; exact hS0
   have hd:=hS.hand [0] [0] rfl rfl
   refine Stp.mono (o_callx H rfl rfl (strings_Fields_ok m _ _ hy8 _ _ hd)) ?_
   rintro v w2 hq
   obtain ⟨g9,rfl,hq⟩:=hq
   replace hS : SH M X w [eO 9 tS y8 g9,gE0] _:=hS.join [0] [0] rfl rfl hq
   rw [hX] at hS
   exact ⟨gL [g9],fun _ _ => rfl,hS.sel [0,1] rfl⟩
  ·intro o ho a w yg7 M Hb hv hO hS0
   obtain rfl:=someE ho
   have H : Fr 23 ([] ++ (fS [0,1,3,4,5,8,12] [vS name_,vB inherited,vS all_,vB least,vL g_more more,vP b1,vP b4])) _:=Hb
   obtain ⟨X,hX⟩ : ∃ X,X = fpl []:=⟨_,rfl⟩
   have hS : SH M X w [] w:=by rw [hX]; exact hS0
   have hd:=hS.hand [] [] rfl rfl
   refine Stp.mono (o_lit (T:=(tI .u8)) (E:=5) (zv:=vU 0) [vU 2,vU 3,vU 4] kL1 [gL [],gL [],gL []] _ H hd rfl (by kernel_rfl) (by kernel_rfl) (by kernel_rfl) (by kernel_rfl) (by kernel_rfl) (by kernel_rfl) (by kernel_rfl) rfl (InnL.cons trivial (InnL.cons trivial (InnL.cons trivial InnL.nil)))) ?_
   rintro v w2 hq
   obtain ⟨g11,rfl,hq⟩:=hq
   replace hS : SH M X w [eO 5 (tI .u8) kL1 g11] _:=hS.join [] [] rfl rfl hq
   rw [hX] at hS
   exact ⟨gL [g11],fun _ _ => rfl,hS.sel [0] rfl⟩
  ·intro o ho a w yg7 M Hb hv hO hS
   obtain rfl:=someE ho
   exact Stp.mono (o_evs [] (vL g_more more) none [] Hb rfl (by kernel_rfl) (fun q e => by cases e)) fun _ _ hq => ⟨gL [],fun _ _ => hq.1,(hS.below hq.2.below).sel [] rfl⟩
  ·intro o ho a w yg7 M Hb hv hO hS0
   obtain rfl:=someE ho
   have H : Fr 23 ((fS [19,18] [vL g_more more,vK (yg7 5 0) 3]) ++ (fS [0,1,3,4,5,8,12] [vS name_,vB inherited,vS all_,vB least,vL g_more more,vP b1,vP b4])) _:=((Hb).add (hv 5 (by decide) (by decide) 18 rfl)).add (hv 6 (by decide) (by decide) 19 rfl)
   obtain ⟨X,hX⟩ : ∃ X,X = fpl [eO 5 (tI .u8) kL1 (yg7 5 0),eI (tI .u8) more g_more]:=⟨_,rfl⟩
   have hS : SH M X w [eO 5 (tI .u8) kL1 (yg7 5 0),eI (tI .u8) more g_more] w:=by rw [hX]; exact hS0
   have hd:=hS.hand [0,1] [1] rfl rfl
   refine Stp.mono (o_app (T:=(tI .u8)) (zv:=vU 0) (g1:=(yg7 5 0)) (g2:=g_more) (l1:=kL1) (l2:=more) q14 hq14.symm H hd rfl rfl rfl rfl rfl rfl rfl (by kernel_rfl) (by kernel_rfl) rfl rfl ho13) ?_
   rintro v w2 hq
   obtain ⟨g15,rfl,hq⟩:=hq
   replace hS : SH M X w [eO 5 (tI .u8) q14 g15,eI (tI .u8) more g_more] _:=hS.join [0,1] [1] rfl rfl hq
   rw [hX] at hS
   exact ⟨gL [g15],fun _ _ => rfl,hS.sel [0,1] rfl⟩
  ·intro o ho a w yg7 M Hb hv hO hS
   obtain rfl:=someE ho
   exact Stp.mono (o_evs [] (vB least) none [] Hb rfl (by kernel_rfl) (fun q e => by cases e)) fun _ _ hq => ⟨gL [],fun _ _ => hq.1,(hS.below hq.2.below).sel [] rfl⟩
  ·intro o ho a w yg7 M Hb hv hO hS
   obtain rfl:=someE ho
   exact Stp.mono (o_evs [] (vG [vS name_,vB inherited,vU first.Kind,vS first.Word,vI first.Num,vU first.Color.Red,vU first.Color.Green,vU first.Color.Blue,vU first.Color.Alpha,.slice (yg7 4 0).a y8.length (yg7 4 0).c,.slice (yg7 7 0).a q14.length (yg7 7 0).c,vB least]) none [] (((((((Hb).add (hv 0 (by decide) (by decide) 13 rfl)).add (hv 1 (by decide) (by decide) 14 rfl)).add (hv 2 (by decide) (by decide) 15 rfl)).add (hv 4 (by decide) (by decide) 17 rfl)).add (hv 7 (by decide) (by decide) 20 rfl)).add (hv 8 (by decide) (by decide) 21 rfl)) rfl (by kernel_rfl) (fun q e => by cases e)) fun _ _ hq => ⟨gL [],fun _ _ => hq.1,(hS.below hq.2.below).sel [0,1] rfl⟩
  ·intro o ho a w yg7 M Hb hv hO hS0
   obtain rfl:=someE ho
   have H : Fr 23 ([(22,[],vG [vS name_,vB inherited,vU first.Kind,vS first.Word,vI first.Num,vU first.Color.Red,vU first.Color.Green,vU first.Color.Blue,vU first.Color.Alpha,.slice (yg7 4 0).a y8.length (yg7 4 0).c,.slice (yg7 7 0).a q14.length (yg7 7 0).c,vB least])] ++ (fS [0,1,3,4,5,8,12] [vS name_,vB inherited,vS all_,vB least,vL g_more more,vP b1,vP b4])) _:=(Hb).add (hv 9 (by decide) (by decide) 22 rfl)
   obtain ⟨X,hX⟩ : ∃ X,X = fpl [eO 9 tS y8 (yg7 4 0),eO 5 (tI .u8) q14 (yg7 7 0),eB b4 [vN,vF,vU 0,vN,vI 0,vU 0,vU 0,vU 0,vU 0,vO,vO,vF]]:=⟨_,rfl⟩
   have hS : SH M X w [eO 9 tS y8 (yg7 4 0),eO 5 (tI .u8) q14 (yg7 7 0),eB b4 [vN,vF,vU 0,vN,vI 0,vU 0,vU 0,vU 0,vU 0,vO,vO,vF]] w:=by rw [hX]; exact hS0
   have hd:=hS.hand [2] [0,1] rfl rfl
   refine Stp.mono (o_store [vS name_,vB inherited,vU first.Kind,vS first.Word,vI first.Num,vU first.Color.Red,vU first.Color.Green,vU first.Color.Blue,vU first.Color.Alpha,.slice (yg7 4 0).a y8.length (yg7 4 0).c,.slice (yg7 7 0).a q14.length (yg7 7 0).c,vB least] H hd rfl rfl (by kernel_rfl) rfl rfl rfl) ?_
   rintro v w2 hq
   replace hS : SH M X w [eB b4 [vS name_,vB inherited,vU first.Kind,vS first.Word,vI first.Num,vU first.Color.Red,vU first.Color.Green,vU first.Color.Blue,vU first.Color.Alpha,.slice (yg7 4 0).a y8.length (yg7 4 0).c,.slice (yg7 7 0).a q14.length (yg7 7 0).c,vB least],eO 9 tS y8 (yg7 4 0),eO 5 (tI .u8) q14 (yg7 7 0)] _:=hS.join [2] [0,1] rfl rfl hq
   rw [hX] at hS
   exact ⟨gL [],(fun _ h => by cases h),hS.sel [0,1,2] rfl⟩
 have H18 : Fr 23 [(12,[],vP b4)] _:=(FrG.keep (ks:=[12]) H17 (by kernel_rfl))
 replace hS : SH M X w [eO 9 tS y8 (yg7 4 0),eO 5 (tI .u8) q14 (yg7 7 0),eB b4 [vS name_,vB inherited,vU first.Kind,vS first.Word,vI first.Num,vU first.Color.Red,vU first.Color.Green,vU first.Color.Blue,vU first.Color.Alpha,.slice (yg7 4 0).a y8.length (yg7 4 0).c,.slice (yg7 7 0).a q14.length (yg7 7 0).c,vB least],eB b1 (cV first),eI (tI .u8) more g_more,gE0] _:=hS
 clear hv H17
 generalize yg7 4 0 = g19 at H18 hS
 generalize yg7 7 0 = g20 at H18 hS
 replace hS : SH M X w [eO 9 tS y8 g19,eO 5 (tI .u8) q14 g20,eB b4 [vS name_,vB inherited,vU first.Kind,vS first.Word,vI first.Num,vU first.Color.Red,vU first.Color.Green,vU first.Color.Blue,vU first.Color.Alpha,vL g19 y8,vL g20 q14,vB least],gE0] _:=hS.sel [0,1,2,5] rfl
 apply w_ret
 obtain rfl:=someE hm
 exact retR1 H18 rfl (oneRes_agg rfl (hS.bk 2 rfl) Tryz.underlying77 rfl (by kernel_rfl)) ⟨_,rfl,g19,g20,rfl,(hS.sel [0,1] rfl)⟩
theorem props_length_ok {g_more : Gh} (m : Nat) (name_ : Str) (inherited : Bool) (first : TVal) (all_ : Str) (least : Bool) (more : List Int) (r : TProp) (hm : props_length m name_ inherited first all_ least more = some r) (M : Av) (w : World) (hS : S0 M [eI (tI .u8) more g_more,gE0] w) : DoesX Tryz.prog 60 ⟨[vS name_,vB inherited,vG (cV first),vS all_,vB least,vL g_more more]⟩ w (fun v w' => ∃ (g901 : Gh) (g903 : Gh),v = vG [vS r.Name,vB r.Inherited,vU r.Initial.Kind,vS r.Initial.Word,vI r.Initial.Num,vU r.Initial.Color.Red,vU r.Initial.Color.Green,vU r.Initial.Color.Blue,vU r.Initial.Color.Alpha,vL g901 r.Words,vL g903 r.Kinds,vB r.Least] ∧ SH M (fpl [eI (tI .u8) more g_more,gE0]) w [eO 9 tS r.Words g901,eO 5 (tI .u8) r.Kinds g903] w'):=⟨Tryz.call60 _,props_length_w M m   name_ inherited first all_ least more r hm w hS⟩

end Go.Proofs.YtehlikdeobajcaaGreatDoor
