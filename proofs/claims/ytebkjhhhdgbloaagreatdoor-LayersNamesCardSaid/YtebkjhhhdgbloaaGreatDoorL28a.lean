/-
  What the Go functions compute, as Lean functions, and that a call returns just that. Printed by a program.
-/
import Derived.Test.YtebkjhhhdgbloaaGreatDoorRows
import Derived.Test.YtebkjhhhdgbloaaGreatDoorX
import Derived.Test.YtebkjhhhdgbloaaGreatDoorMP
import Derived.Test.YtebkjhhhdgbloaaGreatDoorCO
import Derived.Test.YtebkjhhhdgbloaaGreatDoorAF
import Derived.Test.YtebkjhhhdgbloaaGreatDoorT
import Derived.Test.YtebkjhhhdgbloaaGreatDoorMI
import Derived.Test.YtebkjhhhdgbloaaGreatDoorFM
import Derived.Test.YtebkjhhhdgbloaaGreatDoorGR
import Derived.Test.YtebkjhhhdgbloaaGreatDoorI
set_option linter.unusedVariables false
set_option maxRecDepth 20000
set_option maxHeartbeats 4000000
namespace Go.Proofs.YtebkjhhhdgbloaaGreatDoor
open Go.V Go.RowKit

abbrev vS (l : Str) : Value := .string ⟨⟨l⟩⟩
abbrev vN : Value := .string ⟨⟨[]⟩⟩
abbrev vI (n : Int) : Value := .int .i64 n
abbrev vU (n : Int) : Value := .int .u8 n
abbrev vT : Value := .bool true
abbrev vF : Value := .bool false
abbrev vP (b : Nat) : Value := .pointer (some ⟨b, 0, none⟩)
abbrev vA (b o : Nat) : Value := .pointer (some ⟨b, o, none⟩)
abbrev vQ : Value := .pointer none
abbrev vO : Value := .slice none 0 0
abbrev vB (b : Bool) : Value := .bool b
abbrev vG (l : List Value) : Value := .agg ⟨l⟩
abbrev vW (l : List Value) : Value := .tuple ⟨l⟩
abbrev vJ (n : Int) : Value := .int .i32 n
abbrev vL {α : Type} (g : Gh) (l : List α) : Value := .slice g.a l.length g.c
abbrev eO {α : Type} (E : TypeId) (T : Ty α) (l : List α) (g : Gh) : Ent := .own E T l g
abbrev eI {α : Type} (T : Ty α) (l : List α) (g : Gh) : Ent := .im T l g
abbrev eB (b : Nat) (cs : List Value) : Ent := .blk b cs
abbrev zN : List Value := [vN, vI 0, vN, vQ, vO]
def fS : List Nat → List Value → SF
  | k :: ks, v :: vs => (k, [], v) :: fS ks vs
  | _, _ => []
abbrev vK (g : Gh) (n : Nat) : Value := .slice g.a n g.c
abbrev kL0 : List Int := [2, 3, 4, 0]
abbrev kL1 : List Str := [[97, 117, 116, 111]]
abbrev kL2 : List Str := [[116, 111, 112], [114, 105, 103, 104, 116], [98, 111, 116, 116, 111, 109], [108, 101, 102, 116]]
abbrev kL3 : List Int := [0, 0, 1]
abbrev kL4 : List Int := [2, 3, 4]
abbrev kL5 : List Str := [[97], [99]]
abbrev kL6 : List Str := [[], [97, 110, 100], [111, 114], [110, 111, 116], [111, 110, 108, 121]]
abbrev kL7 : List Str := [[109, 97, 114, 103, 105, 110], [98, 111, 114, 100, 101, 114], [111, 117, 116, 108, 105, 110, 101], [98, 97, 99, 107, 103, 114, 111, 117, 110, 100]]
abbrev kL8 : List Str := [[105, 110, 105, 116, 105, 97, 108], [105, 110, 104, 101, 114, 105, 116], [117, 110, 115, 101, 116], [114, 101, 118, 101, 114, 116]]
abbrev kL9 : List Str := [[98], [97, 47, 120], [97]]
abbrev wQ : List Str := [[97, 47, 98, 47, 99], [97, 47, 98], [97, 47, 100], [97], [101]]
abbrev wN : List Str := [[0, 48, 47, 120], [0, 48], [0, 49], [121, 47, 0, 50], [121]]
abbrev wO : List Str := [[122, 47, 120, 47, 121], [122, 47, 120], [122, 47, 119], [122], [120]]
abbrev rB (f : FuncId) (l : List Value) (v : Value) : World → Prop := fun wz => RetB Tryz.prog f ⟨l⟩ v wz
abbrev rN (b o : Nat) (l : List Value) : World → Prop := fun wz => V.atN b o l 0 wz
abbrev rA (b o : Nat) (v : Value) : World → Prop := fun wz => V.at1 ⟨b, o, none⟩ v wz
def gl_math_bits_deBruijn32tab : List Int:=[0,1,28,2,29,14,24,3,30,22,20,15,25,17,4,8,31,27,13,23,21,19,16,7,26,12,18,6,11,5,10,9]
def gl_math_bits_deBruijn64tab : List Int:=[0,1,56,2,57,49,28,3,61,58,42,50,38,29,17,4,62,47,59,36,45,43,51,22,53,39,33,30,24,18,12,5,63,55,48,27,60,41,37,16,46,35,44,21,52,32,23,11,54,26,40,15,34,20,31,10,25,14,19,9,13,8,7,6]
def gl_strings_asciiSpace : List Int:=[0,0,0,0,0,0,0,0,0,1,1,1,1,1,0,0,0,0,0,0,0,0,0,0,0,0,0,0,0,0,0,0,1,0,0,0,0,0,0,0,0,0,0,0,0,0,0,0,0,0,0,0,0,0,0,0,0,0,0,0,0,0,0,0,0,0,0,0,0,0,0,0,0,0,0,0,0,0,0,0,0,0,0,0,0,0,0,0,0,0,0,0,0,0,0,0,0,0,0,0,0,0,0,0,0,0,0,0,0,0,0,0,0,0,0,0,0,0,0,0,0,0,0,0,0,0,0,0,0,0,0,0,0,0,0,0,0,0,0,0,0,0,0,0,0,0,0,0,0,0,0,0,0,0,0,0,0,0,0,0,0,0,0,0,0,0,0,0,0,0,0,0,0,0,0,0,0,0,0,0,0,0,0,0,0,0,0,0,0,0,0,0,0,0,0,0,0,0,0,0,0,0,0,0,0,0,0,0,0,0,0,0,0,0,0,0,0,0,0,0,0,0,0,0,0,0,0,0,0,0,0,0,0,0,0,0,0,0,0,0,0,0,0,0,0,0,0,0,0,0,0,0,0,0,0,0]
def je (m : Nat) (s : Str) : Nat → Str → Int → Option (Str)
  | 0,_,_ => none
  | kk + 1,v8,v9 =>
    cond (decide (v9 < (ln s))) (
    Option.bind (
    chk (0 ≤ v9 ∧ v9 < ln s) <|
    lt (cond ((bat s v9) == 10) (decide (0 < v9)) false) fun x16 =>
    chk (x16 = true → 0 ≤ (w64 (v9 - 1)) ∧ (w64 (v9 - 1)) < ln s) <|
    lt (cond x16 ((bat s (w64 (v9 - 1))) == 13) false) fun x18 =>
    cond x18 (
    some v8) (
    lt (cond ((bat s v9) == 13) true ((bat s v9) == 12)) fun x21 =>
    cond x21 (
    none) (
    cond ((bat s v9) == 0) (
    none) (
    chk (ln v8 + ln (toB ([bat s v9] : List Int)) ≤ 9223372036854775807) <|
    some (v8 ++ (toB ([bat s v9] : List Int))))))) fun (z12 : Str) =>
    je m s kk z12 (w64 (v9 + 1))) (
    some v8)
def oc (m : Nat) (s : Str) : Option (Str) :=
  Option.bind (
  je m s m [] 0) fun (z5 : Str) =>
  some z5
theorem s3  (m : Nat) (s : Str) (r : Str) (hm : oc m s = some r) : Ret Tryz.prog 105 ⟨[vS s]⟩ (vS r):=by
 rw [oc] at hm
 refine f_pure (Tryz.call105 _) Tryz.func105 Tryz.ntmps105 fun M X w => ?_
 refine t_r [0] [vS s] [] ?_
 refine t_r [0,3] [vS s,vN] [] ?_
 obtain ⟨z5,hz,hm⟩:=bindE hm
 refine t_cut [3] [vS z5] [] ?_ ?_
 ·replace hm:=hz
  refine t_r [0,3,4] [vS s,vN,vI 0] [] (t_block ?_)
  intro _ _ H7 hS
  refine w_loop (fun kk a' w' => ∃ (v8 : Str) (v9 : Int),je m s kk v8 v9 = some _ ∧ Fr 46 (fS [0,3,4] [vS s,vS v8,vI v9]) a' ∧ SH M X w [] w') ⟨_,[],0,hm,FrG.keep (ks:=[0,3,4]) H7 (by kernel_rfl),hS⟩ ?_
  clear hm H7 hS
  rintro kk _ _ ⟨v8,v9,hm,H,hS⟩
  cases kk with
  | zero => exact noneE hm
  | succ kk =>
   rw [je] at hm
   refine t_in H hS (t_seq ?_)
   refine t_r [0,3,4,9] [vS s,vS v8,vI v9,vB (decide (v9 < (ln s)))] [] ?_
   refine t_im hm (fun hm => ?_) (fun hm => ?c41)
   case c41 =>
    refine t_exit ?_
    obtain rfl:=someE hm
    exact t_e [3]
   refine t_skip ?_
   obtain ⟨z12,hz,hm⟩:=bindE hm
   refine t_cut [0,4,3] [vS s,vI v9,vS z12] [] ?_ ?_
   ·replace hm:=hz
    refine t_block ?_
    obtain ⟨ho13,hm⟩:=chkE hm
    refine t_r [0,3,4,5] [vS s,vS v8,vI v9,vU (bat s v9)] [kh ho13] (t_seq ?_)
    obtain ⟨x16,hx16,hm⟩:=letE hm
    obtain ⟨ho17,hm⟩:=chkE hm
    obtain ⟨x18,hx18,hm⟩:=letE hm
    refine t_r [0,3,4,5,27] [vS s,vS v8,vI v9,vU (bat s v9),vB x18] [kgh (x16 = true ∧ True) fun hg => (ho17 hg.1)] ?_ (he:=by subst hx16 hx18; kernel_rfl)
    refine t_im hm (fun hm => ?c37) (fun hm => ?_)
    case c37 =>
     refine t_exit ?_
     obtain rfl:=someE hm
     exact t_e [0,4,3]
    refine t_skip (t_seq ?_)
    obtain ⟨x21,hx21,hm⟩:=letE hm
    refine t_r [0,3,4,5,33] [vS s,vS v8,vI v9,vU (bat s v9),vB x21] [] ?_ (he:=by subst hx21; kernel_rfl)
    refine t_i2 hm (fun hm => ?_)
    refine t_skip ?_
    refine t_r [0,3,4,5,35] [vS s,vS v8,vI v9,vU (bat s v9),vB ((bat s v9) == 0)] [] ?_
    refine t_i2 hm (fun hm => ?_)
    refine t_start ?_
    refine t_b 2 [0,4,40,41] [vS s,vI v9,vS v8,vU (bat s v9)] [] ?_
    refine t_m [] [] [0,4,40] [vS s,vI v9,vS v8] (fun _ _ H27 hd => o_li (T:=(tI .u8)) (E:=5) (zv:=vU 0) [vU (bat s v9)] ([bat s v9] : List Int) [gL []] H27 hd rfl (InnL.cons trivial InnL.nil)) fun g28 => ?_
    obtain ⟨ho32,hm⟩:=chkE hm
    intro _ _ H31 hS
    refine wl_batch 3 6 [(vS (toB ([bat s v9] : List Int)))] [0,3,4] (fS [0,3,4] [vS s,vS (v8 ++ (toB ([bat s v9] : List Int))),vI v9]) [fun wz => ∀ w',Below wz.heap.size wz w' → (convert 201 9 (vK g28 1)).run Tryz.prog w' = .ok (vS (toB ([bat s v9] : List Int))) w',fun _ => ln v8 + ln (toB ([bat s v9] : List Int)) ≤ 9223372036854775807] H31 (by decide) (by kernel_rfl) ⟨(conv_slG (E:=5) (by kernel_rfl) (by kernel_rfl) (by kernel_rfl) (hS.osl 0 rfl)),ho32,trivial⟩ fun _ _ H34 hb => ?_
    replace hS:=hS.below hb
    refine t_in H34 hS (t_end (t_sel [] ?_))
    obtain rfl:=someE hm
    exact t_e [0,4,3]
   ·refine t_w [0,3,4] [vS s,vS z12,vI (w64 (v9 + 1))] [] ?_
    exact fun _ _ H39 hS => ⟨_,Nat.lt_succ_self _,z12,w64 (v9 + 1),hm,FrG.keep (ks:=[0,3,4]) H39 (by kernel_rfl),hS⟩
 ·refine t_r [2] [vS z5] [] (t_ret ?_)
  obtain rfl:=someE hm
  exact t_n [] rs1

def qL (m : Nat) (s : Str) : Option (Str × Int) :=
  cond (decide (4000 < (ln s))) (
  none) (
  Option.bind (oc m s) fun y5 =>
  some (y5,0))
theorem um  (m : Nat) (s : Str) (r : Str × Int) (hm : qL m s = some r) : Ret Tryz.prog 59 ⟨[vS s]⟩ (vW [vS r.1,vI r.2]):=by
 rw [qL] at hm
 refine f_pure (Tryz.call59 _) Tryz.func59 Tryz.ntmps59 fun M X w => ?_
 refine t_r [0] [vS s] [] (t_seq ?_)
 refine t_r [0,6] [vS s,vB (decide (4000 < (ln s)))] [] ?_
 refine t_i2 hm (fun hm => ?_)
 refine t_skip ?_
 obtain ⟨y5,hy5,hm⟩:=bindE hm
 refine t_r [2,3] [vS y5,vI 0] [kc (s3 m _ _ hy5)] (t_ret ?_)
 obtain rfl:=someE hm
 exact t_n [] rs2

def qk (s : Str) (i : Int) (x_ : Str) : Option (Bool) :=
  chk ((decide ((ln x_) ≤ (w64 ((ln s) - i)))) = true → 0 ≤ i ∧ i ≤ (w64 (i + (ln x_))) ∧ (w64 (i + (ln x_))) ≤ ln s) <|
  lt (cond (decide ((ln x_) ≤ (w64 ((ln s) - i)))) ((sub s i (w64 (i + (ln x_)))) == x_) false) fun x4 =>
  some x4
theorem pU  (s : Str) (i : Int) (x_ : Str) (r : Bool) (hm : qk s i x_ = some r) : Ret Tryz.prog 163 ⟨[vS s,vI i,vS x_]⟩ (vB r):=by
 rw [qk] at hm
 refine f_pure (Tryz.call163 _) Tryz.func163 Tryz.ntmps163 fun M X w => ?_
 refine t_r [0,1,2] [vS s,vI i,vS x_] [] ?_
 obtain ⟨ho3,hm⟩:=chkE hm
 obtain ⟨x4,hx4,hm⟩:=letE hm
 refine t_r [6] [vB x4] [kgh ((decide ((ln x_) ≤ (w64 ((ln s) - i)))) = true ∧ True) fun hg => (ho3 hg.1)] ?_ (he:=by subst hx4; kernel_rfl)
 refine t_ret ?_
 obtain rfl:=someE hm
 exact t_n [] rs1

def ox (m : Nat) (s : Str) : Nat → Int → Option (Int)
  | 0,_ => none
  | kk + 1,v4 =>
    Option.bind (qk s v4 [47,42]) fun y5 =>
    cond y5 (
    none) (
    some v4)
def qq (m : Nat) (s : Str) (i : Int) : Option (Int) :=
  Option.bind (
  ox m s m i) fun (z3 : Int) =>
  some z3
theorem rD  (m : Nat) (s : Str) (i : Int) (r : Int) (hm : qq m s i = some r) : Ret Tryz.prog 106 ⟨[vS s,vI i]⟩ (vI r):=by
 rw [qq] at hm
 refine f_pure (Tryz.call106 _) Tryz.func106 Tryz.ntmps106 fun M X w => ?_
 refine t_r [0,1] [vS s,vI i] [] ?_
 obtain ⟨z3,hz,hm⟩:=bindE hm
 refine t_cut [1] [vI z3] [] ?_ ?_
 ·replace hm:=hz
  refine t_block ?_
  intro _ _ H2 hS
  refine w_loop (fun kk a' w' => ∃ (v4 : Int),ox m s kk v4 = some _ ∧ Fr 28 (fS [0,1] [vS s,vI v4]) a' ∧ SH M X w [] w') ⟨_,i,hm,FrG.keep (ks:=[0,1]) H2 (by kernel_rfl),hS⟩ ?_
  clear hm H2 hS
  rintro kk _ _ ⟨v4,hm,H,hS⟩
  cases kk with
  | zero => exact noneE hm
  | succ kk =>
   rw [ox] at hm
   refine t_in H hS (t_seq ?_)
   obtain ⟨y5,hy5,hm⟩:=bindE hm
   refine t_r [0,1,7] [vS s,vI v4,vB y5] [kc (pU _ _ _ _ hy5)] ?_
   refine t_im hm (fun hm => ?_) (fun hm => ?c8)
   case c8 =>
    refine t_exit ?_
    obtain rfl:=someE hm
    exact t_e [1]
   refine t_skip (t_block ?_)
   intro _ _ H7 hS
   exact noneE hm
 ·refine t_r [4] [vI z3] [] (t_ret ?_)
  obtain rfl:=someE hm
  exact t_n [] rs1

def jO (c_ : Int) : Bool :=
  lt (cond (cond (c_ == 10) true (c_ == 9)) true (c_ == 32)) fun x3 =>
  x3
theorem qa  (c_ : Int) : Ret Tryz.prog 164 ⟨[vU c_]⟩ (vB (jO c_)):=by
 generalize hm : jO c_ = r
 rw [jO] at hm
 refine f_pure (Tryz.call164 _) Tryz.func164 Tryz.ntmps164 fun M X w => ?_
 refine t_r [0] [vU c_] [] ?_
 obtain ⟨x3,hx3,hm⟩:=letE hm
 refine t_r [2] [vB x3] [] ?_ (he:=by subst hx3; kernel_rfl)
 refine t_ret ?_
 subst hm
 exact t_n [] rs1

def g0 (s : Str) (i : Int) : Option (Int) :=
  cond (decide (i < (ln s))) (
  chk (0 ≤ i ∧ i < ln s) <|
  some (bat s i)) (
  some 0)
theorem dS  (s : Str) (i : Int) (r : Int) (hm : g0 s i = some r) : Ret Tryz.prog 221 ⟨[vS s,vI i]⟩ (vU r):=by
 rw [g0] at hm
 refine f_pure (Tryz.call221 _) Tryz.func221 Tryz.ntmps221 fun M X w => ?_
 refine t_r [0,1] [vS s,vI i] [] (t_seq ?_)
 refine t_r [0,1,8] [vS s,vI i,vB (decide (i < (ln s)))] [] ?_
 refine t_im hm (fun hm => ?_) (fun hm => ?c10)
 case c10 =>
  refine t_skip ?_
  refine t_r [4] [vU 0] [] (t_ret ?_)
  obtain rfl:=someE hm
  exact t_n [] rs1
 obtain ⟨ho5,hm⟩:=chkE hm
 refine t_r [4] [vU (bat s i)] [kh ho5] (t_ret ?_)
 obtain rfl:=someE hm
 exact t_n [] rs1

def kv (m : Nat) (s : Str) : Nat → Int → Option (Int)
  | 0,_ => none
  | kk + 1,v4 =>
    Option.bind (g0 s v4) fun y5 =>
    cond (jO y5) (
    kv m s kk (w64 (v4 + 1))) (
    some v4)
def pL (m : Nat) (s : Str) (i : Int) : Option (Int) :=
  Option.bind (
  kv m s m i) fun (z3 : Int) =>
  some z3
theorem tC  (m : Nat) (s : Str) (i : Int) (r : Int) (hm : pL m s i = some r) : Ret Tryz.prog 165 ⟨[vS s,vI i]⟩ (vI r):=by
 rw [pL] at hm
 refine f_pure (Tryz.call165 _) Tryz.func165 Tryz.ntmps165 fun M X w => ?_
 refine t_r [0,1] [vS s,vI i] [] ?_
 obtain ⟨z3,hz,hm⟩:=bindE hm
 refine t_cut [1] [vI z3] [] ?_ ?_
 ·replace hm:=hz
  refine t_block ?_
  intro _ _ H2 hS
  refine w_loop (fun kk a' w' => ∃ (v4 : Int),kv m s kk v4 = some _ ∧ Fr 12 (fS [0,1] [vS s,vI v4]) a' ∧ SH M X w [] w') ⟨_,i,hm,FrG.keep (ks:=[0,1]) H2 (by kernel_rfl),hS⟩ ?_
  clear hm H2 hS
  rintro kk _ _ ⟨v4,hm,H,hS⟩
  cases kk with
  | zero => exact noneE hm
  | succ kk =>
   rw [kv] at hm
   refine t_in H hS (t_seq ?_)
   obtain ⟨y5,hy5,hm⟩:=bindE hm
   refine t_r [0,1,8] [vS s,vI v4,vB (jO y5)] [kc (dS _ _ _ hy5),kc (qa y5)] ?_
   refine t_im hm (fun hm => ?_) (fun hm => ?c10)
   case c10 =>
    refine t_exit ?_
    obtain rfl:=someE hm
    exact t_e [1]
   refine t_skip (t_block ?_)
   refine t_w [0,1] [vS s,vI (w64 (v4 + 1))] [] ?_
   exact fun _ _ H9 hS => ⟨_,Nat.lt_succ_self _,w64 (v4 + 1),hm,FrG.keep (ks:=[0,1]) H9 (by kernel_rfl),hS⟩
 ·refine t_r [4] [vI z3] [] (t_ret ?_)
  obtain rfl:=someE hm
  exact t_n [] rs1

structure aR where
  aj : Int
  ei : Str
  Num : Int
  Unit : Str
  l3 : Bool
instance : Inhabited aR:=⟨⟨default,default,default,default,default⟩⟩
abbrev cT (x : aR) : List Value := [vU x.aj, vS x.ei, vI x.Num, vS x.Unit, vB x.l3]
def bz : Ty aR where
  z:=5
  enc:=fun x g => (cT x)
  inn:=fun _ _ _ _ => True
  len:=fun _ _ => rfl
  one:=fun _ _ => rfl
  kp:=fun _ _ _ => trivial
  anti:=fun _ _ => trivial
  fresh:=fun _ => trivial
def e6 (x : aR) : List Value:=bz.enc x (gL [])
def oS (c_ : Int) : Option (Int) :=
  lt (cond (decide (65 ≤ c_)) (decide (c_ ≤ 90)) false) fun x3 =>
  cond x3 (
  none) (
  some c_)
theorem q9  (c_ : Int) (r : Int) (hm : oS c_ = some r) : Ret Tryz.prog 178 ⟨[vU c_]⟩ (vU r):=by
 rw [oS] at hm
 refine f_pure (Tryz.call178 _) Tryz.func178 Tryz.ntmps178 fun M X w => ?_
 refine t_r [0] [vU c_] [] (t_seq ?_)
 obtain ⟨x3,hx3,hm⟩:=letE hm
 refine t_r [0,8] [vU c_,vB x3] [] ?_ (he:=by subst hx3; kernel_rfl)
 refine t_i2 hm (fun hm => ?_)
 refine t_skip ?_
 refine t_r [2] [vU c_] [] (t_ret ?_)
 obtain rfl:=someE hm
 exact t_n [] rs1

def lR (c_ : Int) : Option (Bool) :=
  Option.bind (oS c_) fun y3 =>
  lt (cond (decide (97 ≤ y3)) (decide (y3 ≤ 122)) false) fun x6 =>
  lt (cond (cond x6 true (c_ == 95)) true (decide (128 ≤ c_))) fun x7 =>
  some x7
theorem mT  (c_ : Int) (r : Bool) (hm : lR c_ = some r) : Ret Tryz.prog 223 ⟨[vU c_]⟩ (vB r):=by
 rw [lR] at hm
 refine f_pure (Tryz.call223 _) Tryz.func223 Tryz.ntmps223 fun M X w => ?_
 refine t_r [0] [vU c_] [] ?_
 obtain ⟨y3,hy3,hm⟩:=bindE hm
 refine t_r [0,3] [vU c_,vU y3] [kc (q9 _ _ hy3)] ?_
 obtain ⟨x6,hx6,hm⟩:=letE hm
 obtain ⟨x7,hx7,hm⟩:=letE hm
 refine t_r [2] [vB x7] [] ?_ (he:=by subst hx6 hx7; kernel_rfl)
 refine t_ret ?_
 obtain rfl:=someE hm
 exact t_n [] rs1

def fB (c_ : Int) : Bool :=
  lt (cond (decide (48 ≤ c_)) (decide (c_ ≤ 57)) false) fun x3 =>
  x3
theorem jy  (c_ : Int) : Ret Tryz.prog 224 ⟨[vU c_]⟩ (vB (fB c_)):=by
 generalize hm : fB c_ = r
 rw [fB] at hm
 refine f_pure (Tryz.call224 _) Tryz.func224 Tryz.ntmps224 fun M X w => ?_
 refine t_r [0] [vU c_] [] ?_
 obtain ⟨x3,hx3,hm⟩:=letE hm
 refine t_r [2] [vB x3] [] ?_ (he:=by subst hx3; kernel_rfl)
 refine t_ret ?_
 subst hm
 exact t_n [] rs1

def ns (c_ : Int) : Option (Bool) :=
  Option.bind (lR c_) fun y3 =>
  lt (cond (cond y3 true (fB c_)) true (c_ == 45)) fun x4 =>
  some x4
theorem pc  (c_ : Int) (r : Bool) (hm : ns c_ = some r) : Ret Tryz.prog 167 ⟨[vU c_]⟩ (vB r):=by
 rw [ns] at hm
 refine f_pure (Tryz.call167 _) Tryz.func167 Tryz.ntmps167 fun M X w => ?_
 refine t_r [0] [vU c_] [] ?_
 obtain ⟨y3,hy3,hm⟩:=bindE hm
 obtain ⟨x4,hx4,hm⟩:=letE hm
 refine t_r [2] [vB x4] [kc (mT _ _ hy3),kgc (y3 = false ∧ True) fun hg => (jy c_)] ?_ (he:=by subst hx4; kernel_rfl)
 refine t_ret ?_
 obtain rfl:=someE hm
 exact t_n [] rs1

def jT (s : Str) (i : Int) : Option (Bool) :=
  Option.bind (g0 s i) fun y3 =>
  Option.bind (cond (y3 == 92) (g0 s (w64 (i + 1))) (some default)) fun y4 =>
  some (cond (y3 == 92) (y4 != 10) false)
theorem ke  (s : Str) (i : Int) (r : Bool) (hm : jT s i = some r) : Ret Tryz.prog 168 ⟨[vS s,vI i]⟩ (vB r):=by
 rw [jT] at hm
 refine f_pure (Tryz.call168 _) Tryz.func168 Tryz.ntmps168 fun M X w => ?_
 refine t_r [0,1] [vS s,vI i] [] ?_
 obtain ⟨y3,hy3,hm⟩:=bindE hm
 obtain ⟨y4,hy4,hm⟩:=bindE hm
 refine t_r [4] [vB (cond (y3 == 92) (y4 != 10) false)] [kc (dS _ _ _ hy3),kgc ((y3 == 92) = true ∧ True) fun hg => (dS _ _ _ (bT (hg.1) hy4))] (t_ret ?_)
 obtain rfl:=someE hm
 exact t_n [] rs1

def nL (s : Str) (i : Int) : Option (Bool) :=
  Option.bind (
  Option.bind (g0 s i) fun y4 =>
  cond (cond (y4 == 43) true (y4 == 45)) (
  some (w64 (i + 1))) (
  some i)) fun (z3 : Int) =>
  Option.bind (
  Option.bind (g0 s z3) fun y13 =>
  cond (y13 == 46) (
  some (w64 (z3 + 1))) (
  some z3)) fun (z12 : Int) =>
  Option.bind (g0 s z12) fun y19 =>
  some (fB y19)
theorem rY  (s : Str) (i : Int) (r : Bool) (hm : nL s i = some r) : Ret Tryz.prog 171 ⟨[vS s,vI i]⟩ (vB r):=by
 rw [nL] at hm
 refine f_pure (Tryz.call171 _) Tryz.func171 Tryz.ntmps171 fun M X w => ?_
 refine t_r [0,1] [vS s,vI i] [] ?_
 obtain ⟨z3,hz,hm⟩:=bindE hm
 refine t_cut [0,1] [vS s,vI z3] [] ?_ ?_
 ·replace hm:=hz
  obtain ⟨y4,hy4,hm⟩:=bindE hm
  refine t_r [0,1,5] [vS s,vI i,vU y4] [kc (dS _ _ _ hy4)] ?_
  refine t_r [0,1,14] [vS s,vI i,vB (cond (y4 == 43) true (y4 == 45))] [] ?_
  refine t_im hm (fun hm => ?_) (fun hm => ?c11)
  case c11 =>
   refine t_skip ?_
   obtain rfl:=someE hm
   exact t_e [0,1]
  refine t_w [0,1] [vS s,vI (w64 (i + 1))] [] ?_
  obtain rfl:=someE hm
  exact t_e [0,1]
 ·obtain ⟨z12,hz,hm⟩:=bindE hm
  refine t_cut [0,1] [vS s,vI z12] [] ?_ ?_
  ·replace hm:=hz
   obtain ⟨y13,hy13,hm⟩:=bindE hm
   refine t_r [0,1,20] [vS s,vI z3,vB (y13 == 46)] [kc (dS _ _ _ hy13)] ?_
   refine t_im hm (fun hm => ?_) (fun hm => ?c18)
   case c18 =>
    refine t_skip ?_
    obtain rfl:=someE hm
    exact t_e [0,1]
   refine t_w [0,1] [vS s,vI (w64 (z3 + 1))] [] ?_
   obtain rfl:=someE hm
   exact t_e [0,1]
  ·obtain ⟨y19,hy19,hm⟩:=bindE hm
   refine t_r [4] [vB (fB y19)] [kc (dS _ _ _ hy19),kc (jy y19)] (t_ret ?_)
   obtain rfl:=someE hm
   exact t_n [] rs1

def ky (m : Nat) (s : Str) : Nat → Int → Option (Int)
  | 0,_ => none
  | kk + 1,v4 =>
    Option.bind (g0 s v4) fun y5 =>
    cond (fB y5) (
    ky m s kk (w64 (v4 + 1))) (
    some v4)
def pP (m : Nat) (s : Str) (i : Int) : Option (Int) :=
  Option.bind (
  ky m s m i) fun (z3 : Int) =>
  some z3
theorem tm  (m : Nat) (s : Str) (i : Int) (r : Int) (hm : pP m s i = some r) : Ret Tryz.prog 261 ⟨[vS s,vI i]⟩ (vI r):=by
 rw [pP] at hm
 refine f_pure (Tryz.call261 _) Tryz.func261 Tryz.ntmps261 fun M X w => ?_
 refine t_r [0,1] [vS s,vI i] [] ?_
 obtain ⟨z3,hz,hm⟩:=bindE hm
 refine t_cut [1] [vI z3] [] ?_ ?_
 ·replace hm:=hz
  refine t_block ?_
  intro _ _ H2 hS
  refine w_loop (fun kk a' w' => ∃ (v4 : Int),ky m s kk v4 = some _ ∧ Fr 12 (fS [0,1] [vS s,vI v4]) a' ∧ SH M X w [] w') ⟨_,i,hm,FrG.keep (ks:=[0,1]) H2 (by kernel_rfl),hS⟩ ?_
  clear hm H2 hS
  rintro kk _ _ ⟨v4,hm,H,hS⟩
  cases kk with
  | zero => exact noneE hm
  | succ kk =>
   rw [ky] at hm
   refine t_in H hS (t_seq ?_)
   obtain ⟨y5,hy5,hm⟩:=bindE hm
   refine t_r [0,1,8] [vS s,vI v4,vB (fB y5)] [kc (dS _ _ _ hy5),kc (jy y5)] ?_
   refine t_im hm (fun hm => ?_) (fun hm => ?c10)
   case c10 =>
    refine t_exit ?_
    obtain rfl:=someE hm
    exact t_e [1]
   refine t_skip (t_block ?_)
   refine t_w [0,1] [vS s,vI (w64 (v4 + 1))] [] ?_
   exact fun _ _ H9 hS => ⟨_,Nat.lt_succ_self _,w64 (v4 + 1),hm,FrG.keep (ks:=[0,1]) H9 (by kernel_rfl),hS⟩
 ·refine t_r [4] [vI z3] [] (t_ret ?_)
  obtain rfl:=someE hm
  exact t_n [] rs1

def mY (m : Nat) (s : Str) (i : Int) : Option (Int × Bool) :=
  Option.bind (g0 s i) fun y3 =>
  cond (cond (y3 == 43) true (y3 == 45)) (
  none) (
  Option.bind (pP m s i) fun y8 =>
  Option.bind (g0 s y8) fun y13 =>
  Option.bind (cond (y13 == 46) (g0 s (w64 (y8 + 1))) (some default)) fun y14 =>
  cond (cond (y13 == 46) (fB y14) false) (
  none) (
  Option.bind (g0 s y8) fun y17 =>
  cond (cond (y17 == 101) true (y17 == 69)) (
  none) (
  some (y8,true))))
theorem rv  (m : Nat) (s : Str) (i : Int) (r : Int × Bool) (hm : mY m s i = some r) : Ret Tryz.prog 225 ⟨[vS s,vI i]⟩ (vW [vI r.1,vB r.2]):=by
 rw [mY] at hm
 refine f_pure (Tryz.call225 _) Tryz.func225 Tryz.ntmps225 fun M X w => ?_
 refine t_r [0,1] [vS s,vI i] [] (t_seq ?_)
 obtain ⟨y3,hy3,hm⟩:=bindE hm
 refine t_r [0,1,6] [vS s,vI i,vU y3] [kc (dS _ _ _ hy3)] ?_
 refine t_r [0,1,19] [vS s,vI i,vB (cond (y3 == 43) true (y3 == 45))] [] ?_
 refine t_i2 hm (fun hm => ?_)
 refine t_skip ?_
 obtain ⟨y8,hy8,hm⟩:=bindE hm
 refine t_r [0,1] [vS s,vI y8] [kc (tm m _ _ _ hy8)] ?_
 refine t_r [0,1,7] [vS s,vI y8,vT] [] (t_seq ?_)
 obtain ⟨y13,hy13,hm⟩:=bindE hm
 obtain ⟨y14,hy14,hm⟩:=bindE hm
 refine t_r [0,1,7,35] [vS s,vI y8,vT,vB (cond (y13 == 46) (fB y14) false)] [kc (dS _ _ _ hy13),kgc ((y13 == 46) = true ∧ True) fun hg => (dS _ _ _ (bT (hg.1) hy14)),kgc ((y13 == 46) = true ∧ True) fun hg => (jy y14)] ?_
 refine t_i2 hm (fun hm => ?_)
 refine t_skip (t_seq ?_)
 obtain ⟨y17,hy17,hm⟩:=bindE hm
 refine t_r [0,1,7,8] [vS s,vI y8,vT,vU y17] [kc (dS _ _ _ hy17)] ?_
 refine t_r [0,1,7,48] [vS s,vI y8,vT,vB (cond (y17 == 101) true (y17 == 69))] [] ?_
 refine t_i2 hm (fun hm => ?_)
 refine t_skip ?_
 refine t_r [4,5] [vI y8,vT] [] (t_ret ?_)
 obtain rfl:=someE hm
 exact t_n [] rs2

def gl (m : Nat) (s : Str) : Nat → Str → Int → Option (Str × Int)
  | 0,_,_ => none
  | kk + 1,v12,v13 =>
    Option.bind (g0 s v13) fun y14 =>
    cond (fB y14) (
    chk (0 ≤ v13 ∧ v13 ≤ (w64 (v13 + 1)) ∧ (w64 (v13 + 1)) ≤ ln s) <|
    chk (ln v12 + ln (sub s v13 (w64 (v13 + 1))) ≤ 9223372036854775807) <|
    gl m s kk (v12 ++ (sub s v13 (w64 (v13 + 1)))) (w64 (v13 + 1))) (
    some (v12,v13))
def gh (m : Nat) (z25 : Str × Int × Int) (z30 : Int) : Nat → Int → Int → Option (Int)
  | 0,_,_ => none
  | kk + 1,v39,v40 =>
    lt (cond (decide (v40 < (w64 ((ln z25.1) + z30)))) (decide (v40 < (ln z25.1))) false) fun x41 =>
    cond x41 (
    chk (0 ≤ v40 ∧ v40 < ln z25.1) <|
    lt (w64 ((w64 (10 * v39)) + (w64 (wu8 ((bat z25.1 v40) - 48))))) fun x45 =>
    lt (if x45 < 1000000000000 then x45 else 1000000000000) fun x46 =>
    gh m z25 z30 kk x46 (w64 (v40 + 1))) (
    some v39)
def gg (m : Nat)  : Nat → Int → Int → Option (Int)
  | 0,_,_ => none
  | kk + 1,v54,v55 =>
    lt (cond (decide (0 < v54)) (decide (0 < v55)) false) fun x56 =>
    lt (cond x56 (decide (v55 < 1000000000000)) false) fun x57 =>
    cond x57 (
    lt (if w64 (10 * v55) < 1000000000000 then w64 (10 * v55) else 1000000000000) fun x60 =>
    gg m  kk (w64 (v54 - 1)) x60) (
    some v55)
def l8 (m : Nat) (s : Str) : Option (Int) :=
  chk (0 ≤ (0 : Int) ∧ (0 : Int) < ln s) <|
  lt (cond ((bat s 0) == 43) true ((bat s 0) == 45)) fun x8 =>
  cond x8 (
  none) (
  Option.bind (
  gl m s m [] 0) fun (z11 : Str × Int) =>
  Option.bind (
  Option.bind (g0 s z11.2) fun y26 =>
  cond (y26 == 46) (
  none) (
  some (z11.1,3,z11.2))) fun (z25 : Str × Int × Int) =>
  Option.bind (
  cond (decide (z25.2.2 < (ln s))) (
  none) (
  some z25.2.1)) fun (z30 : Int) =>
  Option.bind (
  gh m z25 z30 m 0 0) fun (z36 : Int) =>
  Option.bind (
  gg m  m z30 z36) fun (z53 : Int) =>
  cond ((bat s 0) == 45) (
  none) (
  some z53))
theorem pK  (m : Nat) (s : Str) (r : Int) (hm : l8 m s = some r) : Ret Tryz.prog 226 ⟨[vS s]⟩ (vI r):=by
 rw [l8] at hm
 refine f_pure (Tryz.call226 _) Tryz.func226 Tryz.ntmps226 fun M X w => ?_
 refine t_r [0] [vS s] [] ?_
 refine t_r [0,3,4,5] [vS s,vN,vI 3,vI 0] [] ?_
 obtain ⟨ho5,hm⟩:=chkE hm
 refine t_r [0,3,4,5,6] [vS s,vN,vI 3,vI 0,vB ((bat s 0) == 45)] [kh ho5] (t_seq ?_)
 obtain ⟨x8,hx8,hm⟩:=letE hm
 refine t_r [0,3,4,5,6,19] [vS s,vN,vI 3,vI 0,vB ((bat s 0) == 45),vB x8] [kh ho5] ?_ (he:=by subst hx8; kernel_rfl)
 refine t_i2 hm (fun hm => ?_)
 refine t_skip ?_
 obtain ⟨z11,hz,hm⟩:=bindE hm
 refine t_cut [0,4,6,3,5] [vS s,vI 3,vB ((bat s 0) == 45),vS z11.1,vI z11.2] [] ?_ ?_
 ·replace hm:=hz
  refine t_block ?_
  intro _ _ H10 hS
  refine w_loop (fun kk a' w' => ∃ (v12 : Str) (v13 : Int),gl m s kk v12 v13 = some _ ∧ Fr 138 (fS [0,4,6,3,5] [vS s,vI 3,vB ((bat s 0) == 45),vS v12,vI v13]) a' ∧ SH M X w [] w') ⟨_,[],0,hm,FrG.keep (ks:=[0,4,6,3,5]) H10 (by kernel_rfl),hS⟩ ?_
  clear hm H10 hS
  rintro kk _ _ ⟨v12,v13,hm,H,hS⟩
  cases kk with
  | zero => exact noneE hm
  | succ kk =>
   rw [gl] at hm
   refine t_in H hS (t_seq ?_)
   obtain ⟨y14,hy14,hm⟩:=bindE hm
   refine t_r [0,3,4,5,6,25] [vS s,vS v12,vI 3,vI v13,vB ((bat s 0) == 45),vB (fB y14)] [kc (dS _ _ _ hy14),kc (jy y14)] ?_
   refine t_im hm (fun hm => ?_) (fun hm => ?c23)
   case c23 =>
    refine t_exit ?_
    obtain rfl:=someE hm
    exact t_e [0,4,6,3,5]
   refine t_skip (t_seq (t_block ?_))
   obtain ⟨ho17,hm⟩:=chkE hm
   obtain ⟨ho18,hm⟩:=chkE hm
   refine t_w [0,3,4,5,6] [vS s,vS (v12 ++ (sub s v13 (w64 (v13 + 1)))),vI 3,vI v13,vB ((bat s 0) == 45)] [kh ho17,kh ho18] ?_
   refine t_w [0,3,4,5,6] [vS s,vS (v12 ++ (sub s v13 (w64 (v13 + 1)))),vI 3,vI (w64 (v13 + 1)),vB ((bat s 0) == 45)] [] ?_
   exact fun _ _ H22 hS => ⟨_,Nat.lt_succ_self _,v12 ++ (sub s v13 (w64 (v13 + 1))),w64 (v13 + 1),hm,FrG.keep (ks:=[0,4,6,3,5]) H22 (by kernel_rfl),hS⟩
 ·obtain ⟨z25,hz,hm⟩:=bindE hm
  refine t_cut [0,6,3,4,5] [vS s,vB ((bat s 0) == 45),vS z25.1,vI z25.2.1,vI z25.2.2] [] ?_ ?_
  ·replace hm:=hz
   obtain ⟨y26,hy26,hm⟩:=bindE hm
   refine t_r [0,3,4,5,6,38] [vS s,vS z11.1,vI 3,vI z11.2,vB ((bat s 0) == 45),vB (y26 == 46)] [kc (dS _ _ _ hy26)] ?_
   refine t_i2 hm (fun hm => ?_)
   refine t_skip ?_
   obtain rfl:=someE hm
   exact t_e [0,6,3,4,5]
  ·obtain ⟨z30,hz,hm⟩:=bindE hm
   refine t_cut [3,6,4] [vS z25.1,vB ((bat s 0) == 45),vI z30] [] ?_ ?_
   ·replace hm:=hz
    refine t_r [0,3,4,5,6,59] [vS s,vS z25.1,vI z25.2.1,vI z25.2.2,vB ((bat s 0) == 45),vB (decide (z25.2.2 < (ln s)))] [] ?_
    refine t_i2 hm (fun hm => ?_)
    refine t_skip ?_
    obtain rfl:=someE hm
    exact t_e [3,6,4]
   ·refine t_r [3,4,6,9] [vS z25.1,vI z30,vB ((bat s 0) == 45),vI 0] [] ?_
    obtain ⟨z36,hz,hm⟩:=bindE hm
    refine t_cut [4,6,9] [vI z30,vB ((bat s 0) == 45),vI z36] [] ?_ ?_
    ·replace hm:=hz
     refine t_r [3,4,6,9,10] [vS z25.1,vI z30,vB ((bat s 0) == 45),vI 0,vI 0] [] (t_block ?_)
     intro _ _ H38 hS
     refine w_loop (fun kk a' w' => ∃ (v39 : Int) (v40 : Int),gh m z25 z30 kk v39 v40 = some _ ∧ Fr 138 (fS [3,4,6,9,10] [vS z25.1,vI z30,vB ((bat s 0) == 45),vI v39,vI v40]) a' ∧ SH M X w [] w') ⟨_,0,0,hm,FrG.keep (ks:=[3,4,6,9,10]) H38 (by kernel_rfl),hS⟩ ?_
     clear hm H38 hS
     rintro kk _ _ ⟨v39,v40,hm,H,hS⟩
     cases kk with
     | zero => exact noneE hm
     | succ kk =>
      rw [gh] at hm
      refine t_in H hS (t_seq ?_)
      obtain ⟨x41,hx41,hm⟩:=letE hm
      refine t_r [3,4,6,9,10,107] [vS z25.1,vI z30,vB ((bat s 0) == 45),vI v39,vI v40,vB x41] [] ?_ (he:=by subst hx41; kernel_rfl)
      refine t_im hm (fun hm => ?_) (fun hm => ?c51)
      case c51 =>
       refine t_exit ?_
       obtain rfl:=someE hm
       exact t_e [4,6,9]
      refine t_skip (t_seq (t_block ?_))
      obtain ⟨ho44,hm⟩:=chkE hm
      obtain ⟨x45,hx45,hm⟩:=letE hm
      obtain ⟨x46,hx46,hm⟩:=letE hm
      refine t_w [3,4,6,9,10] [vS z25.1,vI z30,vB ((bat s 0) == 45),vI x46,vI v40] [kh ho44] ?_ (he:=by subst hx45 hx46; kernel_rfl)
      refine t_w [3,4,6,9,10] [vS z25.1,vI z30,vB ((bat s 0) == 45),vI x46,vI (w64 (v40 + 1))] [] ?_
      exact fun _ _ H50 hS => ⟨_,Nat.lt_succ_self _,x46,w64 (v40 + 1),hm,FrG.keep (ks:=[3,4,6,9,10]) H50 (by kernel_rfl),hS⟩
    ·obtain ⟨z53,hz,hm⟩:=bindE hm
     refine t_cut [6,9] [vB ((bat s 0) == 45),vI z53] [] ?_ ?_
     ·replace hm:=hz
      refine t_block ?_
      intro _ _ H hS
      refine w_loop (fun kk a' w' => ∃ (v54 : Int) (v55 : Int),gg m  kk v54 v55 = some _ ∧ Fr 138 (fS [6,4,9] [vB ((bat s 0) == 45),vI v54,vI v55]) a' ∧ SH M X w [] w') ⟨_,z30,z36,hm,FrG.keep (ks:=[6,4,9]) H (by kernel_rfl),hS⟩ ?_
      clear hm H hS
      rintro kk _ _ ⟨v54,v55,hm,H,hS⟩
      cases kk with
      | zero => exact noneE hm
      | succ kk =>
       rw [gg] at hm
       refine t_in H hS (t_seq ?_)
       obtain ⟨x56,hx56,hm⟩:=letE hm
       obtain ⟨x57,hx57,hm⟩:=letE hm
       refine t_r [4,6,9,128] [vI v54,vB ((bat s 0) == 45),vI v55,vB x57] [] ?_ (he:=by subst hx56 hx57; kernel_rfl)
       refine t_im hm (fun hm => ?_) (fun hm => ?c65)
       case c65 =>
        refine t_exit ?_
        obtain rfl:=someE hm
        exact t_e [6,9]
       refine t_skip (t_seq (t_block ?_))
       obtain ⟨x60,hx60,hm⟩:=letE hm
       refine t_w [4,6,9] [vI v54,vB ((bat s 0) == 45),vI x60] [] ?_ (he:=by subst hx60; kernel_rfl)
       refine t_w [4,6,9] [vI (w64 (v54 - 1)),vB ((bat s 0) == 45),vI x60] [] ?_
       exact fun _ _ H64 hS => ⟨_,Nat.lt_succ_self _,w64 (v54 - 1),x60,hm,FrG.keep (ks:=[6,4,9]) H64 (by kernel_rfl),hS⟩
     ·refine t_seq ?_
      refine t_r [9,134] [vI z53,vB ((bat s 0) == 45)] [] ?_
      refine t_i2 hm (fun hm => ?_)
      refine t_skip ?_
      refine t_r [2] [vI z53] [] (t_ret ?_)
      obtain rfl:=someE hm
      exact t_n [] rs1

def lJ (s : Str) (i : Int) : Option (Bool) :=
  Option.bind (g0 s i) fun y3 =>
  cond (y3 == 45) (
  Option.bind (g0 s (w64 (i + 1))) fun y6 =>
  Option.bind (lR y6) fun y7 =>
  Option.bind (cond y7 (some default) (g0 s (w64 (i + 1)))) fun y8 =>
  Option.bind (cond (cond y7 true (y8 == 45)) (some default) (jT s (w64 (i + 1)))) fun y9 =>
  some (cond (cond y7 true (y8 == 45)) true y9)) (
  Option.bind (g0 s i) fun y12 =>
  Option.bind (lR y12) fun y13 =>
  Option.bind (cond y13 (some default) (jT s i)) fun y14 =>
  some (cond y13 true y14))
theorem mV  (s : Str) (i : Int) (r : Bool) (hm : lJ s i = some r) : Ret Tryz.prog 170 ⟨[vS s,vI i]⟩ (vB r):=by
 rw [lJ] at hm
 refine f_pure (Tryz.call170 _) Tryz.func170 Tryz.ntmps170 fun M X w => ?_
 refine t_r [0,1] [vS s,vI i] [] (t_seq ?_)
 obtain ⟨y3,hy3,hm⟩:=bindE hm
 refine t_r [0,1,8] [vS s,vI i,vB (y3 == 45)] [kc (dS _ _ _ hy3)] ?_
 refine t_im hm (fun hm => ?_) (fun hm => ?c17)
 case c17 =>
  refine t_skip ?_
  obtain ⟨y12,hy12,hm⟩:=bindE hm
  obtain ⟨y13,hy13,hm⟩:=bindE hm
  obtain ⟨y14,hy14,hm⟩:=bindE hm
  refine t_r [4] [vB (cond y13 true y14)] [kc (dS _ _ _ hy12),kc (mT _ _ hy13),kgc (y13 = false ∧ True) fun hg => (ke _ _ _ (bF (hg.1) hy14))] (t_ret ?_)
  obtain rfl:=someE hm
  exact t_n [] rs1
 obtain ⟨y6,hy6,hm⟩:=bindE hm
 obtain ⟨y7,hy7,hm⟩:=bindE hm
 obtain ⟨y8,hy8,hm⟩:=bindE hm
 obtain ⟨y9,hy9,hm⟩:=bindE hm
 refine t_r [4] [vB (cond (cond y7 true (y8 == 45)) true y9)] [kc (dS _ _ _ hy6),kc (mT _ _ hy7),kgc (y7 = false ∧ True) fun hg => (dS _ _ _ (bF (hg.1) hy8)),kgc ((cond y7 true (y8 == 45)) = false ∧ True) fun hg => (ke _ _ _ (bF (hg.1) hy9))] (t_ret ?_)
 obtain rfl:=someE hm
 exact t_n [] rs1

def lw (m : Nat) (s : Str) : Nat → Int → Str → Option (Str × Int)
  | 0,_,_ => none
  | kk + 1,v5,v6 =>
    chk ((decide (v5 < (ln s))) = true → 0 ≤ v5 ∧ v5 < ln s) <|
    Option.bind (cond (decide (v5 < (ln s))) (ns (bat s v5)) (some default)) fun y8 =>
    cond (cond (decide (v5 < (ln s))) y8 false) (
    chk (0 ≤ v5 ∧ v5 ≤ (w64 (v5 + 1)) ∧ (w64 (v5 + 1)) ≤ ln s) <|
    chk (ln v6 + ln (sub s v5 (w64 (v5 + 1))) ≤ 9223372036854775807) <|
    lw m s kk (w64 (v5 + 1)) (v6 ++ (sub s v5 (w64 (v5 + 1))))) (
    Option.bind (cond (decide (v5 < (ln s))) (jT s v5) (some default)) fun y17 =>
    cond (cond (decide (v5 < (ln s))) y17 false) (
    none) (
    some (v6,v5)))
def n7 (m : Nat) (s : Str) (i : Int) : Option (Str × Int) :=
  lw m s m i []
theorem nM  (m : Nat) (s : Str) (i : Int) (r : Str × Int) (hm : n7 m s i = some r) : Ret Tryz.prog 169 ⟨[vS s,vI i]⟩ (vW [vS r.1,vI r.2]):=by
 rw [n7] at hm
 refine f_pure (Tryz.call169 _) Tryz.func169 Tryz.ntmps169 fun M X w => ?_
 refine t_r [0,1] [vS s,vI i] [] ?_
 refine t_r [0,1,6] [vS s,vI i,vN] [] (t_block ?_)
 intro _ _ H4 hS
 refine w_loop (fun kk a' w' => ∃ (v5 : Int) (v6 : Str),lw m s kk v5 v6 = some _ ∧ Fr 49 (fS [0,1,6] [vS s,vI v5,vS v6]) a' ∧ SH M X w [] w') ⟨_,i,[],hm,FrG.keep (ks:=[0,1,6]) H4 (by kernel_rfl),hS⟩ ?_
 clear hm H4 hS
 rintro kk _ _ ⟨v5,v6,hm,H,hS⟩
 cases kk with
 | zero => exact noneE hm
 | succ kk =>
  rw [lw] at hm
  refine t_in H hS (t_block ?_)
  obtain ⟨ho7,hm⟩:=chkE hm
  obtain ⟨y8,hy8,hm⟩:=bindE hm
  refine t_r [0,1,6,18] [vS s,vI v5,vS v6,vB (cond (decide (v5 < (ln s))) y8 false)] [kgh ((decide (v5 < (ln s))) = true ∧ True) fun hg => (ho7 hg.1),kgc ((decide (v5 < (ln s))) = true ∧ True) fun hg => (pc _ _ (bT (hg.1) hy8))] ?_
  refine t_im hm (fun hm => ?c23) (fun hm => ?_)
  case c23 =>
   obtain ⟨ho11,hm⟩:=chkE hm
   obtain ⟨ho12,hm⟩:=chkE hm
   refine t_r [0,1,6] [vS s,vI v5,vS (v6 ++ (sub s v5 (w64 (v5 + 1))))] [kh ho11,kh ho12] ?_
   refine t_w [0,1,6] [vS s,vI (w64 (v5 + 1)),vS (v6 ++ (sub s v5 (w64 (v5 + 1))))] [] ?_
   exact fun _ _ H16 hS => ⟨_,Nat.lt_succ_self _,w64 (v5 + 1),v6 ++ (sub s v5 (w64 (v5 + 1))),hm,FrG.keep (ks:=[0,1,6]) H16 (by kernel_rfl),hS⟩
  obtain ⟨y17,hy17,hm⟩:=bindE hm
  refine t_r [0,1,6,36] [vS s,vI v5,vS v6,vB (cond (decide (v5 < (ln s))) y17 false)] [kgc ((decide (v5 < (ln s))) = true ∧ True) fun hg => (ke _ _ _ (bT (hg.1) hy17))] ?_
  refine t_i2 hm (fun hm => ?_)
  refine t_r [4,5] [vS v6,vI v5] [] (t_ret ?_)
  obtain rfl:=someE hm
  exact t_n [] rs2

def o1 (m : Nat) (s : Str) (i : Int) : Option (aR × Int) :=
  Option.bind (mY m s i) fun y6 =>
  chk (0 ≤ i ∧ i ≤ y6.1 ∧ y6.1 ≤ ln s) <|
  Option.bind (l8 m (sub s i y6.1)) fun y10 =>
  Option.bind (lJ s y6.1) fun y18 =>
  cond y18 (
  Option.bind (n7 m s y6.1) fun y25 =>
  some ((aR.mk 12 [] y10 y25.1 y6.2),y25.2)) (
  none)
theorem sK  (m : Nat) (s : Str) (i : Int) (r : aR × Int) (hm : o1 m s i = some r) : Ret Tryz.prog 172 ⟨[vS s,vI i]⟩ (.tuple ⟨[.agg ⟨e6 r.1⟩,vI r.2]⟩):=by
 rw [o1] at hm
 refine f_pure (Tryz.call172 _) Tryz.func172 Tryz.ntmps172 fun M X w => (t_starts ?_)
 refine t_m [] [] [0,1] [vS s,vI i] (fun _ _ H hd => o_alloc [vU 0,vN,vI 0,vN,vF] (z:=vG [vU 0,vN,vI 0,vN,vF]) hd (by kernel_rfl) rfl) fun b1 => ?_
 refine t_b 2 [0,1,4] [vS s,vI i,vP b1] [] (t_end ?_)
 obtain ⟨y6,hy6,hm⟩:=bindE hm
 refine t_r [0,1,4,6,7] [vS s,vI i,vP b1,vI y6.1,vB y6.2] [kc (rv m _ _ _ hy6)] (t_starts ?_)
 obtain ⟨ho9,hm⟩:=chkE hm
 obtain ⟨y10,hy10,hm⟩:=bindE hm
 refine t_b 7 [0,4,6,21] [vS s,vP b1,vI y6.1,vG [vU 10,vN,vI y10,vN,vB y6.2]] [kh ho9,kc (pK m _ _ hy10)] ?_
 refine t_m [] [0] [0,4,6,21] [vS s,vP b1,vI y6.1,vG [vU 10,vN,vI y10,vN,vB y6.2]] (fun _ _ H12 hd => o_alloc [vU 0,vN,vI 0,vN,vF] (z:=vG [vU 0,vN,vI 0,vN,vF]) hd (by kernel_rfl) rfl) fun b13 => ?_
 refine t_m0 [0] [1] [0,4,6,8] [vS s,vP b1,vI y6.1,vP b13] (fun _ _ H15 hd => o_store [vU 10,vN,vI y10,vN,vB y6.2] H15 hd rfl rfl (by kernel_rfl) rfl rfl rfl) (t_end (t_seq ?_))
 obtain ⟨y18,hy18,hm⟩:=bindE hm
 refine t_r [0,4,6,8,24] [vS s,vP b1,vI y6.1,vP b13,vB y18] [kc (mV _ _ _ hy18)] ?_
 refine t_i1 hm (fun hm => ?_)
 refine t_starts ?_
 refine t_b 1 [0,4,6,8,25] [vS s,vP b1,vI y6.1,vP b13,vP b13] [] ?_
 refine t_m0 [0] [1] [0,4,6,8] [vS s,vP b1,vI y6.1,vP b13] (fun _ _ H22 hd => o_store [vU 12,vN,vI y10,vN,vB y6.2] H22 hd rfl rfl (by kernel_rfl) rfl rfl rfl) (t_end (t_start ?_))
 obtain ⟨y25,hy25,hm⟩:=bindE hm
 refine t_b 7 [4,8,30,31,32] [vP b1,vP b13,vS y25.1,vI y25.2,vA b13 3] [kc (nM m _ _ _ hy25)] ?_
 refine t_m0 [0] [1] [4,8,31] [vP b1,vP b13,vI y25.2] (fun _ _ H27 hd => o_store [vU 12,vN,vI y10,vS y25.1,vB y6.2] H27 hd rfl rfl (by kernel_rfl) rfl rfl rfl) ?_
 refine t_b 9 [4,6,8] [vP b1,vI y25.2,vP b13] [] (t_end (t_starts ?_))
 refine t_b 2 [4,41,42] [vP b1,vG [vU 12,vN,vI y10,vS y25.1,vB y6.2],vI y25.2] [⟨some (vG [vU 12,vN,vI y10,vS y25.1,vB y6.2]),rN b13 0 [vU 12,vN,vI y10,vS y25.1,vB y6.2],fun _ hS => ((hS.bk 0 rfl).atD rfl)⟩] ?_
 refine t_m0 [1] [0] [4,42] [vP b1,vI y25.2] (fun _ _ H33 hd => o_store [vU 12,vN,vI y10,vS y25.1,vB y6.2] H33 hd rfl rfl (by kernel_rfl) rfl rfl rfl) ?_
 refine t_b 4 [4,5] [vP b1,vI y25.2] [] (t_end (t_sel [0] (t_ret ?_)))
 obtain rfl:=someE hm
 exact t_n [] (rsav 0 Tryz.underlying135)

def ll (m : Nat) (s : Str) : Nat → Int → (List Int) → Option (List Int)
  | 0,_,_ => none
  | kk + 1,v14,v15 =>
    cond (decide (v14 < (ln (ofB s)))) (
    chk (0 ≤ v14 ∧ v14 < ln (ofB s)) <|
    Option.bind (oS (gi v15 v14)) fun y19 =>
    lt (seti v15 v14 y19) fun q24 =>
    ll m s kk (w64 (v14 + 1)) q24) (
    some v15)
def gI (m : Nat) (s : Str) : Option (Str) :=
  Option.bind (
  ll m s m 0 (ofB s)) fun (z11 : List Int) =>
  some (toB z11)
theorem fK  (m : Nat) (s : Str) (r : Str) (hm : gI m s = some r) : Ret Tryz.prog 114 ⟨[vS s]⟩ (vS r):=by
 rw [gI] at hm
 refine f_pure (Tryz.call114 _) Tryz.func114 Tryz.ntmps114 fun M X w => ?_
 refine t_r [0] [vS s] [] (t_starts ?_)
 refine t_b 1 [5] [vS s] [] ?_
 intro _ _ H4 hS
 have hd:=hS.hand [] [] rfl rfl
 refine m_stp [6] [] H4 rfl rfl rfl rfl (o_bytes (E:=5) H4 hd rfl (by kernel_rfl) (by kernel_rfl) (by kernel_rfl)) (fun _ => rfl) fun _ _ v H8 hq => ?_
 obtain ⟨b5,c6,rfl,hc_b5,hq⟩:=hq
 replace hS:=hS.join [] [] rfl rfl hq
 refine t_in H8 hS ?_
 refine t_b 3 [3] [.slice (some ⟨b5,0,none⟩) ((ofB s).length) c6] [] (t_end ?_)
 obtain ⟨z11,hz,hm⟩:=bindE hm
 refine t_cut [3] [.slice (some ⟨b5,0,none⟩) ((ofB s).length) c6] [Ent.row .u8 b5 z11 (ln (ofB s))] ?_ ?_
 ·replace hm:=hz
  refine t_r [3,4] [.slice (some ⟨b5,0,none⟩) ((ofB s).length) c6,vI 0] [] (t_block ?_)
  intro _ _ H13 hS
  refine w_loop (fun kk a' w' => ∃ (v14 : Int) (v15 : List Int),ll m s kk v14 v15 = some _ ∧ Fr 23 (fS [3,4] [.slice (some ⟨b5,0,none⟩) ((ofB s).length) c6,vI v14]) a' ∧ SH M X w [Ent.row .u8 b5 v15 (ln (ofB s))] w') ⟨_,0,ofB s,hm,FrG.keep (ks:=[3,4]) H13 (by kernel_rfl),hS⟩ ?_
  clear hm H13 hS
  rintro kk _ _ ⟨v14,v15,hm,H,hS⟩
  cases kk with
  | zero => exact noneE hm
  | succ kk =>
   rw [ll] at hm
   refine t_in H hS (t_seq ?_)
   refine t_r [3,4,10] [.slice (some ⟨b5,0,none⟩) ((ofB s).length) c6,vI v14,vB (decide (v14 < (ln (ofB s))))] [] ?_
   refine t_im hm (fun hm => ?_) (fun hm => ?c27)
   case c27 =>
    refine t_exit ?_
    obtain rfl:=someE hm
    exact t_e [3]
   refine t_skip (t_seq (t_block (t_start ?_)))
   obtain ⟨ho18,hm⟩:=chkE hm
   obtain ⟨y19,hy19,hm⟩:=bindE hm
   refine t_b 8 [3,4,19,20] [.slice (some ⟨b5,0,none⟩) ((ofB s).length) c6,vI v14,vU y19,.pointer (some ⟨b5,0 + (v14).toNat * 1,none⟩)] [⟨none,fun _ => oka (some ⟨b5,0,none⟩) ∧ 0 ≤ v14 ∧ v14 < ln (ofB s),fun _ _ => (⟨rfl,ho18⟩)⟩,⟨some (vU (gi v15 v14)),fun wz => V.at1 ⟨b5,0 + (v14).toNat * 1,none⟩ (vU (gi v15 v14)) wz,fun _ hS => (Rw.ixn (hS.rw 0 rfl) ho18)⟩,kc (q9 _ _ hy19),⟨none,fun _ => oka (some ⟨b5,0,none⟩) ∧ 0 ≤ v14 ∧ v14 < ln (ofB s),fun _ _ => (⟨rfl,ho18⟩)⟩] ?_
   intro _ _ H21 hS
   have hd:=hS.hand [0] [] rfl rfl
   refine m_stp0 [3,4] (fS [3,4] [.slice (some ⟨b5,0,none⟩) ((ofB s).length) c6,vI v14]) H21 rfl rfl rfl (o_rstore H21 hd rfl rfl (by kernel_rfl) ho18) rfl fun _ _ H23 hq => ?_
   obtain ⟨_,hq⟩:=hq
   obtain ⟨q24,hq24,hm⟩:=letE hm
   rw [← hq24] at hq
   replace hS:=hS.join [0] [] rfl rfl hq
   refine t_in H23 hS (t_end ?_)
   refine t_w [3,4] [.slice (some ⟨b5,0,none⟩) ((ofB s).length) c6,vI (w64 (v14 + 1))] [] ?_
   exact fun _ _ H26 hS => ⟨_,Nat.lt_succ_self _,w64 (v14 + 1),q24,hm,FrG.keep (ks:=[3,4]) H26 (by kernel_rfl),hS⟩
 ·intro _ _ H hS
  refine s_reg [(vS (toB z11))] [2] [(2,[],vS (toB z11))] [fun wz => ∀ w',Below wz.heap.size wz w' → (convert 201 9 (.slice (some ⟨b5,0,none⟩) ((ofB s).length) c6)).run Tryz.prog w' = .ok (vS (toB z11)) w'] H (by kernel_rfl) ⟨(conv_row (E:=5) (by kernel_rfl) (by kernel_rfl) (by kernel_rfl) (hS.rw 0 rfl).1 (hS.rw 0 rfl).2),trivial⟩ fun _ _ H30 hb => ?_
  replace hS:=hS.below hb
  replace hS : SH M X w [] _:=hS.sel [] rfl
  refine t_in H30 hS (t_ret ?_)
  obtain rfl:=someE hm
  exact t_n [] rs1

def gD (m : Nat) (a_ : Str) (b_ : Str) : Option (Bool) :=
  Option.bind (gI m a_) fun y3 =>
  Option.bind (gI m b_) fun y4 =>
  some (y3 == y4)
theorem fG  (m : Nat) (a_ : Str) (b_ : Str) (r : Bool) (hm : gD m a_ b_ = some r) : Ret Tryz.prog 66 ⟨[vS a_,vS b_]⟩ (vB r):=by
 rw [gD] at hm
 refine f_pure (Tryz.call66 _) Tryz.func66 Tryz.ntmps66 fun M X w => ?_
 refine t_r [0,1] [vS a_,vS b_] [] ?_
 obtain ⟨y3,hy3,hm⟩:=bindE hm
 obtain ⟨y4,hy4,hm⟩:=bindE hm
 refine t_r [4] [vB (y3 == y4)] [kc (fK m _ _ hy3),kc (fK m _ _ hy4)] (t_ret ?_)
 obtain rfl:=someE hm
 exact t_n [] rs1

def sM (m : Nat) (s : Str) (i : Int) : Option (aR × Int) :=
  Option.bind (n7 m s i) fun y6 =>
  Option.bind (g0 s y6.2) fun y9 =>
  cond (y9 != 40) (
  some ((aR.mk 1 y6.1 0 [] false),y6.2)) (
  Option.bind (gD m y6.1 [117,114,108]) fun y18 =>
  cond y18 (
  none) (
  some ((aR.mk 2 y6.1 0 [] false),w64 (y6.2 + 1))))
theorem vC  (m : Nat) (s : Str) (i : Int) (r : aR × Int) (hm : sM m s i = some r) : Ret Tryz.prog 173 ⟨[vS s,vI i]⟩ (.tuple ⟨[.agg ⟨e6 r.1⟩,vI r.2]⟩):=by
 rw [sM] at hm
 refine f_pure (Tryz.call173 _) Tryz.func173 Tryz.ntmps173 fun M X w => (t_starts ?_)
 refine t_m [] [] [0,1] [vS s,vI i] (fun _ _ H hd => o_alloc [vU 0,vN,vI 0,vN,vF] (z:=vG [vU 0,vN,vI 0,vN,vF]) hd (by kernel_rfl) rfl) fun b1 => ?_
 refine t_b 2 [0,1,4] [vS s,vI i,vP b1] [] (t_end ?_)
 obtain ⟨y6,hy6,hm⟩:=bindE hm
 refine t_r [0,4,6,7] [vS s,vP b1,vS y6.1,vI y6.2] [kc (nM m _ _ _ hy6)] (t_seq ?_)
 obtain ⟨y9,hy9,hm⟩:=bindE hm
 refine t_r [0,4,6,7,18] [vS s,vP b1,vS y6.1,vI y6.2,vB (y9 != 40)] [kc (dS _ _ _ hy9)] ?_
 refine t_im hm (fun hm => ?c28) (fun hm => ?_)
 case c28 =>
  refine t_starts ?_
  refine t_b 3 [4,20,21] [vP b1,vG [vU 1,vS y6.1,vI 0,vN,vF],vI y6.2] [] ?_
  refine t_m0 [0] [] [4,21] [vP b1,vI y6.2] (fun _ _ H13 hd => o_store [vU 1,vS y6.1,vI 0,vN,vF] H13 hd rfl rfl (by kernel_rfl) rfl rfl rfl) ?_
  refine t_b 5 [4,5] [vP b1,vI y6.2] [] (t_end (t_ret ?_))
  obtain rfl:=someE hm
  exact t_n [] (rsav 0 Tryz.underlying135)
 refine t_skip (t_seq ?_)
 obtain ⟨y18,hy18,hm⟩:=bindE hm
 refine t_r [0,4,6,7,23] [vS s,vP b1,vS y6.1,vI y6.2,vB y18] [kc (fG m _ _ _ hy18)] ?_
 refine t_i2 hm (fun hm => ?_)
 refine t_skip (t_starts ?_)
 refine t_b 4 [4,43,45] [vP b1,vG [vU 2,vS y6.1,vI 0,vN,vF],vI (w64 (y6.2 + 1))] [] ?_
 refine t_m0 [0] [] [4,45] [vP b1,vI (w64 (y6.2 + 1))] (fun _ _ H22 hd => o_store [vU 2,vS y6.1,vI 0,vN,vF] H22 hd rfl rfl (by kernel_rfl) rfl rfl rfl) ?_
 refine t_b 6 [4,5] [vP b1,vI (w64 (y6.2 + 1))] [] (t_end (t_ret ?_))
 obtain rfl:=someE hm
 exact t_n [] (rsav 0 Tryz.underlying135)

def qC (c_ : Int) : Option (Int) :=
  cond (c_ == 58) (
  some 16) (
  cond (c_ == 59) (
  some 17) (
  cond (c_ == 44) (
  some 18) (
  cond (c_ == 91) (
  none) (
  cond (c_ == 93) (
  none) (
  cond (c_ == 40) (
  some 21) (
  cond (c_ == 41) (
  some 22) (
  cond (c_ == 123) (
  some 23) (
  cond (c_ == 125) (
  some 24) (
  some 0)))))))))
theorem rx  (c_ : Int) (r : Int) (hm : qC c_ = some r) : Ret Tryz.prog 174 ⟨[vU c_]⟩ (vU r):=by
 rw [qC] at hm
 refine f_pure (Tryz.call174 _) Tryz.func174 Tryz.ntmps174 fun M X w => ?_
 refine t_r [0] [vU c_] [] (t_seq ?_)
 refine t_r [3] [vU c_] [] (t_block ?_)
 refine t_r [3,4] [vU c_,vB (c_ == 58)] [] ?_
 refine t_im hm (fun hm => ?c47) (fun hm => ?_)
 case c47 =>
  refine t_r [2] [vU 16] [] (t_ret ?_)
  obtain rfl:=someE hm
  exact t_n [] rs1
 refine t_r [3,6] [vU c_,vB (c_ == 59)] [] ?_
 refine t_im hm (fun hm => ?c46) (fun hm => ?_)
 case c46 =>
  refine t_r [2] [vU 17] [] (t_ret ?_)
  obtain rfl:=someE hm
  exact t_n [] rs1
 refine t_r [3,8] [vU c_,vB (c_ == 44)] [] ?_
 refine t_im hm (fun hm => ?c45) (fun hm => ?_)
 case c45 =>
  refine t_r [2] [vU 18] [] (t_ret ?_)
  obtain rfl:=someE hm
  exact t_n [] rs1
 refine t_r [3,10] [vU c_,vB (c_ == 91)] [] ?_
 refine t_i2 hm (fun hm => ?_)
 refine t_r [3,12] [vU c_,vB (c_ == 93)] [] ?_
 refine t_i2 hm (fun hm => ?_)
 refine t_r [3,14] [vU c_,vB (c_ == 40)] [] ?_
 refine t_im hm (fun hm => ?c42) (fun hm => ?_)
 case c42 =>
  refine t_r [2] [vU 21] [] (t_ret ?_)
  obtain rfl:=someE hm
  exact t_n [] rs1
 refine t_r [3,16] [vU c_,vB (c_ == 41)] [] ?_
 refine t_im hm (fun hm => ?c41) (fun hm => ?_)
 case c41 =>
  refine t_r [2] [vU 22] [] (t_ret ?_)
  obtain rfl:=someE hm
  exact t_n [] rs1
 refine t_r [3,18] [vU c_,vB (c_ == 123)] [] ?_
 refine t_im hm (fun hm => ?c40) (fun hm => ?_)
 case c40 =>
  refine t_r [2] [vU 23] [] (t_ret ?_)
  obtain rfl:=someE hm
  exact t_n [] rs1
 refine t_r [20] [vB (c_ == 125)] [] ?_
 refine t_im hm (fun hm => ?c39) (fun hm => ?_)
 case c39 =>
  refine t_r [2] [vU 24] [] (t_ret ?_)
  obtain rfl:=someE hm
  exact t_n [] rs1
 refine t_skip ?_
 refine t_r [2] [vU 0] [] (t_ret ?_)
 obtain rfl:=someE hm
 exact t_n [] rs1

def uc (m : Nat) (s : Str) (i : Int) : Option (aR × Int) :=
  chk (0 ≤ i ∧ i < ln s) <|
  cond (jO (bat s i)) (
  Option.bind (pL m s i) fun y11 =>
  some ((aR.mk 13 [] 0 [] false),y11)) (
  lt (cond ((bat s i) == 34) true ((bat s i) == 39)) fun x18 =>
  cond x18 (
  none) (
  chk ((decide ((w64 (i + 1)) < (ln s))) = true → ((bat s i) == 35) = true → 0 ≤ (w64 (i + 1)) ∧ (w64 (i + 1)) < ln s) <|
  Option.bind (cond ((bat s i) == 35) (cond (decide ((w64 (i + 1)) < (ln s))) (ns (bat s (w64 (i + 1)))) (some default)) (some default)) fun y22 =>
  Option.bind (cond ((bat s i) == 35) (cond (cond (decide ((w64 (i + 1)) < (ln s))) y22 false) (some default) (jT s (w64 (i + 1)))) (some default)) fun y23 =>
  lt (cond ((bat s i) == 35) (cond (cond (decide ((w64 (i + 1)) < (ln s))) y22 false) true y23) false) fun x24 =>
  cond x24 (
  none) (
  Option.bind (nL s i) fun y27 =>
  cond y27 (
  Option.bind (o1 m s i) fun y30 =>
  some (y30.1,y30.2)) (
  Option.bind (qk s i [45,45,62]) fun y37 =>
  cond y37 (
  none) (
  Option.bind (qk s i [60,33,45,45]) fun y40 =>
  cond y40 (
  none) (
  Option.bind (cond ((bat s i) == 64) (lJ s (w64 (i + 1))) (some default)) fun y43 =>
  cond (cond ((bat s i) == 64) y43 false) (
  Option.bind (n7 m s (w64 (i + 1))) fun y46 =>
  some ((aR.mk 3 y46.1 0 [] false),y46.2)) (
  Option.bind (lJ s i) fun y55 =>
  cond y55 (
  Option.bind (sM m s i) fun y58 =>
  some (y58.1,y58.2)) (
  Option.bind (qC (bat s i)) fun y65 =>
  cond (y65 != 0) (
  Option.bind (qC (bat s i)) fun y68 =>
  some ((aR.mk y68 [] 0 [] false),w64 (i + 1))) (
  chk (0 ≤ i ∧ i ≤ (w64 (i + 1)) ∧ (w64 (i + 1)) ≤ ln s) <|
  some ((aR.mk 9 (sub s i (w64 (i + 1))) 0 [] false),w64 (i + 1)))))))))))
theorem w8  (m : Nat) (s : Str) (i : Int) (r : aR × Int) (hm : uc m s i = some r) : Ret Tryz.prog 107 ⟨[vS s,vI i]⟩ (.tuple ⟨[.agg ⟨e6 r.1⟩,vI r.2]⟩):=by
 rw [uc] at hm
 refine f_pure (Tryz.call107 _) Tryz.func107 Tryz.ntmps107 fun M X w => (t_starts ?_)
 refine t_m [] [] [0,1] [vS s,vI i] (fun _ _ H hd => o_alloc [vU 0,vN,vI 0,vN,vF] (z:=vG [vU 0,vN,vI 0,vN,vF]) hd (by kernel_rfl) rfl) fun b1 => ?_
 refine t_b 2 [0,1,4] [vS s,vI i,vP b1] [] (t_end ?_)
 obtain ⟨ho6,hm⟩:=chkE hm
 refine t_r [0,1,4,6] [vS s,vI i,vP b1,vU (bat s i)] [kh ho6] (t_seq (t_block ?_))
 refine t_r [0,1,4,6,14] [vS s,vI i,vP b1,vU (bat s i),vB (jO (bat s i))] [kc (qa (bat s i))] ?_
 refine t_im hm (fun hm => ?c90) (fun hm => ?_)
 case c90 =>
  refine t_starts ?_
  obtain ⟨y11,hy11,hm⟩:=bindE hm
  refine t_b 4 [4,17,20] [vP b1,vG [vU 13,vN,vI 0,vN,vF],vI y11] [kc (tC m _ _ _ hy11)] ?_
  refine t_m0 [0] [] [4,20] [vP b1,vI y11] (fun _ _ H13 hd => o_store [vU 13,vN,vI 0,vN,vF] H13 hd rfl rfl (by kernel_rfl) rfl rfl rfl) ?_
  refine t_b 6 [4,5] [vP b1,vI y11] [] (t_end (t_ret ?_))
  obtain rfl:=someE hm
  exact t_n [] (rsav 0 Tryz.underlying135)
 obtain ⟨x18,hx18,hm⟩:=letE hm
 refine t_r [0,1,4,6,21] [vS s,vI i,vP b1,vU (bat s i),vB x18] [] ?_ (he:=by subst hx18; kernel_rfl)
 refine t_i2 hm (fun hm => ?_)
 obtain ⟨ho21,hm⟩:=chkE hm
 obtain ⟨y22,hy22,hm⟩:=bindE hm
 obtain ⟨y23,hy23,hm⟩:=bindE hm
 obtain ⟨x24,hx24,hm⟩:=letE hm
 refine t_r [0,1,4,6,33] [vS s,vI i,vP b1,vU (bat s i),vB x24] [kgh ((decide ((w64 (i + 1)) < (ln s))) = true ∧ ((bat s i) == 35) = true ∧ True) fun hg => (ho21 hg.1 hg.2.1),kgc ((decide ((w64 (i + 1)) < (ln s))) = true ∧ ((bat s i) == 35) = true ∧ True) fun hg => (pc _ _ (bT (hg.1) (bT (hg.2.1) hy22))),kgc ((cond (decide ((w64 (i + 1)) < (ln s))) y22 false) = false ∧ ((bat s i) == 35) = true ∧ True) fun hg => (ke _ _ _ (bF (hg.1) (bT (hg.2.1) hy23)))] ?_ (he:=by subst hx24; kernel_rfl)
 refine t_i2 hm (fun hm => ?_)
 obtain ⟨y27,hy27,hm⟩:=bindE hm
 refine t_r [0,1,4,6,70] [vS s,vI i,vP b1,vU (bat s i),vB y27] [kc (rY _ _ _ hy27)] ?_
 refine t_im hm (fun hm => ?c87) (fun hm => ?_)
 case c87 =>
  refine t_starts ?_
  obtain ⟨y30,hy30,hm⟩:=bindE hm
  refine t_b 5 [4,77,78] [vP b1,.agg ⟨e6 y30.1⟩,vI y30.2] [kc (sK m _ _ _ hy30)] ?_
  refine t_m0 [0] [] [4,78] [vP b1,vI y30.2] (fun _ _ H32 hd => o_store (e6 y30.1) H32 hd rfl rfl (by kernel_rfl) rfl rfl rfl) ?_
  refine t_b 7 [4,5] [vP b1,vI y30.2] [] (t_end (t_ret ?_))
  obtain rfl:=someE hm
  exact t_n [] (rsav 0 Tryz.underlying135)
 obtain ⟨y37,hy37,hm⟩:=bindE hm
 refine t_r [0,1,4,6,79] [vS s,vI i,vP b1,vU (bat s i),vB y37] [kc (pU _ _ _ _ hy37)] ?_
 refine t_i2 hm (fun hm => ?_)
 obtain ⟨y40,hy40,hm⟩:=bindE hm
 refine t_r [0,1,4,6,86] [vS s,vI i,vP b1,vU (bat s i),vB y40] [kc (pU _ _ _ _ hy40)] ?_
 refine t_i2 hm (fun hm => ?_)
 obtain ⟨y43,hy43,hm⟩:=bindE hm
 refine t_r [0,1,4,6,93] [vS s,vI i,vP b1,vU (bat s i),vB (cond ((bat s i) == 64) y43 false)] [kgc (((bat s i) == 64) = true ∧ True) fun hg => (mV _ _ _ (bT (hg.1) hy43))] ?_
 refine t_im hm (fun hm => ?c84) (fun hm => ?_)
 case c84 =>
  obtain ⟨y46,hy46,hm⟩:=bindE hm
  refine t_r [4,9,10] [vP b1,vS y46.1,vI y46.2] [kc (nM m _ _ _ hy46)] (t_starts ?_)
  refine t_b 3 [4,110,111] [vP b1,vG [vU 3,vS y46.1,vI 0,vN,vF],vI y46.2] [] ?_
  refine t_m0 [0] [] [4,111] [vP b1,vI y46.2] (fun _ _ H50 hd => o_store [vU 3,vS y46.1,vI 0,vN,vF] H50 hd rfl rfl (by kernel_rfl) rfl rfl rfl) ?_
  refine t_b 5 [4,5] [vP b1,vI y46.2] [] (t_end (t_ret ?_))
  obtain rfl:=someE hm
  exact t_n [] (rsav 0 Tryz.underlying135)
 obtain ⟨y55,hy55,hm⟩:=bindE hm
 refine t_r [0,1,4,6,112] [vS s,vI i,vP b1,vU (bat s i),vB y55] [kc (mV _ _ _ hy55)] ?_
 refine t_im hm (fun hm => ?c83) (fun hm => ?_)
 case c83 =>
  refine t_starts ?_
  obtain ⟨y58,hy58,hm⟩:=bindE hm
  refine t_b 5 [4,119,120] [vP b1,.agg ⟨e6 y58.1⟩,vI y58.2] [kc (vC m _ _ _ hy58)] ?_
  refine t_m0 [0] [] [4,120] [vP b1,vI y58.2] (fun _ _ H60 hd => o_store (e6 y58.1) H60 hd rfl rfl (by kernel_rfl) rfl rfl rfl) ?_
  refine t_b 7 [4,5] [vP b1,vI y58.2] [] (t_end (t_ret ?_))
  obtain rfl:=someE hm
  exact t_n [] (rsav 0 Tryz.underlying135)
 obtain ⟨y65,hy65,hm⟩:=bindE hm
 refine t_r [0,1,4,6,121] [vS s,vI i,vP b1,vU (bat s i),vB (y65 != 0)] [kc (rx _ _ hy65)] ?_
 refine t_im hm (fun hm => ?c82) (fun hm => ?_)
 case c82 =>
  refine t_starts ?_
  obtain ⟨y68,hy68,hm⟩:=bindE hm
  refine t_b 5 [4,127,129] [vP b1,vG [vU y68,vN,vI 0,vN,vF],vI (w64 (i + 1))] [kc (rx _ _ hy68)] ?_
  refine t_m0 [0] [] [4,129] [vP b1,vI (w64 (i + 1))] (fun _ _ H70 hd => o_store [vU y68,vN,vI 0,vN,vF] H70 hd rfl rfl (by kernel_rfl) rfl rfl rfl) ?_
  refine t_b 7 [4,5] [vP b1,vI (w64 (i + 1))] [] (t_end (t_ret ?_))
  obtain rfl:=someE hm
  exact t_n [] (rsav 0 Tryz.underlying135)
 refine t_skip (t_starts ?_)
 obtain ⟨ho75,hm⟩:=chkE hm
 refine t_b 8 [4,135,137] [vP b1,vG [vU 9,vS (sub s i (w64 (i + 1))),vI 0,vN,vF],vI (w64 (i + 1))] [kh ho75] ?_
 refine t_m0 [0] [] [4,137] [vP b1,vI (w64 (i + 1))] (fun _ _ H77 hd => o_store [vU 9,vS (sub s i (w64 (i + 1))),vI 0,vN,vF] H77 hd rfl rfl (by kernel_rfl) rfl rfl rfl) ?_
 refine t_b 10 [4,5] [vP b1,vI (w64 (i + 1))] [] (t_end (t_ret ?_))
 obtain rfl:=someE hm
 exact t_n [] (rsav 0 Tryz.underlying135)

structure f9 where
  e0 : Int
  e1 : Int
instance : Inhabited f9:=⟨⟨default,default⟩⟩
def lO : Ty f9 where
  z:=2
  enc:=fun x g => [vI x.e0,vI x.e1]
  inn:=fun _ _ _ _ => True
  len:=fun _ _ => rfl
  one:=fun _ _ => rfl
  kp:=fun _ _ _ => trivial
  anti:=fun _ _ => trivial
  fresh:=fun _ => trivial
def nJ (m : Nat) (s : Str) : Nat → (List aR) → (List f9) → Int → Option ((List aR) × (List f9))
  | 0,_,_,_ => none
  | kk + 1,v13,v15,v17 =>
    cond (decide (v17 < (ln s))) (
    Option.bind (uc m s v17) fun y20 =>
    chk (ln v13 + ln ([y20.1] : List aR) ≤ 137438953472) <|
    lt (v13 ++ ([y20.1] : List aR)) fun q37 =>
    chk (ln v15 + ln ([(f9.mk v17 y20.2)] : List f9) ≤ 137438953472) <|
    lt (v15 ++ ([(f9.mk v17 y20.2)] : List f9)) fun q48 =>
    Option.bind (qq m s y20.2) fun y54 =>
    nJ m s kk q37 q48 y54) (
    some (v13,v15))
def rZ (m : Nat) (s : Str) : Option ((List aR) × (List f9)) :=
  Option.bind (
  Option.bind (qq m s 0) fun y8 =>
  nJ m s m ([] : List aR) ([] : List f9) y8) fun (z7 : (List aR) × (List f9)) =>
  some (z7.1,z7.2)
theorem wc  (M : Av) (m : Nat) (s : Str) (r : (List aR) × (List f9)) (hm : rZ m s = some r) (w : World) (hS : S0 M [] w) : Calls Tryz.prog 60 ⟨[vS s]⟩ w (fun e w' => ∃ v,e = .returned v ∧ ∃ (aA : Gh) (cY : Gh),v = vW [vL aA r.1,vL cY r.2] ∧ SH M (fpl []) w [eO 135 bz r.1 aA,eO 186 lO r.2 cY] w'):=by
 rw [rZ] at hm
 have hS0 : SH M (fpl []) w [] w:=hS
 generalize hX : fpl [] = X at hS0 ⊢
 clear hS hX
 have hS:=hS0
 clear hS0
 refine calls_entryP Tryz.func60 rfl Tryz.ntmps60 rfl fun _ H => ?_
 refine t_in H hS ?_
 refine t_r [0] [vS s] [] ?_
 refine t_r [0,4] [vS s,vO] [] ?_
 refine t_r [0,4,5] [vS s,vO,vO] [] ?_
 obtain ⟨z7,hz,hm⟩:=bindE hm
 intro _ _ H6 hS
 refine w_cut (fun a' w' => ∃ (g59 : Gh) (g61 : Gh),Fr 36 (fS [4,5] [vL g59 z7.1,vL g61 z7.2]) a' ∧ SH M X w [eO 135 bz z7.1 g59,eO 186 lO z7.2 g61] w') ?_ ?_
 ·replace hm:=hz
  obtain ⟨y8,hy8,hm⟩:=bindE hm
  refine t_in H6 hS ?_
  refine t_r [0,4,5,6] [vS s,vO,vO,vI y8] [kc (rD m _ _ _ hy8)] (t_block ?_)
  refine t_nil 135 bz ?_
  refine t_nil 186 lO ?_
  intro _ _ H10 hS
  refine w_loop (fun kk a' w' => ∃ (v13 : List aR) (v15 : List f9) (v17 : Int) (g14 : Gh) (g16 : Gh),nJ m s kk v13 v15 v17 = some _ ∧ Fr 36 (fS [0,4,5,6] [vS s,vL g14 v13,vL g16 v15,vI v17]) a' ∧ SH M X w [eO 186 lO v15 g16,eO 135 bz v13 g14] w') ⟨_,([] : List aR),([] : List f9),y8,Gh.nil,Gh.nil,hm,FrG.keep (ks:=[0,4,5,6]) H10 (by kernel_rfl),hS⟩ ?_
  clear hm H10 hS
  rintro kk _ _ ⟨v13,v15,v17,g14,g16,hm,H,hS⟩
  cases kk with
  | zero => exact noneE hm
  | succ kk =>
   rw [nJ] at hm
   refine t_in H hS (t_seq ?_)
   refine t_r [0,4,5,6,14] [vS s,vL g14 v13,vL g16 v15,vI v17,vB (decide (v17 < (ln s)))] [] ?_
   refine t_im hm (fun hm => ?_) (fun hm => ?c57)
   case c57 =>
    refine t_exit ?_
    obtain rfl:=someE hm
    refine t_sel [1,0] ?_
    exact fun _ _ H19 hS => ⟨g14,g16,FrG.keep (ks:=[4,5]) H19 (by kernel_rfl),hS⟩
   refine t_skip (t_block (t_starts ?_))
   obtain ⟨y20,hy20,hm⟩:=bindE hm
   refine t_b 6 [0,4,5,6,19,20] [vS s,vL g14 v13,vL g16 v15,vI v17,.agg ⟨e6 y20.1⟩,vI y20.2] [kc (w8 m _ _ _ hy20)] ?_
   refine t_m [] [0,1] [0,4,5,6,19,20] [vS s,vL g14 v13,vL g16 v15,vI v17,.agg ⟨e6 y20.1⟩,vI y20.2] (fun _ _ H22 hd => o_alloc [vU 0,vN,vI 0,vN,vF] (z:=vG [vU 0,vN,vI 0,vN,vF]) hd (by kernel_rfl) rfl) fun b23 => ?_
   refine t_m0 [0] [1,2] [0,4,5,6,7,20] [vS s,vL g14 v13,vL g16 v15,vI v17,vP b23,vI y20.2] (fun _ _ H25 hd => o_store (e6 y20.1) H25 hd rfl rfl (by kernel_rfl) rfl rfl rfl) ?_
   refine t_b 9 [0,4,5,6,7,8] [vS s,vL g14 v13,vL g16 v15,vI v17,vP b23,vI y20.2] [] (t_end (t_starts ?_))
   refine t_b 2 [0,5,6,8,21,22] [vS s,vL g16 v15,vI v17,vI y20.2,vL g14 v13,.agg ⟨e6 y20.1⟩] [kE 0 5] ?_
   refine t_m [] [0,1,2] [0,5,6,8,21] [vS s,vL g16 v15,vI v17,vI y20.2,vL g14 v13] (fun _ _ H31 hd => o_li (T:=bz) (E:=135) (zv:=vG [vU 0,vN,vI 0,vN,vF]) (e6 y20.1) ([y20.1] : List aR) [gL []] H31 hd rfl (InnL.cons trivial InnL.nil)) fun g32 => ?_
   obtain ⟨ho36,hm⟩:=chkE hm
   obtain ⟨q37,hq37,hm⟩:=letE hm
   refine t_m [3,0] [1,2] [0,5,6,8] [vS s,vL g16 v15,vI v17,vI y20.2] (fun _ _ H35 hd => o_app2 (T:=bz) (zv:=vG [vU 0,vN,vI 0,vN,vF]) (g1:=g14) (g2:=g32) (l1:=v13) (l2:=([y20.1] : List aR)) q37 hq37.symm H35 hd rfl rfl rfl rfl rfl rfl rfl (by kernel_rfl) (by kernel_rfl) rfl rfl ho36) fun g40 => ?_
   refine t_b 8 [0,8,24,25,28] [vS s,vI y20.2,vL g40 q37,vL g16 v15,vG [vI v17,vI y20.2]] [] ?_
   refine t_m [] [0,1,2,3] [0,8,24,25] [vS s,vI y20.2,vL g40 q37,vL g16 v15] (fun _ _ H42 hd => o_li (T:=lO) (E:=186) (zv:=vG [vI 0,vI 0]) [vI v17,vI y20.2] ([(f9.mk v17 y20.2)] : List f9) [gL []] H42 hd rfl (InnL.cons trivial InnL.nil)) fun g43 => ?_
   obtain ⟨ho47,hm⟩:=chkE hm
   obtain ⟨q48,hq48,hm⟩:=letE hm
   refine t_m [4,0] [1,2,3] [0,8,24] [vS s,vI y20.2,vL g40 q37] (fun _ _ H46 hd => o_app2 (T:=lO) (zv:=vG [vI 0,vI 0]) (g1:=g16) (g2:=g43) (l1:=v15) (l2:=([(f9.mk v17 y20.2)] : List f9)) q48 hq48.symm H46 hd rfl rfl rfl rfl rfl rfl rfl (by kernel_rfl) (by kernel_rfl) rfl rfl ho47) fun g51 => ?_
   refine t_b 12 [0,4,5,8] [vS s,vL g40 q37,vL g51 q48,vI y20.2] [] (t_end (t_sel [0,2] ?_))
   obtain ⟨y54,hy54,hm⟩:=bindE hm
   refine t_w [0,4,5,6] [vS s,vL g40 q37,vL g51 q48,vI y54] [kc (rD m _ _ _ hy54)] ?_
   exact fun _ _ H56 hS => ⟨_,Nat.lt_succ_self _,q37,q48,y54,g40,g51,hm,FrG.keep (ks:=[0,4,5,6]) H56 (by kernel_rfl),hS⟩
 ·rintro _ _ ⟨g59,g61,H,hS⟩
  refine t_in H hS ?_
  refine t_r [2,3] [vL g59 z7.1,vL g61 z7.2] [] (t_ret ?_)
  obtain rfl:=someE hm
  exact fun _ _ H64 hS => retR2 H64 rfl rfl rfl ⟨_,rfl,g59,g61,rfl,(hS.sel [0,1] rfl)⟩
theorem w7  (m : Nat) (s : Str) (r : (List aR) × (List f9)) (hm : rZ m s = some r) (M : Av) (w : World) (hS : S0 M [] w) : DoesX Tryz.prog 60 ⟨[vS s]⟩ w (fun v w' => ∃ (aA : Gh) (cY : Gh),v = vW [vL aA r.1,vL cY r.2] ∧ SH M (fpl []) w [eO 135 bz r.1 aA,eO 186 lO r.2 cY] w'):=⟨Tryz.call60 _,wc M m   s r hm w hS⟩

def pY (m : Nat) (s : Str) : Option ((List aR) × Int) :=
  Option.bind (qL m s) fun y3 =>
  cond (y3.2 != 0) (
  none) (
  Option.bind (rZ m y3.1) fun y10 =>
  cond (decide (1500 < (ln y10.1))) (
  none) (
  some (y10.1,0)))
theorem t6  (m : Nat) (s : Str) (r : (List aR) × Int) (hm : pY m s = some r) : DoesM Tryz.prog 41 ⟨[vS s]⟩ [] (fun (aA : Gh) => vW [vL aA r.1,vI r.2]) (fun aA => [eO 135 bz r.1 aA]):=by
 rw [pY] at hm
 refine f_mem (Tryz.call41 _) Tryz.func41 Tryz.ntmps41 fun M X w => ?_
 refine t_r [0] [vS s] [] ?_
 obtain ⟨y3,hy3,hm⟩:=bindE hm
 refine t_r [4,5] [vS y3.1,vI y3.2] [kc (um m _ _ hy3)] (t_seq ?_)
 refine t_r [4,5,14] [vS y3.1,vI y3.2,vB (y3.2 != 0)] [] ?_
 refine t_i2 hm (fun hm => ?_)
 refine t_skip (t_starts ?_)
 refine t_b 1 [17] [vS y3.1] [] ?_
 obtain ⟨y10,hy10,hm⟩:=bindE hm
 intro _ _ H9 hS
 have hd:=hS.hand [] [] rfl rfl
 refine m_stp [18] [] H9 rfl rfl rfl rfl (o_callx H9 rfl rfl (w7 m _ _ hy10 _ _ hd)) (fun _ => rfl) fun _ _ v H16 hq => ?_
 obtain ⟨g11,g13,rfl,hq⟩:=hq
 replace hS:=hS.join [] [] rfl rfl hq
 refine t_in H16 hS ?_
 refine t_b 7 [6] [vL g11 y10.1] [] (t_end (t_sel [0] (t_seq ?_)))
 refine t_r [6,23] [vL g11 y10.1,vB (decide (1500 < (ln y10.1)))] [] ?_
 refine t_i2 hm (fun hm => ?_)
 refine t_skip ?_
 refine t_r [2,3] [vL g11 y10.1,vI 0] [] (t_ret ?_)
 obtain rfl:=someE hm
 exact t_g g11 [0] rs2

def jY (kind : Int) : Option (Int) :=
  cond (kind == 19) (
  none) (
  Option.bind (
  cond (kind == 21) (
  some (kind == 21)) (
  some (kind == 2))) fun (z7 : Bool) =>
  cond z7 (
  some 22) (
  cond (kind == 23) (
  some 24) (
  some 0)))
theorem kP  (kind : Int) (r : Int) (hm : jY kind = some r) : Ret Tryz.prog 109 ⟨[vU kind]⟩ (vU r):=by
 rw [jY] at hm
 refine f_pure (Tryz.call109 _) Tryz.func109 Tryz.ntmps109 fun M X w => ?_
 refine t_r [0] [vU kind] [] (t_seq ?_)
 refine t_r [3] [vU kind] [] (t_block ?_)
 refine t_r [3,4] [vU kind,vB (kind == 19)] [] ?_
 refine t_i2 hm (fun hm => ?_)
 obtain ⟨z7,hz,hm⟩:=bindE hm
 refine t_cut [3,6] [vU kind,vB z7] [] ?_ ?_
 ·replace hm:=hz
  refine t_r [3,6] [vU kind,vB (kind == 21)] [] ?_
  refine t_im hm (fun hm => ?c12) (fun hm => ?_)
  case c12 =>
   refine t_skip ?_
   obtain rfl:=someE hm
   exact t_e [3,6]
  refine t_w [3,6] [vU kind,vB (kind == 2)] [] ?_
  obtain rfl:=someE hm
  exact t_e [3,6]
 ·refine t_if (fun hc => ?c22) (fun hc => ?_)
  case c22 =>
   replace hm:=bT hc hm
   refine t_r [2] [vU 22] [] (t_ret ?_)
   obtain rfl:=someE hm
   exact t_n [] rs1
  replace hm:=bF hc hm
  refine t_r [9] [vB (kind == 23)] [] ?_
  refine t_im hm (fun hm => ?c21) (fun hm => ?_)
  case c21 =>
   refine t_r [2] [vU 24] [] (t_ret ?_)
   obtain rfl:=someE hm
   exact t_n [] rs1
  refine t_skip ?_
  refine t_r [2] [vU 0] [] (t_ret ?_)
  obtain rfl:=someE hm
  exact t_n [] rs1

inductive ae where
  | mk (ax : aR) (a8 : List ae)
def ae.ax : ae → aR
  | .mk x _ => x
def ae.a8 : ae → List ae
  | .mk _ x => x
instance : Inhabited ae:=⟨.mk default default⟩
def pt (x : ae) (g : Nat → Gh) : List Value:=[vU x.ax.aj,vS x.ax.ei,vI x.ax.Num,vS x.ax.Unit,vB x.ax.l3,.slice (g 0).a x.a8.length (g 0).c]
def e0 (x : ae) (g : Nat → Gh) : List Value:=pt x g
inductive f3 (M : Av) (w : World) : ae → (Nat → Gh) → Prop
  | mk (x : ae) (g : Nat → Gh) (h0 : SlC 6 pt M w x.a8 (g 0)) (h1 : ∀ i (h : i < x.a8.length),f3 M w x.a8[i] ((g 0).s i)) : f3 M w x g
theorem tR {M : Av} {w w' : World} {X : List Nat} {x : ae} {g : Nat → Gh} (h : f3 M w x g) (k : Kp X w w') (hX : ∀ b ∈ X,M b) : f3 M w' x g:=by
  induction h with
  | mk x g h0 _h1 ih1 => exact .mk x g (h0.kp k hX) ih1
theorem rM {M M' : Av} {w : World} {x : ae} {g : Nat → Gh} (h : f3 M w x g) (hM : ∀ b,M' b → M b) : f3 M' w x g:=by
  induction h with
  | mk x g h0 _h1 ih1 => exact .mk x g (h0.anti hM) ih1
theorem ri {M : Av} {w : World} {x : ae} {g : Nat → Gh} (h : f3 M w x g) : f3 (fun b => M b ∨ w.heap.size ≤ b) w x g:=by
  induction h with
  | mk x g h0 _h1 ih1 => exact .mk x g (h0.fresh) ih1
def a6 : Ty ae where
  z:=6
  enc:=pt
  inn:=f3
  len:=fun _ _ => rfl
  one:=fun _ _ => rfl
  kp:=fun h k hX => tR h k hX
  anti:=fun h hM => rM h hM
  fresh:=fun h => ri h
theorem dX {M : Av} {w : World} {x : ae} {g : Nat → Gh} (h : a6.inn M w x g) : SlG a6 M w x.a8 (g 0):=by
  have h : f3 M w x g:=h
  cases h with
  | mk _ _ h0 h1 => exact ⟨h0,h1⟩
theorem nB {M : Av} {w : World} {x : ae} {g : Nat → Gh} (k0 : SlG a6 M w x.a8 (g 0)) : a6.inn M w x g:=(f3.mk x g k0.1 k0.2 : f3 M w x g)
def uR (gf : (List aR) → Int → Int → Int → Option ((List ae) × Int)) : Prop:=∀ (aa : Gh) (M : Av) (l_ : List aR) (i : Int) (bo : Int) (left : Int) (r : (List ae) × Int),gf l_ i bo left = some r → ∀ w,S0 M [eI bz l_ aa] w → Calls Tryz.prog 108 ⟨[vL aa l_,vI i,vU bo,vI left]⟩ w (fun e w' => ∃ v,e = .returned v ∧ ∃ (aA : Gh),v = vW [vL aA r.1,vI r.2] ∧ SH M (fpl [eI bz l_ aa]) w [eO 137 a6 r.1 aA] w')
def kw (m : Nat) (l_ : List aR) (bo : Int) (left : Int) (oh : (List aR) → Int → Int → Int → Option ((List ae) × Int)) : Nat → Int → (List ae) → Option (Int × (List ae))
  | 0,_,_ => none
  | kk + 1,v7,v8 =>
    chk ((bo == 0) = false → (decide (v7 < (ln l_))) = true → 0 ≤ v7 ∧ v7 < ln l_) <|
    lt (cond (decide (v7 < (ln l_))) (cond (bo == 0) true (((gi l_ v7).aj) != bo)) false) fun x11 =>
    cond x11 (
    chk (0 ≤ v7 ∧ v7 < ln l_) <|
    Option.bind (
    Option.bind (jY ((gi l_ v7).aj)) fun y25 =>
    cond (y25 != 0) (
    cond (left == 0) (
    none) (
    Option.bind (oh l_ (w64 (v7 + 1)) y25 (w64 (left - 1))) fun y34 =>
    cond (decide (y34.2 < 0)) (
    none) (
    some (y34.2,y34.1)))) (
    some (w64 (v7 + 1),([] : List ae)))) fun (z24 : Int × (List ae)) =>
    chk (ln v8 + ln ([(ae.mk (gi l_ v7) z24.2)] : List ae) ≤ 137438953472) <|
    lt (v8 ++ ([(ae.mk (gi l_ v7) z24.2)] : List ae)) fun q60 =>
    kw m l_ bo left oh kk z24.1 q60) (
    some (v7,v8))
def jo (m : Nat) : Nat → (List aR) → Int → Int → Int → Option ((List ae) × Int)
  | 0,_,_,_,_ => none
  | k + 1,l_,i,bo,left =>
    Option.bind (
    kw m l_ bo left (jo m k) m i ([] : List ae)) fun (z5 : Int × (List ae)) =>
    lt (if w64 (z5.1 + 1) < ln l_ then w64 (z5.1 + 1) else ln l_) fun x71 =>
    some (z5.2,x71)
theorem ui (m : Nat) : ∀ (k : Nat),uR (jo m  k):=by
 intro k
 induction k with
 | zero => intro aa M l_ i bo left r hm; exact noneE hm
 | succ k ih =>
  intro aa M l_ i bo left r hm w hS
  rw [jo] at hm
  have hS0 : SH M (fpl [eI bz l_ aa]) w [eI bz l_ aa] w:=hS
  generalize hX : fpl [eI bz l_ aa] = X at hS0 ⊢
  clear hS hX
  have hS:=hS0
  clear hS0
  refine calls_entryP Tryz.func108 rfl Tryz.ntmps108 rfl fun _ H => ?_
  refine t_in H hS ?_
  refine t_r [0,1,2,3] [vL aa l_,vI i,vU bo,vI left] [] ?_
  refine t_r [0,1,2,3,10] [vL aa l_,vI i,vU bo,vI left,vO] [] ?_
  obtain ⟨z5,hz,hm⟩:=bindE hm
  refine t_cutg [0,1,10] (fun (g69 : Gh) => [vL aa l_,vI z5.1,vL g69 z5.2]) (fun g69 => [eO 137 a6 z5.2 g69,eI bz l_ aa]) ?_ ?_
  ·replace hm:=hz
   refine t_block ?_
   refine t_nil 137 a6 ?_
   intro _ _ H4 hS
   refine w_loop (fun kk a' w' => ∃ (v7 : Int) (v8 : List ae) (g9 : Gh),kw m l_ bo left (jo m k) kk v7 v8 = some _ ∧ Fr 67 (fS [0,2,3,1,10] [vL aa l_,vU bo,vI left,vI v7,vL g9 v8]) a' ∧ SH M X w [eO 137 a6 v8 g9,eI bz l_ aa] w') ⟨_,i,([] : List ae),Gh.nil,hm,FrG.keep (ks:=[0,2,3,1,10]) H4 (by kernel_rfl),hS⟩ ?_
   clear hm H4 hS
   rintro kk _ _ ⟨v7,v8,g9,hm,H,hS⟩
   cases kk with
   | zero => exact noneE hm
   | succ kk =>
    rw [kw] at hm
    refine t_in H hS (t_seq ?_)
    obtain ⟨ho10,hm⟩:=chkE hm
    obtain ⟨x11,hx11,hm⟩:=letE hm
    refine t_r [0,1,2,3,10,29] [vL aa l_,vI v7,vU bo,vI left,vL g9 v8,vB x11] [kgi ((bo == 0) = false ∧ (decide (v7 < (ln l_))) = true ∧ True) 1 fun hg => (ho10 hg.1 hg.2.1),kgj ((bo == 0) = false ∧ (decide (v7 < (ln l_))) = true ∧ True) 1 0 fun hg => (ho10 hg.1 hg.2.1)] ?_ (he:=by subst hx11; kernel_rfl)
    refine t_im hm (fun hm => ?_) (fun hm => ?c67)
    case c67 =>
     refine t_exit ?_
     obtain rfl:=someE hm
     exact t_eg g9 [0,1,10]
    refine t_skip (t_block (t_starts ?_))
    obtain ⟨ho14,hm⟩:=chkE hm
    refine t_b 5 [0,1,2,3,10,34] [vL aa l_,vI v7,vU bo,vI left,vL g9 v8,vG [vU ((gi l_ v7).aj),vS (gi l_ v7).ei,vI ((gi l_ v7).Num),vS (gi l_ v7).Unit,vB ((gi l_ v7).l3),vO]] [ki 1 ho14,⟨some (.agg ⟨e6 (gi l_ v7)⟩),fun wz => V.atN (ab aa.a) (ao aa.a + (v7).toNat * 5) (e6 (gi l_ v7)) 0 wz,fun _ hS => ((hS.im 1 rfl).atA ho14 0 rfl)⟩] ?_
    refine t_m [] [0,1] [0,1,2,3,10,34] [vL aa l_,vI v7,vU bo,vI left,vL g9 v8,vG [vU ((gi l_ v7).aj),vS (gi l_ v7).ei,vI ((gi l_ v7).Num),vS (gi l_ v7).Unit,vB ((gi l_ v7).l3),vO]] (fun _ _ H16 hd => o_alloc [vU 0,vN,vI 0,vN,vF,vO] (z:=vG [vU 0,vN,vI 0,vN,vF,vO]) hd (by kernel_rfl) rfl) fun b17 => ?_
    refine t_m0 [0] [1,2] [0,1,2,3,10,11] [vL aa l_,vI v7,vU bo,vI left,vL g9 v8,vP b17] (fun _ _ H19 hd => o_store [vU ((gi l_ v7).aj),vS (gi l_ v7).ei,vI ((gi l_ v7).Num),vS (gi l_ v7).Unit,vB ((gi l_ v7).l3),vO] H19 hd rfl rfl (by kernel_rfl) rfl rfl rfl) (t_end ?_)
    refine t_r [0,1,2,3,10,11] [vL aa l_,vI (w64 (v7 + 1)),vU bo,vI left,vL g9 v8,vP b17] [] ?_
    obtain ⟨z24,hz,hm⟩:=bindE hm
    refine t_cutg [0,2,3,10,11,1] (fun (g51 : Gh) => [vL aa l_,vU bo,vI left,vL g9 v8,vP b17,vI z24.1]) (fun g51 => [eO 137 a6 z24.2 g51,eB b17 [vU ((gi l_ v7).aj),vS (gi l_ v7).ei,vI ((gi l_ v7).Num),vS (gi l_ v7).Unit,vB ((gi l_ v7).l3),vL g51 z24.2],eO 137 a6 v8 g9,eI bz l_ aa]) ?_ ?_
    ·replace hm:=hz
     obtain ⟨y25,hy25,hm⟩:=bindE hm
     refine t_r [0,1,2,3,10,11,12] [vL aa l_,vI (w64 (v7 + 1)),vU bo,vI left,vL g9 v8,vP b17,vU y25] [kb 0 0,kc (kP _ _ hy25)] ?_
     refine t_r [0,1,2,3,10,11,12,42] [vL aa l_,vI (w64 (v7 + 1)),vU bo,vI left,vL g9 v8,vP b17,vU y25,vB (y25 != 0)] [] ?_
     refine t_im hm (fun hm => ?_) (fun hm => ?c50)
     case c50 =>
      refine t_skip ?_
      obtain rfl:=someE hm
      refine t_nil 137 a6 ?_
      exact t_eg Gh.nil [0,2,3,10,11,1]
     refine t_seq ?_
     refine t_r [0,1,2,3,10,11,12,44] [vL aa l_,vI (w64 (v7 + 1)),vU bo,vI left,vL g9 v8,vP b17,vU y25,vB (left == 0)] [] ?_
     refine t_i2 hm (fun hm => ?_)
     refine t_skip (t_starts ?_)
     refine t_b 5 [0,2,3,10,11,46,47,48,50] [vL aa l_,vU bo,vI left,vL g9 v8,vP b17,vL aa l_,vI (w64 (v7 + 1)),vU y25,vI (w64 (left - 1))] [] ?_
     obtain ⟨y34,hy34,hm⟩:=bindE hm
     refine t_m [2] [0,1,2] [0,2,3,10,11] [vL aa l_,vU bo,vI left,vL g9 v8,vP b17] (fun _ _ H33 hd => o_callx H33 rfl rfl (⟨Tryz.call108 _,ih (aa) _ _ _ _ _ _ hy34 _ hd⟩ : DoesX _ _ _ _ _)) fun g35 => ?_
     refine t_b 10 [0,2,3,10,11,52,53,54] [vL aa l_,vU bo,vI left,vL g9 v8,vP b17,vL g35 y34.1,vI y34.2,vA b17 5] [] ?_
     refine t_m0 [1] [0,2,3] [0,2,3,10,11,53] [vL aa l_,vU bo,vI left,vL g9 v8,vP b17,vI y34.2] (fun _ _ H40 hd => o_store [vU ((gi l_ v7).aj),vS (gi l_ v7).ei,vI ((gi l_ v7).Num),vS (gi l_ v7).Unit,vB ((gi l_ v7).l3),vL g35 y34.1] H40 hd rfl rfl (by kernel_rfl) rfl rfl rfl) ?_
     refine t_b 12 [0,1,2,3,10,11] [vL aa l_,vI y34.2,vU bo,vI left,vL g9 v8,vP b17] [] (t_end ?_)
     refine t_r [0,1,2,3,10,11,56] [vL aa l_,vI y34.2,vU bo,vI left,vL g9 v8,vP b17,vB (decide (y34.2 < 0))] [] ?_
     refine t_i2 hm (fun hm => ?_)
     refine t_skip ?_
     obtain rfl:=someE hm
     refine t_sel [1,0,2,3] ?_
     exact t_eg g35 [0,2,3,10,11,1]
    ·intro g51
     refine t_start ?_
     refine t_b 2 [0,1,2,3,57,58] [vL aa l_,vI z24.1,vU bo,vI left,vL g9 v8,vG [vU ((gi l_ v7).aj),vS (gi l_ v7).ei,vI ((gi l_ v7).Num),vS (gi l_ v7).Unit,vB ((gi l_ v7).l3),vL g51 z24.2]] [kE 1 6] ?_
     refine t_frz [0,1,2,3] ?_
     refine t_m [0] [0,1,2,3] [0,1,2,3,57] [vL aa l_,vI z24.1,vU bo,vI left,vL g9 v8] (fun _ _ H54 hd => o_li (T:=a6) (E:=137) (zv:=vG [vU 0,vN,vI 0,vN,vF,vO]) [vU ((gi l_ v7).aj),vS (gi l_ v7).ei,vI ((gi l_ v7).Num),vS (gi l_ v7).Unit,vB ((gi l_ v7).l3),vL g51 z24.2] ([(ae.mk (gi l_ v7) z24.2)] : List ae) [gL [g51]] H54 hd rfl (InnL.cons (nB (hd.im 0 rfl)) InnL.nil)) fun g55 => ?_
     obtain ⟨ho59,hm⟩:=chkE hm
     obtain ⟨q60,hq60,hm⟩:=letE hm
     refine t_m [3,0] [1,2,4] [0,1,2,3] [vL aa l_,vI z24.1,vU bo,vI left] (fun _ _ H58 hd => o_app2 (T:=a6) (zv:=vG [vU 0,vN,vI 0,vN,vF,vO]) (g1:=g9) (g2:=g55) (l1:=v8) (l2:=([(ae.mk (gi l_ v7) z24.2)] : List ae)) q60 hq60.symm H58 hd rfl rfl rfl rfl rfl rfl rfl (by kernel_rfl) (by kernel_rfl) rfl rfl ho59) fun g63 => ?_
     refine t_b 5 [0,1,2,3,10] [vL aa l_,vI z24.1,vU bo,vI left,vL g63 q60] [] (t_end (t_sel [0,4] ?_))
     exact fun _ _ H65 hS => ⟨_,Nat.lt_succ_self _,z24.1,q60,g63,hm,FrG.keep (ks:=[0,2,3,1,10]) H65 (by kernel_rfl),hS⟩
  ·intro g69
   obtain ⟨x71,hx71,hm⟩:=letE hm
   refine t_r [8,9] [vL g69 z5.2,vI x71] [] ?_ (he:=by subst hx71; kernel_rfl)
   refine t_sel [0] (t_ret ?_)
   obtain rfl:=someE hm
   exact t_g g69 [0] rs2
def sd (m : Nat) (l_ : List aR) (i : Int) (bo : Int) (left : Int) : Option ((List ae) × Int):=jo m  m l_ i bo left
theorem tQ {aa : Gh} (m : Nat) (l_ : List aR) (i : Int) (bo : Int) (left : Int) (r : (List ae) × Int) (hm : sd m l_ i bo left = some r) (M : Av) (w : World) (hS : S0 M [eI bz l_ aa] w) : DoesX Tryz.prog 108 ⟨[vL aa l_,vI i,vU bo,vI left]⟩ w (fun v w' => ∃ (aA : Gh),v = vW [vL aA r.1,vI r.2] ∧ SH M (fpl [eI bz l_ aa]) w [eO 137 a6 r.1 aA] w'):=⟨Tryz.call108 _,ui m   m aa M l_ i bo left r hm w hS⟩

def pQ (m : Nat) (l_ : List aR) : Option ((List ae) × Bool) :=
  Option.bind (sd m l_ 0 0 16) fun y5 =>
  some (y5.1,decide (0 ≤ y5.2))
theorem tr {aa : Gh} (m : Nat) (l_ : List aR) (r : (List ae) × Bool) (hm : pQ m l_ = some r) : DoesM Tryz.prog 61 ⟨[vL aa l_]⟩ [eI bz l_ aa] (fun (aA : Gh) => vW [vL aA r.1,vB r.2]) (fun aA => [eO 137 a6 r.1 aA]):=by
 rw [pQ] at hm
 refine f_mem (Tryz.call61 _) Tryz.func61 Tryz.ntmps61 fun M X w => ?_
 refine t_r [0] [vL aa l_] [] (t_starts ?_)
 refine t_b 1 [7] [vL aa l_] [] ?_
 obtain ⟨y5,hy5,hm⟩:=bindE hm
 refine t_c [0] [0] [] [] (tQ (aa:=aa) m _ _ _ _ _ hy5) fun g6 => ?_
 refine t_b 7 [4,5] [vL g6 y5.1,vI y5.2] [] (t_end (t_sel [0] ?_))
 refine t_r [2,3] [vL g6 y5.1,vB (decide (0 ≤ y5.2))] [] (t_ret ?_)
 obtain rfl:=someE hm
 exact t_g g6 [0] rs2

def uN (gf : (List ae) → Option (List aR)) : Prop:=∀ (af : Gh) (M : Av) (v_ : List ae) (r : List aR),gf v_ = some r → ∀ w,S0 M [eI a6 v_ af] w → Calls Tryz.prog 62 ⟨[vL af v_]⟩ w (fun e w' => ∃ v,e = .returned v ∧ ∃ (aA : Gh),v = vL aA r ∧ SH M (fpl [eI a6 v_ af]) w [eO 135 bz r aA] w')
def km (m : Nat) (v_ : List ae) (oG : (List ae) → Option (List aR)) : Nat → (List aR) → Int → Option (List aR)
  | 0,_,_ => none
  | kk + 1,v9,v11 =>
    cond (decide (v11 < (ln v_))) (
    Option.bind (
    chk (0 ≤ v11 ∧ v11 < ln v_) <|
    chk (ln v9 + ln ([(gi v_ v11).ax] : List aR) ≤ 137438953472) <|
    lt (v9 ++ ([(gi v_ v11).ax] : List aR)) fun q23 =>
    Option.bind (jY ((gi v_ v11).ax.aj)) fun y29 =>
    cond (y29 != 0) (
    Option.bind (oG ((gi v_ v11).a8)) fun y37 =>
    chk (ln q23 + ln y37 ≤ 137438953472) <|
    lt (q23 ++ y37) fun q43 =>
    chk (ln q43 + ln ([(aR.mk y29 [] 0 [] false)] : List aR) ≤ 137438953472) <|
    lt (q43 ++ ([(aR.mk y29 [] 0 [] false)] : List aR)) fun q56 =>
    some q56) (
    some q23)) fun (z14 : List aR) =>
    km m v_ oG kk z14 (w64 (v11 + 1))) (
    some v9)
def jm (m : Nat) : Nat → (List ae) → Option (List aR)
  | 0,_ => none
  | k + 1,v_ =>
    Option.bind (
    km m v_ (jm m k) m ([] : List aR) 0) fun (z5 : List aR) =>
    some z5
theorem uB (m : Nat) : ∀ (k : Nat),uN (jm m  k):=by
 intro k
 induction k with
 | zero => intro af M v_ r hm; exact noneE hm
 | succ k ih =>
  intro af M v_ r hm w hS
  rw [jm] at hm
  have hS0 : SH M (fpl [eI a6 v_ af]) w [eI a6 v_ af] w:=hS
  generalize hX : fpl [eI a6 v_ af] = X at hS0 ⊢
  clear hS hX
  have hS:=hS0
  clear hS0
  refine calls_entryP Tryz.func62 rfl Tryz.ntmps62 rfl fun _ H => ?_
  refine t_in H hS ?_
  refine t_r [0] [vL af v_] [] ?_
  refine t_r [0,3] [vL af v_,vO] [] ?_
  obtain ⟨z5,hz,hm⟩:=bindE hm
  refine t_cutg [3] (fun (g69 : Gh) => [vL g69 z5]) (fun g69 => [eO 135 bz z5 g69,eI a6 v_ af]) ?_ ?_
  ·replace hm:=hz
   refine t_r [0,3,4] [vL af v_,vO,vI 0] [] (t_block ?_)
   refine t_nil 135 bz ?_
   intro _ _ H7 hS
   refine w_loop (fun kk a' w' => ∃ (v9 : List aR) (v11 : Int) (g10 : Gh),km m v_ (jm m k) kk v9 v11 = some _ ∧ Fr 43 (fS [0,3,4] [vL af v_,vL g10 v9,vI v11]) a' ∧ SH M X w [eO 135 bz v9 g10,eI a6 v_ af] w') ⟨_,([] : List aR),0,Gh.nil,hm,FrG.keep (ks:=[0,3,4]) H7 (by kernel_rfl),hS⟩ ?_
   clear hm H7 hS
   rintro kk _ _ ⟨v9,v11,g10,hm,H,hS⟩
   cases kk with
   | zero => exact noneE hm
   | succ kk =>
    rw [km] at hm
    refine t_in H hS (t_seq ?_)
    refine t_r [0,3,4,9] [vL af v_,vL g10 v9,vI v11,vB (decide (v11 < (ln v_)))] [] ?_
    refine t_im hm (fun hm => ?_) (fun hm => ?c67)
    case c67 =>
     refine t_exit ?_
     obtain rfl:=someE hm
     exact t_eg g10 [3]
    refine t_skip ?_
    obtain ⟨z14,hz,hm⟩:=bindE hm
    refine t_cutg [0,4,3] (fun (g63 : Gh) => [vL af v_,vI v11,vL g63 z14]) (fun g63 => [eO 135 bz z14 g63,eI a6 v_ af]) ?_ ?_
    ·replace hm:=hz
     refine t_block (t_starts ?_)
     obtain ⟨ho15,hm⟩:=chkE hm
     refine t_b 6 [0,4,12,17] [vL af v_,vI v11,vL g10 v9,.agg ⟨e6 ((gi v_ v11).ax)⟩] [ki 1 ho15,⟨some (.agg ⟨e6 ((gi v_ v11).ax)⟩),fun wz => V.atN (ab af.a) (ao af.a + (v11).toNat * 6) (e6 ((gi v_ v11).ax)) 0 wz,fun _ hS => ((hS.im 1 rfl).atA ho15 0 rfl)⟩] ?_
     refine t_m [] [0,1] [0,4,12] [vL af v_,vI v11,vL g10 v9] (fun _ _ H17 hd => o_li (T:=bz) (E:=135) (zv:=vG [vU 0,vN,vI 0,vN,vF]) (e6 ((gi v_ v11).ax)) ([(gi v_ v11).ax] : List aR) [gL []] H17 hd rfl (InnL.cons trivial InnL.nil)) fun g18 => ?_
     obtain ⟨ho22,hm⟩:=chkE hm
     obtain ⟨q23,hq23,hm⟩:=letE hm
     refine t_m [1,0] [2] [0,4] [vL af v_,vI v11] (fun _ _ H21 hd => o_app2 (T:=bz) (zv:=vG [vU 0,vN,vI 0,vN,vF]) (g1:=g10) (g2:=g18) (l1:=v9) (l2:=([(gi v_ v11).ax] : List aR)) q23 hq23.symm H21 hd rfl rfl rfl rfl rfl rfl rfl (by kernel_rfl) (by kernel_rfl) rfl rfl ho22) fun g26 => ?_
     refine t_b 9 [0,3,4] [vL af v_,vL g26 q23,vI v11] [] (t_end (t_sel [0,2] ?_))
     obtain ⟨y29,hy29,hm⟩:=bindE hm
     refine t_r [0,3,4,5] [vL af v_,vL g26 q23,vI v11,vU y29] [ki 1 ho15,kj 1 0 ho15,kc (kP _ _ hy29)] ?_
     refine t_r [0,3,4,5,28] [vL af v_,vL g26 q23,vI v11,vU y29,vB (y29 != 0)] [] ?_
     refine t_im hm (fun hm => ?_) (fun hm => ?c62)
     case c62 =>
      refine t_skip ?_
      obtain rfl:=someE hm
      exact t_eg g26 [0,4,3]
     refine t_starts ?_
     refine t_b 6 [0,4,5,29,34] [vL af v_,vI v11,vU y29,vL g26 q23,.slice (af.s (v11).toNat 0).a (((gi v_ v11).a8).length) (af.s (v11).toNat 0).c] [ki 1 ho15,kj 1 5 ho15] ?_
     intro _ _ H35 hS
     replace hS:=hS.addIm (dX ((hS.im 1 rfl).el ho15))
     obtain ⟨y37,hy37,hm⟩:=bindE hm
     refine t_in H35 hS ?_
     refine t_m [0] [0,1,2] [0,4,5,29] [vL af v_,vI v11,vU y29,vL g26 q23] (fun _ _ H35 hd => o_callx H35 rfl rfl (⟨Tryz.call62 _,ih ((af.s (v11).toNat 0)) _ _ _ hy37 _ hd⟩ : DoesX _ _ _ _ _)) fun g38 => ?_
     obtain ⟨ho42,hm⟩:=chkE hm
     obtain ⟨q43,hq43,hm⟩:=letE hm
     refine t_m [2,0] [1,3] [0,4,5] [vL af v_,vI v11,vU y29] (fun _ _ H41 hd => o_app2 (T:=bz) (zv:=vG [vU 0,vN,vI 0,vN,vF]) (g1:=g26) (g2:=g38) (l1:=q23) (l2:=y37) q43 hq43.symm H41 hd rfl rfl rfl rfl rfl rfl rfl (by kernel_rfl) (by kernel_rfl) rfl rfl ho42) fun g46 => ?_
     refine t_b 9 [0,3,4,5] [vL af v_,vL g46 q43,vI v11,vU y29] [] (t_end (t_sel [0,3] (t_start ?_)))
     refine t_b 3 [0,4,37,39] [vL af v_,vI v11,vL g46 q43,vG [vU y29,vN,vI 0,vN,vF]] [] ?_
     refine t_m [] [0,1] [0,4,37] [vL af v_,vI v11,vL g46 q43] (fun _ _ H50 hd => o_li (T:=bz) (E:=135) (zv:=vG [vU 0,vN,vI 0,vN,vF]) [vU y29,vN,vI 0,vN,vF] ([(aR.mk y29 [] 0 [] false)] : List aR) [gL []] H50 hd rfl (InnL.cons trivial InnL.nil)) fun g51 => ?_
     obtain ⟨ho55,hm⟩:=chkE hm
     obtain ⟨q56,hq56,hm⟩:=letE hm
     refine t_m [1,0] [2] [0,4] [vL af v_,vI v11] (fun _ _ H54 hd => o_app2 (T:=bz) (zv:=vG [vU 0,vN,vI 0,vN,vF]) (g1:=g46) (g2:=g51) (l1:=q43) (l2:=([(aR.mk y29 [] 0 [] false)] : List aR)) q56 hq56.symm H54 hd rfl rfl rfl rfl rfl rfl rfl (by kernel_rfl) (by kernel_rfl) rfl rfl ho55) fun g59 => ?_
     refine t_b 6 [0,3,4] [vL af v_,vL g59 q56,vI v11] [] (t_end (t_sel [0,2] ?_))
     obtain rfl:=someE hm
     exact t_eg g59 [0,4,3]
    ·intro g63
     refine t_w [0,3,4] [vL af v_,vL g63 z14,vI (w64 (v11 + 1))] [] ?_
     exact fun _ _ H65 hS => ⟨_,Nat.lt_succ_self _,z14,w64 (v11 + 1),g63,hm,FrG.keep (ks:=[0,3,4]) H65 (by kernel_rfl),hS⟩
  ·intro g69
   refine t_sel [0] ?_
   refine t_r [2] [vL g69 z5] [] (t_ret ?_)
   obtain rfl:=someE hm
   exact t_g g69 [0] rs1
def nq (m : Nat) (v_ : List ae) : Option (List aR):=jm m  m v_
theorem n5 {af : Gh} (m : Nat) (v_ : List ae) (r : List aR) (hm : nq m v_ = some r) (M : Av) (w : World) (hS : S0 M [eI a6 v_ af] w) : DoesX Tryz.prog 62 ⟨[vL af v_]⟩ w (fun v w' => ∃ (aA : Gh),v = vL aA r ∧ SH M (fpl [eI a6 v_ af]) w [eO 135 bz r aA] w'):=⟨Tryz.call62 _,uB m   m af M v_ r hm w hS⟩

def qK (m : Nat) (l_ : List aR) : Option ((List ae) × Int) :=
  cond (decide (1500 < (ln l_))) (
  none) (
  Option.bind (pQ m l_) fun y7 =>
  cond (!y7.2) (
  none) (
  Option.bind (nq m y7.1) fun y18 =>
  cond (decide (1500 < (ln y18))) (
  none) (
  some (y7.1,0))))
theorem uL {aa : Gh} (m : Nat) (l_ : List aR) (r : (List ae) × Int) (hm : qK m l_ = some r) : DoesM Tryz.prog 42 ⟨[vL aa l_]⟩ [eI bz l_ aa] (fun (aA : Gh) => vW [vL aA r.1,vI r.2]) (fun aA => [eO 137 a6 r.1 aA]):=by
 rw [qK] at hm
 refine f_mem (Tryz.call42 _) Tryz.func42 Tryz.ntmps42 fun M X w => ?_
 refine t_r [0] [vL aa l_] [] (t_seq ?_)
 refine t_r [0,8] [vL aa l_,vB (decide (1500 < (ln l_)))] [] ?_
 refine t_i2 hm (fun hm => ?_)
 refine t_skip (t_starts ?_)
 refine t_b 1 [10] [vL aa l_] [] ?_
 obtain ⟨y7,hy7,hm⟩:=bindE hm
 refine t_c [0] [0] [] [] (tr (aa:=aa) m _ _ hy7) fun g8 => ?_
 refine t_b 7 [4,5] [vL g8 y7.1,vB y7.2] [] (t_end (t_sel [0] (t_seq ?_)))
 refine t_r [4,15] [vL g8 y7.1,vB (!y7.2)] [] ?_
 refine t_i2 hm (fun hm => ?_)
 refine t_skip (t_seq (t_starts ?_))
 refine t_b 1 [4,16] [vL g8 y7.1,vL g8 y7.1] [] ?_
 obtain ⟨y18,hy18,hm⟩:=bindE hm
 refine t_sel [0] ?_
 intro _ _ H17 hS
 have hd:=SH.lendH hS
 refine m_stp [17,4] [(4,[],vL g8 y7.1)] H17 rfl rfl rfl rfl (o_callx H17 rfl rfl (n5 (af:=g8) m _ _ hy18 _ _ hd)) (fun _ => rfl) fun _ _ v H22 hq => ?_
 obtain ⟨g19,rfl,hq⟩:=hq
 replace hS : SH M X w [eO 135 bz y18 g19,eO 137 a6 y7.1 g8] _:=SH.lendJ hS hq (free1 (free_own (fun _ _ _ _ _ h => h) _ _))
 refine t_in H22 hS ?_
 refine t_b 4 [4,19] [vL g8 y7.1,vB (decide (1500 < (ln y18)))] [] (t_end (t_sel [1] ?_))
 refine t_i2 hm (fun hm => ?_)
 refine t_skip ?_
 refine t_r [2,3] [vL g8 y7.1,vI 0] [] (t_ret ?_)
 obtain rfl:=someE hm
 exact t_g g8 [0] rs2

def pE (m : Nat) (s : Str) : Option ((List ae) × Int) :=
  Option.bind (pY m s) fun y5 =>
  cond (y5.2 != 0) (
  none) (
  Option.bind (qK m y5.1) fun y16 =>
  some (y16.1,y16.2))
theorem tl  (m : Nat) (s : Str) (r : (List ae) × Int) (hm : pE m s = some r) : DoesM Tryz.prog 25 ⟨[vS s]⟩ [] (fun (aA : Gh) => vW [vL aA r.1,vI r.2]) (fun aA => [eO 137 a6 r.1 aA]):=by
 rw [pE] at hm
 refine f_mem (Tryz.call25 _) Tryz.func25 Tryz.ntmps25 fun M X w => ?_
 refine t_r [0] [vS s] [] (t_starts ?_)
 refine t_b 1 [7] [vS s] [] ?_
 obtain ⟨y5,hy5,hm⟩:=bindE hm
 refine t_c [] [] [] [] (t6 m _ _ hy5) fun g6 => ?_
 refine t_b 7 [4,5] [vL g6 y5.1,vI y5.2] [] (t_end (t_seq ?_))
 refine t_r [4,5,12] [vL g6 y5.1,vI y5.2,vB (y5.2 != 0)] [] ?_
 refine t_i2 hm (fun hm => ?_)
 refine t_skip (t_starts ?_)
 refine t_b 1 [14] [vL g6 y5.1] [] ?_
 refine t_frz [0] ?_
 obtain ⟨y16,hy16,hm⟩:=bindE hm
 refine t_c [0] [0] [] [] (uL (aa:=g6) m _ _ hy16) fun g17 => ?_
 refine t_b 6 [2,3] [vL g17 y16.1,vI y16.2] [] (t_end (t_sel [0] (t_ret ?_)))
 obtain rfl:=someE hm
 exact t_g g17 [0] rs2

def mA (k_ : Int) (top : Bool) : Bool :=
  lt (cond (k_ == 13) true (cond top (cond (k_ == 14) true (k_ == 15)) false)) fun x3 =>
  x3
theorem sT  (k_ : Int) (top : Bool) : Ret Tryz.prog 63 ⟨[vU k_,vB top]⟩ (vB (mA k_ top)):=by
 generalize hm : mA k_ top = r
 rw [mA] at hm
 refine f_pure (Tryz.call63 _) Tryz.func63 Tryz.ntmps63 fun M X w => ?_
 refine t_r [0,1] [vU k_,vB top] [] ?_
 obtain ⟨x3,hx3,hm⟩:=letE hm
 refine t_r [4] [vB x3] [] ?_ (he:=by subst hx3; kernel_rfl)
 refine t_ret ?_
 subst hm
 exact t_n [] rs1

structure aU where
  At : Str
  cS : List ae
  gt : List ae
  nA : Bool
instance : Inhabited aU:=⟨⟨default,default,default,default⟩⟩
def bL : Ty aU where
  z:=4
  enc:=fun x g => [vS x.At,.slice (g 0).a x.cS.length (g 0).c,.slice (g 1).a x.gt.length (g 1).c,vB x.nA]
  inn:=fun M w x g => SlG a6 M w x.cS (g 0) ∧ SlG a6 M w x.gt (g 1) ∧ True
  len:=fun _ _ => rfl
  one:=fun _ _ => rfl
  kp:=fun h k hX => ⟨h.1.kp k hX,h.2.1.kp k hX,trivial⟩
  anti:=fun h hM => ⟨h.1.anti hM,h.2.1.anti hM,trivial⟩
  fresh:=fun h => ⟨h.1.fresh,h.2.1.fresh,trivial⟩
def e8 (x : aU) (g : Nat → Gh) : List Value:=bL.enc x g
theorem pW {M : Av} {w : World} {x : aU} {g : Nat → Gh} (h : bL.inn M w x g) : SlG a6 M w x.cS (g 0):=(show SlG a6 M w x.cS (g 0) ∧ SlG a6 M w x.gt (g 1) ∧ True from h).1
theorem lU {M : Av} {w : World} {x : aU} {g : Nat → Gh} (h : bL.inn M w x g) : SlG a6 M w x.gt (g 1):=(show SlG a6 M w x.cS (g 0) ∧ SlG a6 M w x.gt (g 1) ∧ True from h).2.1
theorem pw {M : Av} {w : World} {x : aU} {g : Nat → Gh} (h0 : SlG a6 M w x.cS (g 0)) (h1 : SlG a6 M w x.gt (g 1)) : bL.inn M w x g:=show SlG a6 M w x.cS (g 0) ∧ SlG a6 M w x.gt (g 1) ∧ True from ⟨h0,h1,trivial⟩
def gQ (m : Nat) (v_ : List ae) (v11 : Int) : Nat → Int → Option (Int)
  | 0,_ => none
  | kk + 1,v38 =>
    chk ((decide (v38 < (ln v_))) = true → 0 ≤ v38 ∧ v38 < ln v_) <|
    lt (cond (decide (v38 < (ln v_))) (((gi v_ v38).ax.aj) != 23) false) fun x40 =>
    chk ((!(((gi v_ v11).ax.aj) == 3)) = false → x40 = true → 0 ≤ v38 ∧ v38 < ln v_) <|
    lt (cond x40 (cond (!(((gi v_ v11).ax.aj) == 3)) true (((gi v_ v38).ax.aj) != 17)) false) fun x42 =>
    cond x42 (
    gQ m v_ v11 kk (w64 (v38 + 1))) (
    some v38)
def fI (m : Nat) (v_ : List ae) (top : Bool) : Nat → (List aU) → Int → Option (List aU)
  | 0,_,_ => none
  | kk + 1,v9,v11 =>
    cond (decide (v11 < (ln v_))) (
    chk (0 ≤ v11 ∧ v11 < ln v_) <|
    lt ((mA ((gi v_ v11).ax.aj) top)) fun x15 =>
    cond x15 (
    fI m v_ top kk v9 (w64 (v11 + 1))) (
    Option.bind (
    cond (((gi v_ v11).ax.aj) == 3) (
    some (w64 (v11 + 1),(gi v_ v11).ax.ei)) (
    some (v11,[]))) fun (z25 : Int × Str) =>
    Option.bind (
    gQ m v_ v11 m z25.1) fun (z37 : Int) =>
    chk (0 ≤ z25.1 ∧ z25.1 ≤ z37 ∧ z37 ≤ ln v_) <|
    lt (subl v_ z25.1 z37) fun q52 =>
    Option.bind (
    chk ((decide (z37 < (ln v_))) = true → 0 ≤ z37 ∧ z37 < ln v_) <|
    lt (cond (decide (z37 < (ln v_))) (((gi v_ z37).ax.aj) == 23) false) fun x63 =>
    cond x63 (
    chk (0 ≤ z37 ∧ z37 < ln v_) <|
    some ((gi v_ z37).a8,true)) (
    some (([] : List ae),false))) fun (z61 : (List ae) × Bool) =>
    chk (ln v9 + ln ([(aU.mk z25.2 q52 z61.1 z61.2)] : List aU) ≤ 137438953472) <|
    lt (v9 ++ ([(aU.mk z25.2 q52 z61.1 z61.2)] : List aU)) fun q89 =>
    fI m v_ top kk q89 (w64 (z37 + 1)))) (
    some v9)
def lP (m : Nat) (v_ : List ae) (top : Bool) : Option (List aU) :=
  Option.bind (
  fI m v_ top m ([] : List aU) 0) fun (z5 : List aU) =>
  some z5
theorem qj {af : Gh} (m : Nat) (v_ : List ae) (top : Bool) (r : List aU) (hm : lP m v_ top = some r) : DoesM Tryz.prog 43 ⟨[vL af v_,vB top]⟩ [eI a6 v_ af] (fun (aA : Gh) => vL aA r) (fun aA => [eO 108 bL r aA]):=by
 rw [lP] at hm
 refine f_mem (Tryz.call43 _) Tryz.func43 Tryz.ntmps43 fun M X w => ?_
 refine t_r [0,1] [vL af v_,vB top] [] ?_
 refine t_r [0,1,5] [vL af v_,vB top,vO] [] ?_
 obtain ⟨z5,hz,hm⟩:=bindE hm
 refine t_cutg [5] (fun (qA : Gh) => [vL qA z5]) (fun qA => [eO 108 bL z5 qA,eI a6 v_ af]) ?_ ?_
 ·replace hm:=hz
  refine t_r [0,1,5,6] [vL af v_,vB top,vO,vI 0] [] (t_block ?_)
  refine t_nil 108 bL ?_
  intro _ _ H7 hS
  refine w_loop (fun kk a' w' => ∃ (v9 : List aU) (v11 : Int) (g10 : Gh),fI m v_ top kk v9 v11 = some _ ∧ Fr 102 (fS [0,1,5,6] [vL af v_,vB top,vL g10 v9,vI v11]) a' ∧ SH M X w [eO 108 bL v9 g10,eI a6 v_ af] w') ⟨_,([] : List aU),0,Gh.nil,hm,FrG.keep (ks:=[0,1,5,6]) H7 (by kernel_rfl),hS⟩ ?_
  clear hm H7 hS
  rintro kk _ _ ⟨v9,v11,g10,hm,H,hS⟩
  cases kk with
  | zero => exact noneE hm
  | succ kk =>
   rw [fI] at hm
   refine t_in H hS (t_seq ?_)
   refine t_r [0,1,5,6,13] [vL af v_,vB top,vL g10 v9,vI v11,vB (decide (v11 < (ln v_)))] [] ?_
   refine t_im hm (fun hm => ?_) (fun hm => ?c99)
   case c99 =>
    refine t_exit ?_
    obtain rfl:=someE hm
    exact t_eg g10 [5]
   refine t_skip (t_block (t_seq ?_))
   obtain ⟨ho14,hm⟩:=chkE hm
   obtain ⟨x15,hx15,hm⟩:=letE hm
   refine t_r [0,1,5,6,21] [vL af v_,vB top,vL g10 v9,vI v11,vB x15] [ki 1 ho14,kj 1 0 ho14,kc (sT ((gi v_ v11).ax.aj) top)] ?_ (he:=by subst hx15; kernel_rfl)
   refine t_im hm (fun hm => ?c98) (fun hm => ?_)
   case c98 =>
    refine t_r [0,1,5,6] [vL af v_,vB top,vL g10 v9,vI (w64 (v11 + 1))] [] ?_
    refine t_exit ?_
    exact fun _ _ H19 hS => ⟨_,Nat.lt_succ_self _,v9,w64 (v11 + 1),g10,hm,FrG.keep (ks:=[0,1,5,6]) H19 (by kernel_rfl),hS⟩
   refine t_skip (t_starts ?_)
   refine t_m [] [0,1] [0,1,5,6] [vL af v_,vB top,vL g10 v9,vI v11] (fun _ _ H17 hd => o_alloc [vN,vO,vO,vF] (z:=vG [vN,vO,vO,vF]) hd (by kernel_rfl) rfl) fun b20 => (t_end ?_)
   refine t_r [0,1,5,6,7,8] [vL af v_,vB top,vL g10 v9,vI v11,vP b20,vB (((gi v_ v11).ax.aj) == 3)] [ki 2 ho14,kj 2 0 ho14] ?_
   obtain ⟨z25,hz,hm⟩:=bindE hm
   refine t_cut [0,1,5,7,8,6] [vL af v_,vB top,vL g10 v9,vP b20,vB (((gi v_ v11).ax.aj) == 3),vI z25.1] [eB b20 [vS z25.2,vO,vO,vF],eO 108 bL v9 g10,eI a6 v_ af] ?_ ?_
   ·replace hm:=hz
    refine t_r [0,1,5,6,7,8,31] [vL af v_,vB top,vL g10 v9,vI v11,vP b20,vB (((gi v_ v11).ax.aj) == 3),vB (((gi v_ v11).ax.aj) == 3)] [] ?_
    refine t_im hm (fun hm => ?_) (fun hm => ?c34)
    case c34 =>
     refine t_skip ?_
     obtain rfl:=someE hm
     exact t_e [0,1,5,7,8,6]
    refine t_starts ?_
    refine t_b 7 [0,1,5,6,7,8,37,38] [vL af v_,vB top,vL g10 v9,vI v11,vP b20,vB (((gi v_ v11).ax.aj) == 3),vS (gi v_ v11).ax.ei,vP b20] [ki 2 ho14,kj 2 1 ho14] ?_
    refine t_m0 [0] [1,2] [0,1,5,6,7,8] [vL af v_,vB top,vL g10 v9,vI v11,vP b20,vB (((gi v_ v11).ax.aj) == 3)] (fun _ _ H29 hd => o_store [vS (gi v_ v11).ax.ei,vO,vO,vF] H29 hd rfl rfl (by kernel_rfl) rfl rfl rfl) (t_end ?_)
    refine t_w [0,1,5,6,7,8] [vL af v_,vB top,vL g10 v9,vI (w64 (v11 + 1)),vP b20,vB (((gi v_ v11).ax.aj) == 3)] [] ?_
    obtain rfl:=someE hm
    exact t_e [0,1,5,7,8,6]
   ·refine t_r [0,1,5,6,7,8,9] [vL af v_,vB top,vL g10 v9,vI z25.1,vP b20,vB (((gi v_ v11).ax.aj) == 3),vI z25.1] [] ?_
    obtain ⟨z37,hz,hm⟩:=bindE hm
    refine t_cut [0,1,5,7,9,6] [vL af v_,vB top,vL g10 v9,vP b20,vI z25.1,vI z37] [eB b20 [vS z25.2,vO,vO,vF],eO 108 bL v9 g10,eI a6 v_ af] ?_ ?_
    ·replace hm:=hz
     refine t_block ?_
     intro _ _ H36 hS
     refine w_loop (fun kk a' w' => ∃ (v38 : Int),gQ m v_ v11 kk v38 = some _ ∧ Fr 102 (fS [0,1,5,7,8,9,6] [vL af v_,vB top,vL g10 v9,vP b20,vB (((gi v_ v11).ax.aj) == 3),vI z25.1,vI v38]) a' ∧ SH M X w [eB b20 [vS z25.2,vO,vO,vF],eO 108 bL v9 g10,eI a6 v_ af] w') ⟨_,z25.1,hm,FrG.keep (ks:=[0,1,5,7,8,9,6]) H36 (by kernel_rfl),hS⟩ ?_
     clear hm H36 hS
     rintro kk _ _ ⟨v38,hm,H,hS⟩
     cases kk with
     | zero => exact noneE hm
     | succ kk =>
      rw [gQ] at hm
      refine t_in H hS (t_seq ?_)
      obtain ⟨ho39,hm⟩:=chkE hm
      obtain ⟨x40,hx40,hm⟩:=letE hm
      obtain ⟨ho41,hm⟩:=chkE hm
      obtain ⟨x42,hx42,hm⟩:=letE hm
      refine t_r [0,1,5,6,7,8,9,67] [vL af v_,vB top,vL g10 v9,vI v38,vP b20,vB (((gi v_ v11).ax.aj) == 3),vI z25.1,vB x42] [kgi ((decide (v38 < (ln v_))) = true ∧ True) 2 fun hg => (ho39 hg.1),kgj ((decide (v38 < (ln v_))) = true ∧ True) 2 0 fun hg => (ho39 hg.1),kgi ((!(((gi v_ v11).ax.aj) == 3)) = false ∧ x40 = true ∧ True) 2 fun hg => (ho41 hg.1 hg.2.1),kgj ((!(((gi v_ v11).ax.aj) == 3)) = false ∧ x40 = true ∧ True) 2 0 fun hg => (ho41 hg.1 hg.2.1)] ?_ (he:=by subst hx40 hx42; kernel_rfl)
      refine t_im hm (fun hm => ?_) (fun hm => ?c47)
      case c47 =>
       refine t_exit ?_
       obtain rfl:=someE hm
       exact t_e [0,1,5,7,9,6]
      refine t_skip (t_block ?_)
      refine t_w [0,1,5,6,7,8,9] [vL af v_,vB top,vL g10 v9,vI (w64 (v38 + 1)),vP b20,vB (((gi v_ v11).ax.aj) == 3),vI z25.1] [] ?_
      exact fun _ _ H46 hS => ⟨_,Nat.lt_succ_self _,w64 (v38 + 1),hm,FrG.keep (ks:=[0,1,5,7,8,9,6]) H46 (by kernel_rfl),hS⟩
    ·refine t_starts ?_
     refine t_b 3 [0,1,5,6,7,70,71,72] [vL af v_,vB top,vL g10 v9,vI z37,vP b20,vL af v_,vI z25.1,vI z37] [] ?_
     obtain ⟨ho51,hm⟩:=chkE hm
     obtain ⟨q52,hq52,hm⟩:=letE hm
     refine t_m [2] [0,1,2] [0,1,5,6,7] [vL af v_,vB top,vL g10 v9,vI z37,vP b20] (fun _ _ H50 hd => o_sub (T:=a6) (E:=137) (g:=af) (q:=v_) z25.1 z37 (.some (vI z25.1)) (.some (vI z37)) H50 hd (hd.im 0 rfl) rfl rfl rfl rfl rfl rfl (.inr ⟨_,rfl⟩) (.inr ⟨_,rfl⟩) (by kernel_rfl) (by kernel_rfl) ho51) fun g55 => ?_
     rw [← hq52]
     refine t_b 5 [0,1,5,6,7,73,74] [vL af v_,vB top,vL g10 v9,vI z37,vP b20,vL g55 q52,vA b20 1] [] ?_
     refine t_m0 [2] [0,1,3,4] [0,1,5,6,7] [vL af v_,vB top,vL g10 v9,vI z37,vP b20] (fun _ _ H58 hd => o_store [vS z25.2,vL g55 q52,vO,vF] H58 hd rfl rfl (by kernel_rfl) rfl rfl rfl) (t_end (t_sel [0,1,2,3] ?_))
     obtain ⟨z61,hz,hm⟩:=bindE hm
     refine t_cutg [0,1,5,6,7] (fun (g78 : Gh) => [vL af v_,vB top,vL g10 v9,vI z37,vP b20]) (fun g78 => [eI a6 z61.1 g78,eB b20 [vS z25.2,vL g55 q52,vL g78 z61.1,vB z61.2],eI a6 q52 g55,eI a6 v_ af,eO 108 bL v9 g10]) ?_ ?_
     ·replace hm:=hz
      obtain ⟨ho62,hm⟩:=chkE hm
      obtain ⟨x63,hx63,hm⟩:=letE hm
      refine t_r [0,1,5,6,7,87] [vL af v_,vB top,vL g10 v9,vI z37,vP b20,vB x63] [kgi ((decide (z37 < (ln v_))) = true ∧ True) 2 fun hg => (ho62 hg.1),kgj ((decide (z37 < (ln v_))) = true ∧ True) 2 0 fun hg => (ho62 hg.1)] ?_ (he:=by subst hx63; kernel_rfl)
      refine t_im hm (fun hm => ?_) (fun hm => ?c77)
      case c77 =>
       refine t_skip ?_
       obtain rfl:=someE hm
       refine t_nil 137 a6 ?_
       refine t_frz [0,1,2,3,4] ?_
       exact t_eg Gh.nil [0,1,5,6,7]
      refine t_start ?_
      obtain ⟨ho66,hm⟩:=chkE hm
      refine t_b 6 [0,1,5,6,7,92,93] [vL af v_,vB top,vL g10 v9,vI z37,vP b20,.slice (af.s (z37).toNat 0).a (((gi v_ z37).a8).length) (af.s (z37).toNat 0).c,vA b20 2] [ki 2 ho66,kj 2 5 ho66] ?_
      refine t_m0 [0] [1,2,3] [0,1,5,6,7] [vL af v_,vB top,vL g10 v9,vI z37,vP b20] (fun _ _ H68 hd => o_store [vS z25.2,vL g55 q52,.slice (af.s (z37).toNat 0).a (((gi v_ z37).a8).length) (af.s (z37).toNat 0).c,vF] H68 hd rfl rfl (by kernel_rfl) rfl rfl rfl) ?_
      refine t_b 8 [0,1,5,6,7,94] [vL af v_,vB top,vL g10 v9,vI z37,vP b20,vA b20 3] [] ?_
      refine t_m0 [0] [1,2,3] [0,1,5,6,7] [vL af v_,vB top,vL g10 v9,vI z37,vP b20] (fun _ _ H72 hd => o_store [vS z25.2,vL g55 q52,.slice (af.s (z37).toNat 0).a (((gi v_ z37).a8).length) (af.s (z37).toNat 0).c,vT] H72 hd rfl rfl (by kernel_rfl) rfl rfl rfl) (t_end ?_)
      obtain rfl:=someE hm
      intro _ _ H74 hS
      replace hS:=hS.addIm (dX ((hS.im 2 rfl).el ho66))
      exact ⟨(af.s (z37).toNat 0),FrG.keep (ks:=[0,1,5,6,7]) H74 (by kernel_rfl),hS⟩
     ·intro g78
      refine t_r [0,1,5,6,7] [vL af v_,vB top,vL g10 v9,vI (w64 (z37 + 1)),vP b20] [] (t_start ?_)
      refine t_b 2 [0,1,6,97,98] [vL af v_,vB top,vI (w64 (z37 + 1)),vL g10 v9,vG [vS z25.2,vL g55 q52,vL g78 z61.1,vB z61.2]] [kE 1 4] ?_
      refine t_m [2,0] [0,1,2,3,4] [0,1,6,97] [vL af v_,vB top,vI (w64 (z37 + 1)),vL g10 v9] (fun _ _ H83 hd => o_li (T:=bL) (E:=108) (zv:=vG [vN,vO,vO,vF]) [vS z25.2,vL g55 q52,vL g78 z61.1,vB z61.2] ([(aU.mk z25.2 q52 z61.1 z61.2)] : List aU) [gL [g55,g78]] H83 hd rfl (InnL.cons (pw (hd.im 0 rfl) (hd.im 1 rfl)) InnL.nil)) fun g84 => ?_
      obtain ⟨ho88,hm⟩:=chkE hm
      obtain ⟨q89,hq89,hm⟩:=letE hm
      refine t_m [5,0] [1,2,3,4] [0,1,6] [vL af v_,vB top,vI (w64 (z37 + 1))] (fun _ _ H87 hd => o_app2 (T:=bL) (zv:=vG [vN,vO,vO,vF]) (g1:=g10) (g2:=g84) (l1:=v9) (l2:=([(aU.mk z25.2 q52 z61.1 z61.2)] : List aU)) q89 hq89.symm H87 hd rfl rfl rfl rfl rfl rfl rfl (by kernel_rfl) (by kernel_rfl) rfl rfl ho88) fun g92 => ?_
      refine t_b 5 [0,1,5,6] [vL af v_,vB top,vL g92 q89,vI (w64 (z37 + 1))] [] (t_end (t_sel [0,5] ?_))
      exact fun _ _ H94 hS => ⟨_,Nat.lt_succ_self _,q89,w64 (z37 + 1),g92,hm,FrG.keep (ks:=[0,1,5,6]) H94 (by kernel_rfl),hS⟩
 ·intro qA
  refine t_sel [0] ?_
  refine t_r [4] [vL qA z5] [] (t_ret ?_)
  obtain rfl:=someE hm
  exact t_g qA [0] rs1

structure dC where
  fl : Int
  has : Bool
instance : Inhabited dC:=⟨⟨default,default⟩⟩
def wB : Ty dC where
  z:=2
  enc:=fun x g => [vI x.fl,vB x.has]
  inn:=fun _ _ _ _ => True
  len:=fun _ _ => rfl
  one:=fun _ _ => rfl
  kp:=fun _ _ _ => trivial
  anti:=fun _ _ => trivial
  fresh:=fun _ => trivial
def lg (m : Nat) (v_ : List ae) (kind : Int) : Nat → (List (List ae)) → Int → Option (List (List ae))
  | 0,_,_ => none
  | kk + 1,v12,v14 =>
    cond (decide (v14 < (ln v_))) (
    Option.bind (
    chk (0 ≤ v14 ∧ v14 < ln v_) <|
    cond (((gi v_ v14).ax.aj) == kind) (
    chk (ln v12 + ln ([[]] : List (List ae)) ≤ 137438953472) <|
    some (v12 ++ ([[]] : List (List ae)))) (
    chk (0 ≤ w64 (ln v12 - 1) ∧ w64 (ln v12 - 1) < ln v12) <|
    chk (ln (gi v12 (w64 (ln v12 - 1))) + ln ([gi v_ v14] : List ae) ≤ 137438953472) <|
    some (setl v12 (w64 (ln v12 - 1)) (gi v12 (w64 (ln v12 - 1)) ++ [gi v_ v14])))) fun (z17 : List (List ae)) =>
    lg m v_ kind kk z17 (w64 (v14 + 1))) (
    some v12)
def lI (m : Nat) (v_ : List ae) (kind : Int) : Option (List (List ae)) :=
  Option.bind (
  lg m v_ kind m ([[]] : List (List ae)) 0) fun (z9 : List (List ae)) =>
  some z9
theorem lB {af : Gh} (m : Nat) (v_ : List ae) (kind : Int) (r : List (List ae)) (hm : lI m v_ kind = some r) : DoesM Tryz.prog 112 ⟨[vL af v_,vU kind]⟩ [eI a6 v_ af] (fun (aA : Gh) => vL aA r) (fun aA => [eO 34 (Ty.sl a6) r aA]):=by
 rw [lI] at hm
 refine f_mem (Tryz.call112 _) Tryz.func112 Tryz.ntmps112 fun M X w => ?_
 refine t_r [0,1] [vL af v_,vU kind] [] (t_starts ?_)
 refine t_m [] [0] [0,1] [vL af v_,vU kind] (fun _ _ H2 hd => o_li (T:=tyHd ae) (E:=34) (zv:=vO) [vO] ([([],Gh.nil)] : List (Hd ae)) [gL []] H2 hd rfl (InnL.cons trivial InnL.nil)) fun g3 => ?_
 refine t_b 2 [0,1,5] [vL af v_,vU kind,vK g3 1] [] (t_end ?_)
 obtain ⟨z9,hz,hm⟩:=bindE hm
 refine t_cutg [5] (fun (g53 : Gh) => [vL g53 z9]) (fun g53 => [eO 34 (Ty.sl a6) z9 g53,eI a6 v_ af]) ?_ ?_
 ·replace hm:=hz
  refine t_r [0,1,5,6] [vL af v_,vU kind,vK g3 1,vI 0] [] (t_block ?_)
  intro _ _ H11 hS
  refine w_loop (fun kk a' w' => ∃ (qs : List (Hd ae)) (v14 : Int) (g13 : Gh),lg m v_ kind kk (qs.map (·.1)) v14 = some _ ∧ Fr 64 (fS [0,1,5,6] [vL af v_,vU kind,vL g13 qs,vI v14]) a' ∧ SH M X w [eO 34 (tyHd ae) qs g13,Ent.fam 137 a6 qs,eI a6 v_ af] w') ⟨_,[([],Gh.nil)],0,g3,hm,FrG.keep (ks:=[0,1,5,6]) H11 (by kernel_rfl),(hS.fam1 (E:=137) (T:=a6)).perm (List.Perm.swap _ _ _)⟩ ?_
  clear hm H11 hS
  rintro kk _ _ ⟨qs,v14,g13,hm,H,hS⟩
  cases kk with
  | zero => exact noneE hm
  | succ kk =>
   rw [lg,hd_ln] at hm
   refine t_in H hS (t_seq ?_)
   refine t_r [0,1,5,6,11] [vL af v_,vU kind,vL g13 qs,vI v14,vB (decide (v14 < (ln v_)))] [] ?_
   refine t_im hm (fun hm => ?_) (fun hm => ?c51)
   case c51 =>
    refine t_exit ?_
    obtain rfl:=someE hm
    intro _ _ H hS
    refine ⟨_,FrG.keep (ks:=[5]) H ?_,hS.famEnd⟩
    show keep _ _ = some [(5,[],Value.slice g13.a (qs.map (·.1)).length g13.c)]
    rw [List.length_map]
    rfl
   refine t_skip ?_
   obtain ⟨z17,hz,hm⟩:=bindE hm
   refine t_cutg [0,1,6,5] (fun (p : {p : List (Hd ae) × Gh // p.1.map (·.1) = z17}) => [vL af v_,vU kind,vI v14,.slice p.1.2.a p.1.1.length p.1.2.c]) (fun p => [eO 34 (tyHd ae) p.1.1 p.1.2,Ent.fam 137 a6 p.1.1,eI a6 v_ af]) ?_ ?_
   ·replace hm:=hz
    refine t_block ?_
    obtain ⟨ho18,hm⟩:=chkE hm
    refine t_r [0,1,5,6,21] [vL af v_,vU kind,vL g13 qs,vI v14,vB (((gi v_ v14).ax.aj) == kind)] [ki 2 ho18,kj 2 0 ho18] ?_
    refine t_im hm (fun hm => ?c46) (fun hm => ?_)
    case c46 =>
     refine t_start ?_
     refine t_b 1 [0,1,6,22] [vL af v_,vU kind,vI v14,vL g13 qs] [] ?_
     refine t_m [] [0,1,2] [0,1,6,22] [vL af v_,vU kind,vI v14,vL g13 qs] (fun _ _ H22 hd => o_li (T:=tyHd ae) (E:=34) (zv:=vO) [vO] ([([],Gh.nil)] : List (Hd ae)) [gL []] H22 hd rfl (InnL.cons trivial InnL.nil)) fun g23 => ?_
     obtain ⟨ho27,hm⟩:=chkE hm
     obtain rfl:=someE hm
     refine t_m [1,0] [2,3] [0,1,6] [vL af v_,vU kind,vI v14] (fun _ _ H26 hd => o_app2 (T:=tyHd ae) (zv:=vO) (g1:=g13) (g2:=g23) (l1:=qs) (l2:=([([],Gh.nil)] : List (Hd ae))) (qs ++ [([],Gh.nil)]) rfl H26 hd rfl rfl rfl rfl rfl rfl rfl (by kernel_rfl) (by kernel_rfl) rfl rfl ho27) fun g31 => ?_
     refine t_b 4 [0,1,5,6] [vL af v_,vU kind,.slice g31.a (qs ++ [([],Gh.nil)]).length g31.c,vI v14] [] (t_end (t_sel [0,2,3] ?_))
     exact fun _ _ H hS => ⟨⟨(qs ++ [([],Gh.nil)],g31),by simp⟩,FrG.keep (ks:=[0,1,6,5]) H (by kernel_rfl),((hS.perm (List.Perm.swap _ _ _)).famNil).perm (List.Perm.swap _ _ _)⟩
    obtain ⟨ho1,hm⟩:=chkE hm
    rw [hd_gi ho1] at hm
    obtain ⟨ho2,hm⟩:=chkE hm
    obtain rfl:=someE hm
    refine t_coin3 [0,1,5,6] [vL af v_,vU kind,vL g13 qs,vI v14] fun c => ?_
    refine t_if (t:=c) (fun _ => ?c8) (fun _ => ?_)
    case c8 =>
     generalize hq : (gi qs (w64 (ln qs - 1))).1 ++ [(ae.mk (aR.mk 0 [] 0 [] false) [])] = q0
     intro _ _ H20 hS
     refine s_dS (base:=(fS [0,1,5,6] [vL af v_,vU kind,vL g13 qs,vI v14])) (L:=[eO 34 (tyHd ae) qs g13,Ent.fam 137 a6 qs,eI a6 v_ af]) 19 3 (fun y => [vL g13 qs,vL g13 qs,vI (ln qs),vI (w64 (ln qs - 1)),vL g13 qs,vL g13 qs,vI (ln qs),vI (w64 (ln qs - 1)),.pointer (some ⟨ab g13.a,ao g13.a + (w64 (ln qs - 1)).toNat * 1,none⟩),.slice (gi qs (w64 (ln qs - 1))).2.a (gi qs (w64 (ln qs - 1))).1.length (gi qs (w64 (ln qs - 1))).2.c,vL af v_,vI v14,.pointer (some ⟨ab af.a,ao af.a + v14.toNat * 6,none⟩),.agg ⟨e0 (gi v_ v14) (af.s v14.toNat)⟩,vI (ln (gi qs (w64 (ln qs - 1))).1),vK (y 15 0) 1,.slice (y 16 0).a q0.length (y 16 0).c,.pointer (some ⟨ab g13.a,ao g13.a + (w64 (ln qs - 1)).toNat * 1,none⟩),undef]) (fun y => [[],[],[],[],[],[],[],[],[],[],[],[],[],[],[],[eO 137 a6 ([(ae.mk (aR.mk 0 [] 0 [] false) [])] : List ae) (y 15 0)],[Ent.fam 137 a6 (setl qs (w64 (ln qs - 1)) (q0,y 16 0)),eO 137 a6 ([(ae.mk (aR.mk 0 [] 0 [] false) [])] : List ae) (y 15 0)],[],[eO 34 (tyHd ae) (setl qs (w64 (ln qs - 1)) (q0,y 16 0)) (Gh.mk g13.a g13.c (y 18 0).s)]]) [[],[],[],[],[],[],[],[],[19],[19],[],[],[21],[21],[],[],[20,15],[19],[19]] [[],[],[],[],[],[],[],[],[],[],[],[],[],[],[],[],[20,15],[],[19]] [[0],[1],[1,2],[1,2,3],[4],[5],[5,6],[5,6,7],[4,5,6,7,8],[4,5,6,7,8,9],[10],[11],[10,11,12],[10,11,12,13],[4,5,6,7,8,9,14],[15],[4,5,6,7,8,9,15,16],[0,1,2,3,17],[0,1,2,3,4,5,6,7,8,9,10,11,12,13,14,15,16,17,18]] [] (FrG.keep (ks:=[0,1,5,6]) H20 (by kernel_rfl)) (fun _ _ h => by cases h) (by kernel_rfl) hS (by kernel_rfl) rfl rfl (by kernel_rfl) (by kernel_rfl) (by kernel_rfl) (gd_none (by kernel_rfl) _ _) ?hstep8 fun _ wd36 y H37 hv hS => ?hK8
     case hstep8 =>
      refine ⟨se0,se0,se0,se0,se0,se0,se0,se0,se (fun _ _ => [⟨none,fun wz => oka g13.a ∧ 0 ≤ (w64 (ln qs - 1)) ∧ (w64 (ln qs - 1)) < ln qs,fun _ hS => (hS.osl 0 rfl).oki ho1⟩]),se (fun _ _ => [⟨some (.slice (gi qs (w64 (ln qs - 1))).2.a (gi qs (w64 (ln qs - 1))).1.length (gi qs (w64 (ln qs - 1))).2.c),fun wz => V.at1 ⟨ab g13.a,ao g13.a + (w64 (ln qs - 1)).toNat * 1 + 0,none⟩ (.slice (gi qs (w64 (ln qs - 1))).2.a (gi qs (w64 (ln qs - 1))).1.length (gi qs (w64 (ln qs - 1))).2.c) wz,fun _ hS => (hS.osl 0 rfl).at1 ho1 0 rfl⟩]),se0,se0,se (fun _ _ => [⟨none,fun wz => oka af.a ∧ 0 ≤ v14 ∧ v14 < ln v_,fun _ hS => (hS.im 0 rfl).oki ho18⟩]),se (fun _ _ => [⟨some (.agg ⟨e0 (gi v_ v14) (af.s v14.toNat)⟩),fun wz => V.atN (ab af.a) (ao af.a + v14.toNat * 6) (e0 (gi v_ v14) (af.s v14.toNat)) 0 wz,fun _ hS => ((hS.im 0 rfl).atA ho18 0 rfl)⟩]),se0,?_,?_,se (fun _ _ => [⟨none,fun wz => oka g13.a ∧ 0 ≤ (w64 (ln qs - 1)) ∧ (w64 (ln qs - 1)) < ln qs,fun _ hS => (hS.osl 0 rfl).oki ho1⟩]),?_,trivial⟩
      ·intro o ho a w y M Hb hv hO hS
       obtain rfl:=someE ho
       have hd:=hS.hand [] [] rfl rfl
       refine Stp.mono (o_lit (T:=a6) (E:=137) (zv:=vG [vU 0,vN,vI 0,vN,vF,vO]) [vU 0,vN,vI 0,vN,vF,vO] ([(ae.mk (aR.mk 0 [] 0 [] false) [])] : List ae) [gL [Gh.nil]] _ Hb hd rfl (by kernel_rfl) (by kernel_rfl) (by kernel_rfl) (by kernel_rfl) (by kernel_rfl) (by kernel_rfl) (by kernel_rfl) rfl (InnL.cons (nB SlG.nil) InnL.nil)) ?_
       rintro v w2 hq
       obtain ⟨g27,rfl,hq⟩:=hq
       replace hS:=hS.join [] [] rfl rfl hq
       exact ⟨gL [g27],fun _ _ => rfl,hS.sel [0] rfl⟩
      ·intro o ho a w y M Hb hv hO hS
       obtain rfl:=someE ho
       have H:=((Hb).add (hv 9 (by decide) (by decide) 36 rfl)).add (hv 15 (by decide) (by decide) 42 rfl)
       have hd:=hS.hand [0,1] [] rfl rfl
       refine Stp.mono (o_appK (T:=a6) (zv:=vG [vU 0,vN,vI 0,vN,vF,vO]) ho1 q0 hq H hd rfl rfl rfl rfl rfl rfl rfl rfl (by kernel_rfl) (by kernel_rfl) rfl ho2) ?_
       rintro v w2 hq
       obtain ⟨g31,rfl,hq⟩:=hq
       replace hS:=hS.join [0,1] [] rfl rfl hq
       exact ⟨gL [g31],fun _ _ => rfl,hS.sel [0,1] rfl⟩
      ·intro o ho a w y M Hb hv hO hS
       obtain rfl:=someE ho
       have H:=((Hb).add (hv 17 (by decide) (by decide) 44 rfl)).add (hv 16 (by decide) (by decide) 43 rfl)
       have hd:=hS.hand [0] [] rfl rfl
       refine Stp.mono (o_estore (T:=tyHd ae) (g:=g13) (q:=qs) (ix:=(w64 (ln qs - 1))) (off:=0) ((q0,y 16 0) : Hd ae) (gL []) H hd rfl rfl rfl rfl (by kernel_rfl) rfl rfl ho1 rfl trivial rfl) ?_
       rintro v w2 hq
       obtain ⟨s31,hq⟩:=hq
       replace hS:=hS.join [0] [] rfl rfl hq
       exact ⟨gL [Gh.mk none 0 s31],(fun _ h => by cases h),hS.sel [0] rfl⟩
     have H : Fr 64 (fS [43,41,40,0,1,5,6] [.slice (y 16 0).a q0.length (y 16 0).c,vI (ln (gi qs (w64 (ln qs - 1))).1),.agg ⟨e0 (gi v_ v14) (af.s v14.toNat)⟩,vL af v_,vU kind,vL g13 qs,vI v14]) _:=(((FrG.keep (ks:=[0,1,5,6]) H37 (by kernel_rfl)).add (hv 13 40 rfl)).add (hv 14 41 rfl)).add (hv 16 43 rfl)
     have hS : SH M X w [Ent.fam 137 a6 (setl qs (w64 (ln qs - 1)) (q0,y 16 0)),eO 34 (tyHd ae) (setl qs (w64 (ln qs - 1)) (q0,y 16 0)) (Gh.mk g13.a g13.c (y 18 0).s),eI a6 v_ af] _:=hS.sel [0,2,3] rfl
     clear hv H37
     generalize y 16 0 = gq at H hS
     generalize (y 18 0).s = sq at hS
     have hk : 0 ≤ (w64 (ln qs - 1)) ∧ (w64 (ln qs - 1)) < ln (setl qs (w64 (ln qs - 1)) (q0,gq)):=by unfold ln at ho1 ⊢; rw [setl_len]; exact ho1
     replace hS:=hS.famOut hk
     rw [gi_setl ho1] at hS
     have hix : 0 ≤ ln (gi qs (w64 (ln qs - 1))).1 ∧ ln (gi qs (w64 (ln qs - 1))).1 < ln q0:=⟨Int.natCast_nonneg _,Int.ofNat_lt.2 (by rw [← hq]; simp)⟩
     refine t_in H hS (t_start ?_)
     refine t_b 1 [0,1,5,6,40,45] [vL af v_,vU kind,vL g13 qs,vI v14,.agg ⟨e0 (gi v_ v14) (af.s v14.toNat)⟩,.pointer (some ⟨ab gq.a,ao gq.a + (ln (gi qs (w64 (ln qs - 1))).1).toNat * 6,none⟩)] [kI 0 hix] ?_
     intro _ _ H hS
     have hd:=hS.hand [0,3] [1,2,3] rfl rfl
     refine m_stp0 [0,1,6,5] (fS [0,1,6,5] [vL af v_,vU kind,vI v14,vL g13 qs]) H rfl rfl rfl (o_estore (T:=a6) (g:=gq) (q:=q0) (ix:=ln (gi qs (w64 (ln qs - 1))).1) (off:=0) (gi v_ v14) (af.s v14.toNat) H hd rfl rfl rfl rfl (by kernel_rfl) rfl rfl hix rfl ((hd.im 1 rfl).el ho18) rfl) rfl fun _ _ H89 hq2 => ?_
     obtain ⟨_,s,hq2⟩:=hq2
     have hS2:=(hS.join [0,3] [1,2,3] rfl rfl hq2).famIn (qs:=setl qs (w64 (ln qs - 1)) (q0,gq)) hk
     refine t_in H89 hS2 (t_end ?_)
     have hq1 : setl q0 (ln (gi qs (w64 (ln qs - 1))).1) (gi v_ v14) = (gi qs (w64 (ln qs - 1))).1 ++ [gi v_ v14]:=by rw [← hq]; exact setl_last
     rw [hq1]
     intro _ _ H hS
     have hS3:=(SH.reHd (hd_re (p:=(q0,gq)) (p':=((gi qs (w64 (ln qs - 1))).1 ++ [gi v_ v14],Gh.mk gq.a gq.c s)) (by show Value.slice gq.a ((gi qs (w64 (ln qs - 1))).1 ++ [gi v_ v14]).length gq.c = Value.slice gq.a q0.length gq.c; rw [← hq]; simp)) (hS.perm (List.Perm.swap _ _ _)))
     exact ⟨⟨(setl (setl qs (w64 (ln qs - 1)) (q0,gq)) (w64 (ln qs - 1)) ((gi qs (w64 (ln qs - 1))).1 ++ [gi v_ v14],Gh.mk gq.a gq.c s),Gh.mk g13.a g13.c sq),by rw [setl_setl,← hd_setl]⟩,FrG.keep (ks:=[0,1,6,5]) H (by show keep _ _ = some (fz [0,1,6,5] [vL af v_,vU kind,vI v14,.slice g13.a (setl (setl qs (w64 (ln qs - 1)) (q0,gq)) (w64 (ln qs - 1)) ((gi qs (w64 (ln qs - 1))).1 ++ [gi v_ v14],Gh.mk gq.a gq.c s)).length g13.c]); rw [setl_len,setl_len]; kernel_rfl),hS3⟩
    generalize hq : (gi qs (w64 (ln qs - 1))).1 ++ [gi v_ v14] = q
    intro _ _ H20 hS
    refine w_dS (base:=(fS [0,1,5,6] [vL af v_,vU kind,vL g13 qs,vI v14])) (L:=[eO 34 (tyHd ae) qs g13,Ent.fam 137 a6 qs,eI a6 v_ af]) 18 3 (fun y => [vL g13 qs,vL g13 qs,vI (ln qs),vI (w64 (ln qs - 1)),vL g13 qs,vL g13 qs,vI (ln qs),vI (w64 (ln qs - 1)),.pointer (some ⟨ab g13.a,ao g13.a + (w64 (ln qs - 1)).toNat * 1,none⟩),.slice (gi qs (w64 (ln qs - 1))).2.a (gi qs (w64 (ln qs - 1))).1.length (gi qs (w64 (ln qs - 1))).2.c,vL af v_,vI v14,.pointer (some ⟨ab af.a,ao af.a + v14.toNat * 6,none⟩),.agg ⟨e0 (gi v_ v14) (af.s v14.toNat)⟩,vK (y 14 0) 1,.slice (y 15 0).a q.length (y 15 0).c,.pointer (some ⟨ab g13.a,ao g13.a + (w64 (ln qs - 1)).toNat * 1,none⟩),undef]) (fun y => [[],[],[],[],[],[],[],[],[],[],[],[],[],[],[eO 137 a6 ([gi v_ v14] : List ae) (y 14 0)],[Ent.fam 137 a6 (setl qs (w64 (ln qs - 1)) (q,y 15 0)),eO 137 a6 ([gi v_ v14] : List ae) (y 14 0)],[],[eO 34 (tyHd ae) (setl qs (w64 (ln qs - 1)) (q,y 15 0)) (Gh.mk g13.a g13.c (y 17 0).s)]]) [[],[],[],[],[],[],[],[],[18],[18],[],[],[20],[20],[20],[19,14],[18],[18]] [[],[],[],[],[],[],[],[],[],[],[],[],[],[],[],[19,14],[],[18]] [[0],[1],[1,2],[1,2,3],[4],[5],[5,6],[5,6,7],[4,5,6,7,8],[4,5,6,7,8,9],[10],[11],[10,11,12],[10,11,12,13],[10,11,12,13,14],[4,5,6,7,8,9,10,11,12,13,14,15],[0,1,2,3,4,5,6,7,8,9,10,11,12,13,14,15,16],[0,1,2,3,4,5,6,7,8,9,10,11,12,13,14,15,16,17]] [] (FrG.keep (ks:=[0,1,5,6]) H20 (by kernel_rfl)) (fun _ _ h => by cases h) (by kernel_rfl) hS (by kernel_rfl) rfl rfl (by kernel_rfl) (by kernel_rfl) (by kernel_rfl) (gd_none (by kernel_rfl) _ _) ?hstep fun _ wd36 y H37 hv hS => ?hK
    case hstep =>
     refine ⟨se0,se0,se0,se0,se0,se0,se0,se0,se (fun _ _ => [⟨none,fun wz => oka g13.a ∧ 0 ≤ (w64 (ln qs - 1)) ∧ (w64 (ln qs - 1)) < ln qs,fun _ hS => (hS.osl 0 rfl).oki ho1⟩]),se (fun _ _ => [⟨some (.slice (gi qs (w64 (ln qs - 1))).2.a (gi qs (w64 (ln qs - 1))).1.length (gi qs (w64 (ln qs - 1))).2.c),fun wz => V.at1 ⟨ab g13.a,ao g13.a + (w64 (ln qs - 1)).toNat * 1 + 0,none⟩ (.slice (gi qs (w64 (ln qs - 1))).2.a (gi qs (w64 (ln qs - 1))).1.length (gi qs (w64 (ln qs - 1))).2.c) wz,fun _ hS => (hS.osl 0 rfl).at1 ho1 0 rfl⟩]),se0,se0,se (fun _ _ => [⟨none,fun wz => oka af.a ∧ 0 ≤ v14 ∧ v14 < ln v_,fun _ hS => (hS.im 0 rfl).oki ho18⟩]),se (fun _ _ => [⟨some (.agg ⟨e0 (gi v_ v14) (af.s v14.toNat)⟩),fun wz => V.atN (ab af.a) (ao af.a + v14.toNat * 6) (e0 (gi v_ v14) (af.s v14.toNat)) 0 wz,fun _ hS => ((hS.im 0 rfl).atA ho18 0 rfl)⟩]),?_,?_,se (fun _ _ => [⟨none,fun wz => oka g13.a ∧ 0 ≤ (w64 (ln qs - 1)) ∧ (w64 (ln qs - 1)) < ln qs,fun _ hS => (hS.osl 0 rfl).oki ho1⟩]),?_,trivial⟩
     ·intro o ho a w y M Hb hv hO hS
      obtain rfl:=someE ho
      have H:=(Hb).add (hv 13 (by decide) (by decide) 59 rfl)
      have hd:=hS.hand [0] [0] rfl rfl
      refine Stp.mono (o_li (T:=a6) (E:=137) (zv:=vG [vU 0,vN,vI 0,vN,vF,vO]) (e0 (gi v_ v14) (af.s v14.toNat)) ([gi v_ v14] : List ae) [af.s v14.toNat] H hd rfl (InnL.cons ((hd.im 0 rfl).el ho18) InnL.nil)) ?_
      rintro v w2 hq
      obtain ⟨g27,rfl,hq⟩:=hq
      replace hS:=hS.join [0] [0] rfl rfl hq
      exact ⟨gL [g27],fun _ _ => rfl,hS.sel [0,1] rfl⟩
     ·intro o ho a w y M Hb hv hO hS
      obtain rfl:=someE ho
      have H:=((Hb).add (hv 9 (by decide) (by decide) 55 rfl)).add (hv 14 (by decide) (by decide) 60 rfl)
      have hd:=hS.hand [0,1] [] rfl rfl
      refine Stp.mono (o_appK (T:=a6) (zv:=vG [vU 0,vN,vI 0,vN,vF,vO]) ho1 q hq H hd rfl rfl rfl rfl rfl rfl rfl rfl (by kernel_rfl) (by kernel_rfl) rfl ho2) ?_
      rintro v w2 hq
      obtain ⟨g31,rfl,hq⟩:=hq
      replace hS:=hS.join [0,1] [] rfl rfl hq
      exact ⟨gL [g31],fun _ _ => rfl,hS.sel [0,1] rfl⟩
     ·intro o ho a w y M Hb hv hO hS
      obtain rfl:=someE ho
      have H:=((Hb).add (hv 16 (by decide) (by decide) 62 rfl)).add (hv 15 (by decide) (by decide) 61 rfl)
      have hd:=hS.hand [0] [] rfl rfl
      refine Stp.mono (o_estore (T:=tyHd ae) (g:=g13) (q:=qs) (ix:=(w64 (ln qs - 1))) (off:=0) ((q,y 15 0) : Hd ae) (gL []) H hd rfl rfl rfl rfl (by kernel_rfl) rfl rfl ho1 rfl trivial rfl) ?_
      rintro v w2 hq
      obtain ⟨s31,hq⟩:=hq
      replace hS:=hS.join [0] [] rfl rfl hq
      exact ⟨gL [Gh.mk none 0 s31],(fun _ h => by cases h),hS.sel [0] rfl⟩
    have hS : SH M X w [eO 34 (tyHd ae) (setl qs (w64 (ln qs - 1)) (q,y 15 0)) (Gh.mk g13.a g13.c (y 17 0).s),Ent.fam 137 a6 (setl qs (w64 (ln qs - 1)) (q,y 15 0)),eI a6 v_ af] _:=hS.sel [2,0,3] rfl
    exact ⟨⟨(setl qs (w64 (ln qs - 1)) (q,y 15 0),Gh.mk g13.a g13.c (y 17 0).s),by rw [← hd_setl]⟩,FrG.keep (ks:=[0,1,6,5]) H37 (by show keep _ _ = some (fz [0,1,6,5] [vL af v_,vU kind,vI v14,.slice g13.a (setl qs (w64 (ln qs - 1)) (q,y 15 0)).length g13.c]); rw [setl_len]; kernel_rfl),hS⟩
   ·rintro ⟨⟨qs',g47⟩,hq⟩
    refine t_w [0,1,5,6] [vL af v_,vU kind,vL g47 qs',vI (w64 (v14 + 1))] [] ?_
    exact fun _ _ H49 hS => ⟨_,Nat.lt_succ_self _,qs',w64 (v14 + 1),g47,hq ▸ hm,FrG.keep (ks:=[0,1,5,6]) H49 (by kernel_rfl),hS⟩
 ·intro g53
  refine t_sel [0] ?_
  refine t_r [4] [vL g53 z9] [] (t_ret ?_)
  obtain rfl:=someE hm
  exact t_g g53 [0] rs1
def jI (m : Nat)  : Nat → (List ae) → Option (List ae)
  | 0,_ => none
  | kk + 1,v5 =>
    chk ((decide (0 < (ln v5))) = true → 0 ≤ (0 : Int) ∧ (0 : Int) < ln v5) <|
    lt (cond (decide (0 < (ln v5))) (((gi v5 (0 : Int)).ax.aj) == 13) false) fun x8 =>
    cond x8 (
    chk (0 ≤ (1 : Int) ∧ (1 : Int) ≤ (ln v5) ∧ (ln v5) ≤ ln v5) <|
    lt (subl v5 (1 : Int) (ln v5)) fun q14 =>
    jI m  kk q14) (
    some v5)
def jw (m : Nat)  : Nat → (List ae) → Option (List ae)
  | 0,_ => none
  | kk + 1,v27 =>
    chk ((decide (0 < (ln v27))) = true → 0 ≤ (w64 ((ln v27) - 1)) ∧ (w64 ((ln v27) - 1)) < ln v27) <|
    lt (cond (decide (0 < (ln v27))) (((gi v27 (w64 ((ln v27) - 1))).ax.aj) == 13) false) fun x30 =>
    cond x30 (
    chk (0 ≤ (0 : Int) ∧ (0 : Int) ≤ (w64 ((ln v27) - 1)) ∧ (w64 ((ln v27) - 1)) ≤ ln v27) <|
    lt (subl v27 (0 : Int) (w64 ((ln v27) - 1))) fun q36 =>
    jw m  kk q36) (
    some v27)
def eg (m : Nat) (v_ : List ae) : Option (List ae) :=
  Option.bind (
  jI m  m v_) fun (z3 : List ae) =>
  Option.bind (
  jw m  m z3) fun (z25 : List ae) =>
  some z25
theorem dD {af : Gh} (m : Nat) (v_ : List ae) (r : List ae) (hm : eg m v_ = some r) : DoesM Tryz.prog 115 ⟨[vL af v_]⟩ [eI a6 v_ af] (fun (aA : Gh) => vL aA r) (fun aA => [eI a6 r aA]):=by
 rw [eg] at hm
 refine f_mem (Tryz.call115 _) Tryz.func115 Tryz.ntmps115 fun M X w => ?_
 refine t_r [0] [vL af v_] [] ?_
 obtain ⟨z3,hz,hm⟩:=bindE hm
 refine t_cutg [0] (fun (g23 : Gh) => [vL g23 z3]) (fun g23 => [eI a6 z3 g23,eI a6 v_ af]) ?_ ?_
 ·replace hm:=hz
  refine t_block ?_
  intro _ _ H2 hS
  replace hS:=hS.addIm (hS.im 0 rfl)
  refine w_loop (fun kk a' w' => ∃ (v5 : List ae) (g6 : Gh),jI m  kk v5 = some _ ∧ Fr 36 [(0,[],vL g6 v5)] a' ∧ SH M X w [eI a6 v5 g6,eI a6 v_ af] w') ⟨_,v_,af,hm,FrG.keep (ks:=[0]) H2 (by kernel_rfl),hS⟩ ?_
  clear hm H2 hS
  rintro kk _ _ ⟨v5,g6,hm,H,hS⟩
  cases kk with
  | zero => exact noneE hm
  | succ kk =>
   rw [jI] at hm
   refine t_in H hS (t_seq ?_)
   obtain ⟨ho7,hm⟩:=chkE hm
   obtain ⟨x8,hx8,hm⟩:=letE hm
   refine t_r [0,13] [vL g6 v5,vB x8] [kgi ((decide (0 < (ln v5))) = true ∧ True) 0 fun hg => (ho7 hg.1),kgj ((decide (0 < (ln v5))) = true ∧ True) 0 0 fun hg => (ho7 hg.1)] ?_ (he:=by subst hx8; kernel_rfl)
   refine t_im hm (fun hm => ?_) (fun hm => ?c21)
   case c21 =>
    refine t_exit ?_
    obtain rfl:=someE hm
    exact t_eg g6 [0]
   refine t_skip (t_block (t_start ?_))
   refine t_b 1 [14] [vL g6 v5] [] ?_
   obtain ⟨ho13,hm⟩:=chkE hm
   obtain ⟨q14,hq14,hm⟩:=letE hm
   refine t_m [0] [0,1] [] [] (fun _ _ H12 hd => o_sub (T:=a6) (E:=137) (g:=g6) (q:=v5) (1 : Int) (ln v5) (.some (vI 1)) .none H12 hd (hd.im 0 rfl) rfl rfl rfl rfl rfl rfl (.inr ⟨_,rfl⟩) (.inl ⟨rfl,rfl⟩) (by kernel_rfl) (by kernel_rfl) ho13) fun g17 => ?_
   rw [← hq14]
   refine t_b 3 [0] [vL g17 q14] [] (t_end (t_sel [0,1,3] (t_sel [0,2] ?_)))
   exact fun _ _ H20 hS => ⟨_,Nat.lt_succ_self _,q14,g17,hm,FrG.keep (ks:=[0]) H20 (by kernel_rfl),hS⟩
 ·intro g23
  refine t_sel [0] ?_
  obtain ⟨z25,hz,hm⟩:=bindE hm
  refine t_cutg [0] (fun (g45 : Gh) => [vL g45 z25]) (fun g45 => [eI a6 z25 g45,eI a6 z3 g23]) ?_ ?_
  ·replace hm:=hz
   refine t_block ?_
   intro _ _ H hS
   replace hS:=hS.addIm (hS.im 0 rfl)
   refine w_loop (fun kk a' w' => ∃ (v27 : List ae) (g28 : Gh),jw m  kk v27 = some _ ∧ Fr 36 [(0,[],vL g28 v27)] a' ∧ SH M X w [eI a6 v27 g28,eI a6 z3 g23] w') ⟨_,z3,g23,hm,FrG.keep (ks:=[0]) H (by kernel_rfl),hS⟩ ?_
   clear hm H hS
   rintro kk _ _ ⟨v27,g28,hm,H,hS⟩
   cases kk with
   | zero => exact noneE hm
   | succ kk =>
    rw [jw] at hm
    refine t_in H hS (t_seq ?_)
    obtain ⟨ho29,hm⟩:=chkE hm
    obtain ⟨x30,hx30,hm⟩:=letE hm
    refine t_r [0,29] [vL g28 v27,vB x30] [kgi ((decide (0 < (ln v27))) = true ∧ True) 0 fun hg => (ho29 hg.1),kgj ((decide (0 < (ln v27))) = true ∧ True) 0 0 fun hg => (ho29 hg.1)] ?_ (he:=by subst hx30; kernel_rfl)
    refine t_im hm (fun hm => ?_) (fun hm => ?c43)
    case c43 =>
     refine t_exit ?_
     obtain rfl:=someE hm
     exact t_eg g28 [0]
    refine t_skip (t_block (t_start ?_))
    refine t_b 4 [30,33] [vL g28 v27,vI (w64 ((ln v27) - 1))] [] ?_
    obtain ⟨ho35,hm⟩:=chkE hm
    obtain ⟨q36,hq36,hm⟩:=letE hm
    refine t_m [0] [0,1] [] [] (fun _ _ H34 hd => o_sub (T:=a6) (E:=137) (g:=g28) (q:=v27) (0 : Int) (w64 ((ln v27) - 1)) .none (.some (vI (w64 ((ln v27) - 1)))) H34 hd (hd.im 0 rfl) rfl rfl rfl rfl rfl rfl (.inl ⟨rfl,rfl⟩) (.inr ⟨_,rfl⟩) (by kernel_rfl) (by kernel_rfl) ho35) fun g39 => ?_
    rw [← hq36]
    refine t_b 6 [0] [vL g39 q36] [] (t_end (t_sel [0,1,3] (t_sel [0,2] ?_)))
    exact fun _ _ H42 hS => ⟨_,Nat.lt_succ_self _,q36,g39,hm,FrG.keep (ks:=[0]) H42 (by kernel_rfl),hS⟩
  ·intro g45
   refine t_sel [0] ?_
   refine t_r [2] [vL g45 z25] [] (t_ret ?_)
   obtain rfl:=someE hm
   exact t_g g45 [0] rs1

def lN (v_ : List ae) (i : Int) (kind : Int) (s : Str) : Option (Bool) :=
  lt (cond (decide (0 ≤ i)) (decide (i < (ln v_))) false) fun x3 =>
  chk (x3 = true → 0 ≤ i ∧ i < ln v_) <|
  lt (cond x3 (((gi v_ i).ax.aj) == kind) false) fun x5 =>
  chk ((s == []) = false → x5 = true → 0 ≤ i ∧ i < ln v_) <|
  lt (cond x5 (cond (s == []) true (((gi v_ i).ax.ei) == s)) false) fun x7 =>
  some x7
theorem ik {af : Gh} (v_ : List ae) (i : Int) (kind : Int) (s : Str) (r : Bool) (hm : lN v_ i kind s = some r) (w : World) (hL : S0 F0 [eI a6 v_ af] w ∧ fpl [eI a6 v_ af] = []) : RetB Tryz.prog 264 ⟨[vL af v_,vI i,vU kind,vS s]⟩ (vB r) w:=by
 rw [lN] at hm
 refine f_read hL (Tryz.call264 _) Tryz.func264 Tryz.ntmps264 fun M X w => ?_
 refine t_r [0,1,2,3] [vL af v_,vI i,vU kind,vS s] [] ?_
 obtain ⟨x3,hx3,hm⟩:=letE hm
 obtain ⟨ho4,hm⟩:=chkE hm
 obtain ⟨x5,hx5,hm⟩:=letE hm
 obtain ⟨ho6,hm⟩:=chkE hm
 obtain ⟨x7,hx7,hm⟩:=letE hm
 refine t_r [8] [vB x7] [kgi (x3 = true ∧ True) 0 fun hg => (ho4 hg.1),kgj (x3 = true ∧ True) 0 0 fun hg => (ho4 hg.1),kgi ((s == []) = false ∧ x5 = true ∧ True) 0 fun hg => (ho6 hg.1 hg.2.1),kgj ((s == []) = false ∧ x5 = true ∧ True) 0 1 fun hg => (ho6 hg.1 hg.2.1)] ?_ (he:=by subst hx3 hx5 hx7; kernel_rfl)
 refine t_sel [] (t_ret ?_)
 obtain rfl:=someE hm
 exact t_n [] rs1

structure ws where
  A : Int
  B : Int
instance : Inhabited ws:=⟨⟨default,default⟩⟩
def wT : Ty ws where
  z:=2
  enc:=fun x g => [vI x.A,vI x.B]
  inn:=fun _ _ _ _ => True
  len:=fun _ _ => rfl
  one:=fun _ _ => rfl
  kp:=fun _ _ _ => trivial
  anti:=fun _ _ => trivial
  fresh:=fun _ => trivial
mutual
inductive aK where
  | mk (wl : Int) (Parts : List bi) (gU : List Int)
inductive bi where
  | mk (Tag : Str) (aP : List cW)
inductive cW where
  | mk (aj : Int) (bA : Str) (Op : Int) (Value : Str) (wR : Bool) (Anb : ws) (Of : Bool) (a8 : List aK)
end
def aK.wl : aK → Int
  | .mk x _ _ => x
def aK.Parts : aK → List bi
  | .mk _ x _ => x
def aK.gU : aK → List Int
  | .mk _ _ x => x
def bi.Tag : bi → Str
  | .mk x _ => x
def bi.aP : bi → List cW
  | .mk _ x => x
def cW.aj : cW → Int
  | .mk x _ _ _ _ _ _ _ => x
def cW.bA : cW → Str
  | .mk _ x _ _ _ _ _ _ => x
def cW.Op : cW → Int
  | .mk _ _ x _ _ _ _ _ => x
def cW.Value : cW → Str
  | .mk _ _ _ x _ _ _ _ => x
def cW.wR : cW → Bool
  | .mk _ _ _ _ x _ _ _ => x
def cW.Anb : cW → ws
  | .mk _ _ _ _ _ x _ _ => x
def cW.Of : cW → Bool
  | .mk _ _ _ _ _ _ x _ => x
def cW.a8 : cW → List aK
  | .mk _ _ _ _ _ _ _ x => x
instance : Inhabited aK:=⟨.mk default default default⟩
instance : Inhabited bi:=⟨.mk default default⟩
instance : Inhabited cW:=⟨.mk default default default default default default default default⟩
def nw (x : aK) (g : Nat → Gh) : List Value:=[vU x.wl,.slice (g 0).a x.Parts.length (g 0).c,.slice (g 1).a x.gU.length (g 1).c]
def e1 (x : aK) (g : Nat → Gh) : List Value:=nw x g
def pb (x : bi) (g : Nat → Gh) : List Value:=[vS x.Tag,.slice (g 0).a x.aP.length (g 0).c]
def nV (x : cW) (g : Nat → Gh) : List Value:=[vU x.aj,vS x.bA,vU x.Op,vS x.Value,vB x.wR,vI x.Anb.A,vI x.Anb.B,vB x.Of,.slice (g 0).a x.a8.length (g 0).c]
def e3 (x : cW) (g : Nat → Gh) : List Value:=nV x g
mutual
inductive bJ (M : Av) (w : World) : aK → (Nat → Gh) → Prop
  | mk (x : aK) (g : Nat → Gh) (h0 : SlC 2 pb M w x.Parts (g 0)) (h1 : ∀ i (h : i < x.Parts.length),bq M w x.Parts[i] ((g 0).s i)) (h2 : SlG (tI .u8) M w x.gU (g 1)) : bJ M w x g
inductive bq (M : Av) (w : World) : bi → (Nat → Gh) → Prop
  | mk (x : bi) (g : Nat → Gh) (h0 : SlC 9 nV M w x.aP (g 0)) (h1 : ∀ i (h : i < x.aP.length),bP M w x.aP[i] ((g 0).s i)) : bq M w x g
inductive bP (M : Av) (w : World) : cW → (Nat → Gh) → Prop
  | mk (x : cW) (g : Nat → Gh) (h0 : SlC 3 nw M w x.a8 (g 0)) (h1 : ∀ i (h : i < x.a8.length),bJ M w x.a8[i] ((g 0).s i)) : bP M w x g
end
theorem rV {M : Av} {w w' : World} {X : List Nat} {x : aK} {g : Nat → Gh} (h : bJ M w x g) (k : Kp X w w') (hX : ∀ b ∈ X,M b) : bJ M w' x g :=
  bJ.rec (motive_1:=fun x g _ => bJ M w' x g) (motive_2:=fun x g _ => bq M w' x g) (motive_3:=fun x g _ => bP M w' x g) (fun x g h0 _ h2 ih1 => .mk x g (h0.kp k hX) ih1 (h2.kp k hX)) (fun x g h0 _ ih1 => .mk x g (h0.kp k hX) ih1) (fun x g h0 _ ih1 => .mk x g (h0.kp k hX) ih1) h
theorem rc {M : Av} {w w' : World} {X : List Nat} {x : bi} {g : Nat → Gh} (h : bq M w x g) (k : Kp X w w') (hX : ∀ b ∈ X,M b) : bq M w' x g :=
  bq.rec (motive_1:=fun x g _ => bJ M w' x g) (motive_2:=fun x g _ => bq M w' x g) (motive_3:=fun x g _ => bP M w' x g) (fun x g h0 _ h2 ih1 => .mk x g (h0.kp k hX) ih1 (h2.kp k hX)) (fun x g h0 _ ih1 => .mk x g (h0.kp k hX) ih1) (fun x g h0 _ ih1 => .mk x g (h0.kp k hX) ih1) h
theorem sf {M : Av} {w w' : World} {X : List Nat} {x : cW} {g : Nat → Gh} (h : bP M w x g) (k : Kp X w w') (hX : ∀ b ∈ X,M b) : bP M w' x g :=
  bP.rec (motive_1:=fun x g _ => bJ M w' x g) (motive_2:=fun x g _ => bq M w' x g) (motive_3:=fun x g _ => bP M w' x g) (fun x g h0 _ h2 ih1 => .mk x g (h0.kp k hX) ih1 (h2.kp k hX)) (fun x g h0 _ ih1 => .mk x g (h0.kp k hX) ih1) (fun x g h0 _ ih1 => .mk x g (h0.kp k hX) ih1) h
theorem qx {M M' : Av} {w : World} {x : aK} {g : Nat → Gh} (h : bJ M w x g) (hM : ∀ b,M' b → M b) : bJ M' w x g :=
  bJ.rec (motive_1:=fun x g _ => bJ M' w x g) (motive_2:=fun x g _ => bq M' w x g) (motive_3:=fun x g _ => bP M' w x g) (fun x g h0 _ h2 ih1 => .mk x g (h0.anti hM) ih1 (h2.anti hM)) (fun x g h0 _ ih1 => .mk x g (h0.anti hM) ih1) (fun x g h0 _ ih1 => .mk x g (h0.anti hM) ih1) h
theorem pz {M M' : Av} {w : World} {x : bi} {g : Nat → Gh} (h : bq M w x g) (hM : ∀ b,M' b → M b) : bq M' w x g :=
  bq.rec (motive_1:=fun x g _ => bJ M' w x g) (motive_2:=fun x g _ => bq M' w x g) (motive_3:=fun x g _ => bP M' w x g) (fun x g h0 _ h2 ih1 => .mk x g (h0.anti hM) ih1 (h2.anti hM)) (fun x g h0 _ ih1 => .mk x g (h0.anti hM) ih1) (fun x g h0 _ ih1 => .mk x g (h0.anti hM) ih1) h
theorem rl {M M' : Av} {w : World} {x : cW} {g : Nat → Gh} (h : bP M w x g) (hM : ∀ b,M' b → M b) : bP M' w x g :=
  bP.rec (motive_1:=fun x g _ => bJ M' w x g) (motive_2:=fun x g _ => bq M' w x g) (motive_3:=fun x g _ => bP M' w x g) (fun x g h0 _ h2 ih1 => .mk x g (h0.anti hM) ih1 (h2.anti hM)) (fun x g h0 _ ih1 => .mk x g (h0.anti hM) ih1) (fun x g h0 _ ih1 => .mk x g (h0.anti hM) ih1) h
theorem pr {M : Av} {w : World} {x : aK} {g : Nat → Gh} (h : bJ M w x g) : bJ (fun b => M b ∨ w.heap.size ≤ b) w x g :=
  bJ.rec (motive_1:=fun x g _ => bJ (fun b => M b ∨ w.heap.size ≤ b) w x g) (motive_2:=fun x g _ => bq (fun b => M b ∨ w.heap.size ≤ b) w x g) (motive_3:=fun x g _ => bP (fun b => M b ∨ w.heap.size ≤ b) w x g) (fun x g h0 _ h2 ih1 => .mk x g (h0.fresh) ih1 (h2.fresh)) (fun x g h0 _ ih1 => .mk x g (h0.fresh) ih1) (fun x g h0 _ ih1 => .mk x g (h0.fresh) ih1) h
theorem p4 {M : Av} {w : World} {x : bi} {g : Nat → Gh} (h : bq M w x g) : bq (fun b => M b ∨ w.heap.size ≤ b) w x g :=
  bq.rec (motive_1:=fun x g _ => bJ (fun b => M b ∨ w.heap.size ≤ b) w x g) (motive_2:=fun x g _ => bq (fun b => M b ∨ w.heap.size ≤ b) w x g) (motive_3:=fun x g _ => bP (fun b => M b ∨ w.heap.size ≤ b) w x g) (fun x g h0 _ h2 ih1 => .mk x g (h0.fresh) ih1 (h2.fresh)) (fun x g h0 _ ih1 => .mk x g (h0.fresh) ih1) (fun x g h0 _ ih1 => .mk x g (h0.fresh) ih1) h
theorem qv {M : Av} {w : World} {x : cW} {g : Nat → Gh} (h : bP M w x g) : bP (fun b => M b ∨ w.heap.size ≤ b) w x g :=
  bP.rec (motive_1:=fun x g _ => bJ (fun b => M b ∨ w.heap.size ≤ b) w x g) (motive_2:=fun x g _ => bq (fun b => M b ∨ w.heap.size ≤ b) w x g) (motive_3:=fun x g _ => bP (fun b => M b ∨ w.heap.size ≤ b) w x g) (fun x g h0 _ h2 ih1 => .mk x g (h0.fresh) ih1 (h2.fresh)) (fun x g h0 _ ih1 => .mk x g (h0.fresh) ih1) (fun x g h0 _ ih1 => .mk x g (h0.fresh) ih1) h
def au : Ty aK where
  z:=3
  enc:=nw
  inn:=bJ
  len:=fun _ _ => rfl
  one:=fun _ _ => rfl
  kp:=fun h k hX => rV h k hX
  anti:=fun h hM => qx h hM
  fresh:=fun h => pr h
def cb : Ty bi where
  z:=2
  enc:=pb
  inn:=bq
  len:=fun _ _ => rfl
  one:=fun _ _ => rfl
  kp:=fun h k hX => rc h k hX
  anti:=fun h hM => pz h hM
  fresh:=fun h => p4 h
def f7 : Ty cW where
  z:=9
  enc:=nV
  inn:=bP
  len:=fun _ _ => rfl
  one:=fun _ _ => rfl
  kp:=fun h k hX => sf h k hX
  anti:=fun h hM => rl h hM
  fresh:=fun h => qv h
theorem gj {M : Av} {w : World} {x : aK} {g : Nat → Gh} (h : au.inn M w x g) : SlG cb M w x.Parts (g 0):=by
  have h : bJ M w x g:=h
  cases h with
  | mk _ _ h0 h1 h2 => exact ⟨h0,h1⟩
theorem ux {M : Av} {w : World} {x : aK} {g : Nat → Gh} (h : au.inn M w x g) : SlG (tI .u8) M w x.gU (g 1):=by
  have h : bJ M w x g:=h
  cases h with
  | mk _ _ h0 h1 h2 => exact h2
theorem u5 {M : Av} {w : World} {x : aK} {g : Nat → Gh} (k0 : SlG cb M w x.Parts (g 0)) (k1 : SlG (tI .u8) M w x.gU (g 1)) : au.inn M w x g:=(bJ.mk x g k0.1 k0.2 k1 : bJ M w x g)
theorem tq {M : Av} {w : World} {x : bi} {g : Nat → Gh} (h : cb.inn M w x g) : SlG f7 M w x.aP (g 0):=by
  have h : bq M w x g:=h
  cases h with
  | mk _ _ h0 h1 => exact ⟨h0,h1⟩
theorem tM {M : Av} {w : World} {x : bi} {g : Nat → Gh} (k0 : SlG f7 M w x.aP (g 0)) : cb.inn M w x g:=(bq.mk x g k0.1 k0.2 : bq M w x g)
theorem wA {M : Av} {w : World} {x : cW} {g : Nat → Gh} (h : f7.inn M w x g) : SlG au M w x.a8 (g 0):=by
  have h : bP M w x g:=h
  cases h with
  | mk _ _ h0 h1 => exact ⟨h0,h1⟩
theorem wC {M : Av} {w : World} {x : cW} {g : Nat → Gh} (k0 : SlG au M w x.a8 (g 0)) : f7.inn M w x g:=(bP.mk x g k0.1 k0.2 : bP M w x g)
def uM (v_ : List ae) (i : Int) (p : dC) : Option (cW × Int × Bool) :=
  Option.bind (lN v_ i 4 []) fun y9 =>
  cond y9 (
  none) (
  Option.bind (lN v_ i 9 [46]) fun y12 =>
  cond y12 (
  none) (
  Option.bind (lN v_ i 19 []) fun y15 =>
  cond y15 (
  none) (
  Option.bind (lN v_ i 16 []) fun y18 =>
  Option.bind (cond y18 (lN v_ (w64 (i + 1)) 1 []) (some default)) fun y19 =>
  cond (cond y18 y19 false) (
  none) (
  Option.bind (lN v_ i 16 []) fun y22 =>
  Option.bind (cond y22 (lN v_ (w64 (i + 1)) 2 []) (some default)) fun y23 =>
  cond (cond y22 y23 false) (
  none) (
  Option.bind (lN v_ i 16 []) fun y26 =>
  some ((cW.mk 0 [] 0 [] false (ws.mk 0 0) false ([] : List aK)),i,!y26))))))
theorem w9 {af : Gh} (v_ : List ae) (i : Int) (p : dC) (r : cW × Int × Bool) (hm : uM v_ i p = some r) : DoesM Tryz.prog 265 ⟨[vL af v_,vI i,vG [vI p.fl,vB p.has]]⟩ [eI a6 v_ af] (fun (aA : Gh) => .tuple ⟨[.agg ⟨e3 r.1 (gL [aA])⟩,vI r.2.1,vB r.2.2]⟩) (fun aA => [eO 213 au r.1.a8 aA]):=by
 rw [uM] at hm
 refine f_mem (Tryz.call265 _) Tryz.func265 Tryz.ntmps265 fun M X w => (t_starts ?_)
 refine t_m [] [0] [0,1] [vL af v_,vI i] (fun _ _ H hd => o_box [vI p.fl,vB p.has] H hd rfl rfl) fun b1 => ?_
 refine t_m [] [0,1] [0,1,5] [vL af v_,vI i,vP b1] (fun _ _ H3 hd => o_alloc [vU 0,vN,vU 0,vN,vF,vI 0,vI 0,vF,vO] (z:=vG [vU 0,vN,vU 0,vN,vF,vI 0,vI 0,vF,vO]) hd (by kernel_rfl) rfl) fun b4 => ?_
 refine t_b 4 [0,1,5,6] [vL af v_,vI i,vP b1,vP b4] [] (t_end (t_seq (t_block ?_)))
 obtain ⟨y9,hy9,hm⟩:=bindE hm
 refine t_r [0,1,5,6,15] [vL af v_,vI i,vP b1,vP b4,vB y9] [kr fun _ hS => ik (af:=af) _ _ _ _ _ hy9 _ (s0im s0nil (hS.im 2 rfl))] ?_
 refine t_i2 hm (fun hm => ?_)
 obtain ⟨y12,hy12,hm⟩:=bindE hm
 refine t_r [0,1,5,6,34] [vL af v_,vI i,vP b1,vP b4,vB y12] [kr fun _ hS => ik (af:=af) _ _ _ _ _ hy12 _ (s0im s0nil (hS.im 2 rfl))] ?_
 refine t_im hm (fun hm => ?c37) (fun hm => ?_)
 case c37 =>
  refine t_seq ?_
  intro _ _ H14 hS
  exact noneE hm
 obtain ⟨y15,hy15,hm⟩:=bindE hm
 refine t_r [0,1,5,6,55] [vL af v_,vI i,vP b1,vP b4,vB y15] [kr fun _ hS => ik (af:=af) _ _ _ _ _ hy15 _ (s0im s0nil (hS.im 2 rfl))] ?_
 refine t_i2 hm (fun hm => ?_)
 obtain ⟨y18,hy18,hm⟩:=bindE hm
 obtain ⟨y19,hy19,hm⟩:=bindE hm
 refine t_r [0,1,5,6,72] [vL af v_,vI i,vP b1,vP b4,vB (cond y18 y19 false)] [kr fun _ hS => ik (af:=af) _ _ _ _ _ hy18 _ (s0im s0nil (hS.im 2 rfl)),kgr (y18 = true ∧ True) fun _ hS hg => ik (af:=af) _ _ _ _ _ (bT (hg.1) hy19) _ (s0im s0nil (hS.im 2 rfl))] ?_
 refine t_i2 hm (fun hm => ?_)
 obtain ⟨y22,hy22,hm⟩:=bindE hm
 obtain ⟨y23,hy23,hm⟩:=bindE hm
 refine t_r [0,1,5,6,97] [vL af v_,vI i,vP b1,vP b4,vB (cond y22 y23 false)] [kr fun _ hS => ik (af:=af) _ _ _ _ _ hy22 _ (s0im s0nil (hS.im 2 rfl)),kgr (y22 = true ∧ True) fun _ hS hg => ik (af:=af) _ _ _ _ _ (bT (hg.1) hy23) _ (s0im s0nil (hS.im 2 rfl))] ?_
 refine t_i2 hm (fun hm => ?_)
 refine t_skip (t_starts ?_)
 obtain ⟨y26,hy26,hm⟩:=bindE hm
 refine t_b 6 [6,129,130,134] [vP b4,vG [vU 0,vN,vU 0,vN,vF,vI 0,vI 0,vF,vO],vI i,vB (!y26)] [kr fun _ hS => ik (af:=af) _ _ _ _ _ hy26 _ (s0im s0nil (hS.im 2 rfl))] ?_
 refine t_m0 [0] [1,2] [6,130,134] [vP b4,vI i,vB (!y26)] (fun _ _ H28 hd => o_store [vU 0,vN,vU 0,vN,vF,vI 0,vI 0,vF,vO] H28 hd rfl rfl (by kernel_rfl) rfl rfl rfl) ?_
 refine t_b 9 [6,7,8] [vP b4,vI i,vB (!y26)] [] (t_end (t_sel [0] (t_ret ?_)))
 obtain rfl:=someE hm
 refine t_nil 213 au ?_
 exact fun _ _ H32 hS => retR3 H32 rfl (oneRes_agg rfl (hS.bk 1 rfl) Tryz.underlying220 rfl (by kernel_rfl)) rfl rfl ⟨_,rfl,Gh.nil,rfl,(hS.sel [0] rfl)⟩

def lr (m : Nat) (s : Str) : Nat → Int → Option (Unit)
  | 0,_ => none
  | kk + 1,v6 =>
    cond (decide (v6 < (ln s))) (
    chk (0 ≤ v6 ∧ v6 < ln s) <|
    cond ((bat s v6) == 0) (
    none) (
    lr m s kk (w64 (v6 + 1)))) (
    some ())
def qV (m : Nat) (s : Str) (dn : Int) : Option (Bool) :=
  Option.bind (
  lr m s m 0) fun (z3 : Unit) =>
  some (decide ((ln s) ≤ dn))
theorem uG  (m : Nat) (s : Str) (dn : Int) (r : Bool) (hm : qV m s dn = some r) : Ret Tryz.prog 272 ⟨[vS s,vI dn]⟩ (vB r):=by
 rw [qV] at hm
 refine f_pure (Tryz.call272 _) Tryz.func272 Tryz.ntmps272 fun M X w => ?_
 refine t_r [0,1] [vS s,vI dn] [] ?_
 obtain ⟨z3,hz,hm⟩:=bindE hm
 refine t_cut [0,1] [vS s,vI dn] [] ?_ ?_
 ·replace hm:=hz
  refine t_r [0,1,5] [vS s,vI dn,vI 0] [] (t_block ?_)
  intro _ _ H5 hS
  refine w_loop (fun kk a' w' => ∃ (v6 : Int),lr m s kk v6 = some _ ∧ Fr 20 (fS [0,1,5] [vS s,vI dn,vI v6]) a' ∧ SH M X w [] w') ⟨_,0,hm,FrG.keep (ks:=[0,1,5]) H5 (by kernel_rfl),hS⟩ ?_
  clear hm H5 hS
  rintro kk _ _ ⟨v6,hm,H,hS⟩
  cases kk with
  | zero => exact noneE hm
  | succ kk =>
   rw [lr] at hm
   refine t_in H hS (t_seq ?_)
   refine t_r [0,1,5,9] [vS s,vI dn,vI v6,vB (decide (v6 < (ln s)))] [] ?_
   refine t_im hm (fun hm => ?_) (fun hm => ?c15)
   case c15 =>
    refine t_exit ?_
    obtain rfl:=someE hm
    exact t_e [0,1]
   refine t_skip (t_seq (t_block ?_))
   obtain ⟨ho9,hm⟩:=chkE hm
   refine t_r [0,1,5,15] [vS s,vI dn,vI v6,vB ((bat s v6) == 0)] [kh ho9] ?_
   refine t_i2 hm (fun hm => ?_)
   refine t_skip ?_
   refine t_w [0,1,5] [vS s,vI dn,vI (w64 (v6 + 1))] [] ?_
   exact fun _ _ H13 hS => ⟨_,Nat.lt_succ_self _,w64 (v6 + 1),hm,FrG.keep (ks:=[0,1,5]) H13 (by kernel_rfl),hS⟩
 ·refine t_r [4] [vB (decide ((ln s) ≤ dn))] [] (t_ret ?_)
  obtain rfl:=someE hm
  exact t_n [] rs1

def oO (m : Nat) (s : Str) : Option (Bool) :=
  Option.bind (cond (!(s == [])) (qV m s 64) (some default)) fun y3 =>
  some (cond (!(s == [])) y3 false)
theorem qo  (m : Nat) (s : Str) (r : Bool) (hm : oO m s = some r) : Ret Tryz.prog 236 ⟨[vS s]⟩ (vB r):=by
 rw [oO] at hm
 refine f_pure (Tryz.call236 _) Tryz.func236 Tryz.ntmps236 fun M X w => ?_
 refine t_r [0] [vS s] [] ?_
 obtain ⟨y3,hy3,hm⟩:=bindE hm
 refine t_r [2] [vB (cond (!(s == [])) y3 false)] [kgc ((!(s == [])) = true ∧ True) fun hg => (uG m _ _ _ (bT (hg.1) hy3))] (t_ret ?_)
 obtain rfl:=someE hm
 exact t_n [] rs1

def rn (m : Nat) (s : Str) : Option (Bool) :=
  Option.bind (oO m s) fun y3 =>
  Option.bind (cond y3 (gI m s) (some default)) fun y4 =>
  some (cond y3 (s == y4) false)
theorem uq  (m : Nat) (s : Str) (r : Bool) (hm : rn m s = some r) : Ret Tryz.prog 292 ⟨[vS s]⟩ (vB r):=by
 rw [rn] at hm
 refine f_pure (Tryz.call292 _) Tryz.func292 Tryz.ntmps292 fun M X w => ?_
 refine t_r [0] [vS s] [] ?_
 obtain ⟨y3,hy3,hm⟩:=bindE hm
 obtain ⟨y4,hy4,hm⟩:=bindE hm
 refine t_r [2] [vB (cond y3 (s == y4) false)] [kc (qo m _ _ hy3),kgc (y3 = true ∧ True) fun hg => (fK m _ _ (bT (hg.1) hy4))] (t_ret ?_)
 obtain rfl:=someE hm
 exact t_n [] rs1

def l0 (m : Nat) (c_ : bi) : Nat → Int → Option (Unit)
  | 0,_ => none
  | kk + 1,v18 =>
    cond (decide (v18 < (ln c_.aP))) (
    none) (
    some ())
def nC (m : Nat) (c_ : bi) (p : dC) : Option (Bool) :=
  lt (cond (!(c_.Tag == [])) (!(c_.Tag == [42])) false) fun x9 =>
  Option.bind (cond x9 (rn m c_.Tag) (some default)) fun y10 =>
  lt (cond (cond x9 (!y10) false) true (cond (c_.Tag == []) ((ln c_.aP) == 0) false)) fun x11 =>
  lt (cond x11 true (decide (64 < (ln c_.aP)))) fun x12 =>
  cond x12 (
  none) (
  Option.bind (
  l0 m c_ m 0) fun (z15 : Unit) =>
  some true)
theorem rW {ac : Gh} (m : Nat) (c_ : bi) (p : dC) (r : Bool) (hm : nC m c_ p = some r) (w : World) (hL : S0 F0 [eI f7 c_.aP ac] w ∧ fpl [eI f7 c_.aP ac] = []) : RetB Tryz.prog 266 ⟨[vG [vS c_.Tag,vL ac c_.aP],vG [vI p.fl,vB p.has]]⟩ (vB r) w:=by
 rw [nC] at hm
 refine f_read hL (Tryz.call266 _) Tryz.func266 Tryz.ntmps266 fun M X w => (t_starts ?_)
 refine t_m [] [0] [1] [vG [vI p.fl,vB p.has]] (fun _ _ H hd => o_box [vS c_.Tag,vL ac c_.aP] H hd rfl rfl) fun b1 => ?_
 refine t_m [] [0,1] [2] [vP b1] (fun _ _ H3 hd => o_box [vI p.fl,vB p.has] H3 hd rfl rfl) fun b4 => ?_
 refine t_b 3 [2,3] [vP b1,vP b4] [] (t_end (t_seq ?_))
 obtain ⟨x9,hx9,hm⟩:=letE hm
 obtain ⟨y10,hy10,hm⟩:=bindE hm
 obtain ⟨x11,hx11,hm⟩:=letE hm
 obtain ⟨x12,hx12,hm⟩:=letE hm
 refine t_r [2,3,36] [vP b1,vP b4,vB x12] [kb 1 0,kgb ((!(c_.Tag == [])) = true ∧ True) 1 0,kgb (x9 = true ∧ True) 1 0,kgc (x9 = true ∧ True) fun hg => (uq m _ _ (bT (hg.1) hy10)),kgb ((cond x9 (!y10) false) = false ∧ True) 1 0,kgb ((c_.Tag == []) = true ∧ (cond x9 (!y10) false) = false ∧ True) 1 1,kgb (x11 = false ∧ True) 1 1] ?_ (he:=by subst hx9 hx11 hx12; kernel_rfl)
 refine t_i2 hm (fun hm => ?_)
 refine t_skip ?_
 obtain ⟨z15,hz,hm⟩:=bindE hm
 refine t_cut [] [] [eB b4 [vI p.fl,vB p.has],eB b1 [vS c_.Tag,vL ac c_.aP],eI f7 c_.aP ac] ?_ ?_
 ·replace hm:=hz
  refine t_r [2,3,5] [vP b1,vP b4,vI 0] [] (t_block ?_)
  intro _ _ H17 hS
  refine w_loop (fun kk a' w' => ∃ (v18 : Int),l0 m c_ kk v18 = some _ ∧ Fr 52 (fS [2,3,5] [vP b1,vP b4,vI v18]) a' ∧ SH M X w [eB b4 [vI p.fl,vB p.has],eB b1 [vS c_.Tag,vL ac c_.aP],eI f7 c_.aP ac] w') ⟨_,0,hm,FrG.keep (ks:=[2,3,5]) H17 (by kernel_rfl),hS⟩ ?_
  clear hm H17 hS
  rintro kk _ _ ⟨v18,hm,H,hS⟩
  cases kk with
  | zero => exact noneE hm
  | succ kk =>
   rw [l0] at hm
   refine t_in H hS (t_seq ?_)
   refine t_r [2,3,5,41] [vP b1,vP b4,vI v18,vB (decide (v18 < (ln c_.aP)))] [kb 1 1] ?_
   refine t_im hm (fun hm => ?_) (fun hm => ?c21)
   case c21 =>
    refine t_exit ?_
    obtain rfl:=someE hm
    exact t_e []
   refine t_skip (t_seq (t_block ?_))
   intro _ _ H20 hS
   exact noneE hm
 ·refine t_sel [] ?_
  refine t_r [4] [vT] [] (t_ret ?_)
  obtain rfl:=someE hm
  exact t_n [] rs1

def mR (m : Nat) (v_ : List ae) (p : dC) (y16 : Str) : Nat → Int → Option (bi × Int × Bool)
  | 0,_ => none
  | kk + 1,v23 =>
    Option.bind (uM v_ v23 p) fun y26 =>
    cond (!y26.2.2) (
    none) (
    cond (y26.2.1 == v23) (
    Option.bind (nC m (bi.mk y16 []) p) fun y45 =>
    some ((bi.mk y16 ([] : List cW)),v23,y45)) (
    none))
def pB (m : Nat) (v_ : List ae) (i : Int) (p : dC) : Option (bi × Int × Bool) :=
  Option.bind (lN v_ i 1 []) fun y12 =>
  cond y12 (
  chk (0 ≤ i ∧ i < ln v_) <|
  Option.bind (gI m ((gi v_ i).ax.ei)) fun y16 =>
  mR m v_ p y16 m (w64 (i + 1))) (
  none)
theorem tb {af : Gh} (m : Nat) (v_ : List ae) (i : Int) (p : dC) (r : bi × Int × Bool) (hm : pB m v_ i p = some r) : DoesM Tryz.prog 230 ⟨[vL af v_,vI i,vG [vI p.fl,vB p.has]]⟩ [eI a6 v_ af] (fun (aA : Gh) => vW [vG [vS r.1.Tag,vL aA r.1.aP],vI r.2.1,vB r.2.2]) (fun aA => [eO 220 f7 r.1.aP aA]):=by
 rw [pB] at hm
 refine f_mem (Tryz.call230 _) Tryz.func230 Tryz.ntmps230 fun M X w => (t_starts ?_)
 refine t_m [] [0] [0,1] [vL af v_,vI i] (fun _ _ H hd => o_box [vI p.fl,vB p.has] H hd rfl rfl) fun b1 => ?_
 refine t_m [] [0,1] [0,1,5] [vL af v_,vI i,vP b1] (fun _ _ H3 hd => o_alloc [vN,vO] (z:=vG [vN,vO]) hd (by kernel_rfl) rfl) fun b4 => ?_
 refine t_b 4 [0,1,5,6] [vL af v_,vI i,vP b1,vP b4] [] (t_end (t_starts ?_))
 refine t_m [] [0,1,2] [0,1,5,6] [vL af v_,vI i,vP b1,vP b4] (fun _ _ H8 hd => o_alloc [vN,vO] (z:=vG [vN,vO]) hd (by kernel_rfl) rfl) fun b9 => (t_end (t_seq ?_))
 obtain ⟨y12,hy12,hm⟩:=bindE hm
 refine t_r [0,1,5,6,9,15] [vL af v_,vI i,vP b1,vP b4,vP b9,vB y12] [kr fun _ hS => ik (af:=af) _ _ _ _ _ hy12 _ (s0im s0nil (hS.im 3 rfl))] ?_
 refine t_i1 hm (fun hm => ?_)
 refine t_starts ?_
 obtain ⟨ho15,hm⟩:=chkE hm
 obtain ⟨y16,hy16,hm⟩:=bindE hm
 refine t_b 8 [0,1,5,6,9,22,23] [vL af v_,vI i,vP b1,vP b4,vP b9,vS y16,vP b9] [ki 3 ho15,kj 3 1 ho15,kc (fK m _ _ hy16)] ?_
 refine t_m0 [0] [1,2,3] [0,1,5,6,9] [vL af v_,vI i,vP b1,vP b4,vP b9] (fun _ _ H18 hd => o_store [vS y16,vO] H18 hd rfl rfl (by kernel_rfl) rfl rfl rfl) (t_end ?_)
 refine t_w [0,1,5,6,9] [vL af v_,vI (w64 (i + 1)),vP b1,vP b4,vP b9] [] (t_block ?_)
 intro _ _ H22 hS
 refine w_loop (fun kk a' w' => ∃ (v23 : Int),mR m v_ p y16 kk v23 = some _ ∧ Fr 59 (fS [0,5,6,9,1] [vL af v_,vP b1,vP b4,vP b9,vI v23]) a' ∧ SH M X w [eB b9 [vS y16,vO],eB b4 [vN,vO],eB b1 [vI p.fl,vB p.has],eI a6 v_ af] w') ⟨_,w64 (i + 1),hm,FrG.keep (ks:=[0,5,6,9,1]) H22 (by kernel_rfl),hS⟩ ?_
 clear hm H22 hS
 rintro kk _ _ ⟨v23,hm,H,hS⟩
 cases kk with
 | zero => exact noneE hm
 | succ kk =>
  rw [mR] at hm
  refine t_in H hS (t_block (t_starts ?_))
  refine t_b 3 [0,1,5,6,9,33,34,35] [vL af v_,vI v23,vP b1,vP b4,vP b9,vL af v_,vI v23,vG [vI p.fl,vB p.has]] [kE 2 2] ?_
  obtain ⟨y26,hy26,hm⟩:=bindE hm
  refine t_c [3] [0,1,2,3] [0,1,5,6,9] [vL af v_,vI v23,vP b1,vP b4,vP b9] (w9 (af:=af) _ _ _ _ hy26) fun g27 => ?_
  refine t_b 8 [0,1,5,6,9,37,38,39] [vL af v_,vI v23,vP b1,vP b4,vP b9,.agg ⟨e3 y26.1 (gL [g27])⟩,vI y26.2.1,vB y26.2.2] [] ?_
  refine t_m [] [0,1,2,3,4] [0,1,5,6,9,37,38,39] [vL af v_,vI v23,vP b1,vP b4,vP b9,.agg ⟨e3 y26.1 (gL [g27])⟩,vI y26.2.1,vB y26.2.2] (fun _ _ H32 hd => o_alloc [vU 0,vN,vU 0,vN,vF,vI 0,vI 0,vF,vO] (z:=vG [vU 0,vN,vU 0,vN,vF,vI 0,vI 0,vF,vO]) hd (by kernel_rfl) rfl) fun b33 => ?_
  refine t_m0 [0] [1,2,3,4,5] [0,1,5,6,9,10,38,39] [vL af v_,vI v23,vP b1,vP b4,vP b9,vP b33,vI y26.2.1,vB y26.2.2] (fun _ _ H35 hd => o_store (e3 y26.1 (gL [g27])) H35 hd rfl rfl (by kernel_rfl) rfl rfl rfl) ?_
  refine t_b 12 [0,1,5,6,9,10,11,12] [vL af v_,vI v23,vP b1,vP b4,vP b9,vP b33,vI y26.2.1,vB y26.2.2] [] (t_end (t_seq ?_))
  refine t_r [0,1,5,6,9,10,11,41] [vL af v_,vI v23,vP b1,vP b4,vP b9,vP b33,vI y26.2.1,vB (!y26.2.2)] [] ?_
  refine t_i2 hm (fun hm => ?_)
  refine t_skip (t_seq ?_)
  refine t_r [0,1,5,6,9,10,11,46] [vL af v_,vI v23,vP b1,vP b4,vP b9,vP b33,vI y26.2.1,vB (y26.2.1 == v23)] [] ?_
  refine t_im hm (fun hm => ?_) (fun hm => ?c50)
  case c50 =>
   refine t_skip ?_
   intro _ _ H43 hS
   exact noneE hm
  obtain ⟨y45,hy45,hm⟩:=bindE hm
  intro _ _ H43 hS
  refine s_dS (base:=(fS [1,5,6,9] [vI v23,vP b1,vP b4,vP b9])) (L:=[eB b33 (e3 y26.1 (gL [g27])),eO 213 au y26.1.a8 g27,eB b9 [vS y16,vO],eB b4 [vN,vO],eB b1 [vI p.fl,vB p.has],eI a6 v_ af]) 8 6 (fun yg44 => [vG [vS y16,vO],vI v23,vG [vS y16,vO],vG [vI p.fl,vB p.has],vB y45,undef,vI v23,vB y45]) (fun yg44 => [[],[],[],[],[],[eB b4 [vS y16,vO]],[],[]]) [[10],[],[10],[12],[],[11],[],[]] [[],[],[],[],[],[11],[],[]] [[0],[1],[2],[3],[2,3,4],[0,5],[1,6],[2,3,4,7]] [] (FrG.keep (ks:=[1,5,6,9]) H43 (by kernel_rfl)) (fun _ _ h => by cases h) (by kernel_rfl) hS (by kernel_rfl) rfl rfl (by kernel_rfl) (by kernel_rfl) (by kernel_rfl) (gd_none (by kernel_rfl) _ _) ?hstep_yg44 fun _ _ yg44 H47 hv hS => ?hK_yg44
  case hstep_yg44 =>
   refine ⟨(se (fun _ _ => [⟨some (vG [vS y16,vO]),rN b9 0 [vS y16,vO],fun _ hS => ((hS.bk 0 rfl).atD rfl)⟩])),se0,(se (fun _ _ => [⟨some (vG [vS y16,vO]),rN b9 0 [vS y16,vO],fun _ hS => ((hS.bk 0 rfl).atD rfl)⟩])),(se (fun _ _ => [⟨some (vG [vI p.fl,vB p.has]),rN b1 0 [vI p.fl,vB p.has],fun _ hS => ((hS.bk 0 rfl).atD rfl)⟩])),(se (fun _ _ => [⟨some (vB y45),rB 266 [vG [vS y16,vO],vG [vI p.fl,vB p.has]] (vB y45),fun _ _ => (rW (ac:=Gh.nil) m _ _ _ hy45 _ (s0im s0nil (SlG.nil (M:=F0) (g:=Gh.nil))))⟩])),?_,se0,se0,trivial⟩
   ·intro o ho a w yg44 M Hb hv hO hS0
    obtain rfl:=someE ho
    have H:=(Hb).add (hv 0 (by decide) (by decide) 47 rfl)
    have hS:=hS0
    have hd:=hS.hand [0] [] rfl rfl
    refine Stp.mono (o_store [vS y16,vO] H hd rfl rfl (by kernel_rfl) rfl rfl rfl) ?_
    rintro v w2 hq
    replace hS:=hS.join [0] [] rfl rfl hq
    exact ⟨gL [],(fun _ h => by cases h),hS.sel [0] rfl⟩
  have H48 : Fr 59 (fS [8,7,6] [vB y45,vI v23,vP b4]) _:=(FrG.add (FrG.add (FrG.keep (ks:=[6]) H47 (by kernel_rfl)) (hv 6 7 rfl)) (hv 7 8 rfl))
  replace hS : SH M X w [eB b4 [vS y16,vO],eB b33 (e3 y26.1 (gL [g27])),eO 213 au y26.1.a8 g27,eB b9 [vS y16,vO],eB b1 [vI p.fl,vB p.has],eI a6 v_ af] _:=hS
  clear hv H47
  replace hS:=hS.sel [0,3,4,5] rfl
  refine t_in H48 hS (t_ret ?_)
  obtain rfl:=someE hm
  refine t_nil 220 f7 ?_
  exact fun _ _ H48 hS => retR3 H48 rfl (oneRes_agg rfl (hS.bk 1 rfl) Tryz.underlying216 rfl (by kernel_rfl)) rfl rfl ⟨_,rfl,Gh.nil,rfl,(hS.sel [0] rfl)⟩

def nx (m : Nat) (p : dC) (y14 : List ae) : Nat → Int → Option (aK × Bool)
  | 0,_ => none
  | kk + 1,v25 =>
    Option.bind (pB m y14 v25 p) fun y28 =>
    cond (!y28.2.2) (
    none) (
    chk (ln ([] : List bi) + ln ([y28.1] : List bi) ≤ 137438953472) <|
    lt (([] : List bi) ++ ([y28.1] : List bi)) fun q52 =>
    cond (y28.2.1 == (ln y14)) (
    some ((aK.mk 0 q52 ([] : List Int)),decide ((ln q52) ≤ 64))) (
    none))
def oN (m : Nat) (v_ : List ae) (p : dC) (aY : Bool) : Option (aK × Bool) :=
  Option.bind (eg m v_) fun y14 =>
  cond aY (
  none) (
  nx m p y14 m 0)
theorem vj {af : Gh} (M : Av) (m : Nat) (v_ : List ae) (p : dC) (aY : Bool) (r : aK × Bool) (hm : oN m v_ p aY = some r) (w : World) (hS : S0 M [eI a6 v_ af] w) : Calls Tryz.prog 175 ⟨[vL af v_,vG [vI p.fl,vB p.has],vB aY]⟩ w (fun e w' => ∃ v,e = .returned v ∧ ∃ (aA : Gh) (cY : Gh),v = .tuple ⟨[.agg ⟨e1 r.1 (gL [aA,cY])⟩,vB r.2]⟩ ∧ SH M (fpl [eI a6 v_ af]) w [eO 216 cb r.1.Parts aA,eO 5 (tI .u8) r.1.gU cY] w'):=by
 rw [oN] at hm
 have hS0 : SH M (fpl [eI a6 v_ af]) w [eI a6 v_ af] w:=hS
 generalize hX : fpl [eI a6 v_ af] = X at hS0 ⊢
 clear hS hX
 have hS:=hS0
 clear hS0
 refine calls_entryP Tryz.func175 rfl Tryz.ntmps175 rfl fun _ H => ?_
 refine t_in H hS (t_starts ?_)
 refine t_m [] [0] [0,2] [vL af v_,vB aY] (fun _ _ H hd => o_box [vI p.fl,vB p.has] H hd rfl rfl) fun b1 => ?_
 refine t_m [] [0,1] [0,2,4] [vL af v_,vB aY,vP b1] (fun _ _ H3 hd => o_alloc [vU 0,vO,vO] (z:=vG [vU 0,vO,vO]) hd (by kernel_rfl) rfl) fun b4 => ?_
 refine t_b 3 [0,2,4,6] [vL af v_,vB aY,vP b1,vP b4] [] (t_end (t_starts ?_))
 refine t_m [] [0,1,2] [0,2,4,6] [vL af v_,vB aY,vP b1,vP b4] (fun _ _ H8 hd => o_alloc [vU 0,vO,vO] (z:=vG [vU 0,vO,vO]) hd (by kernel_rfl) rfl) fun b9 => (t_end (t_starts ?_))
 refine t_b 1 [2,4,6,8,15] [vB aY,vP b1,vP b4,vP b9,vL af v_] [] ?_
 obtain ⟨y14,hy14,hm⟩:=bindE hm
 refine t_c [3] [0,1,2,3] [2,4,6,8] [vB aY,vP b1,vP b4,vP b9] (dD (af:=af) m _ _ hy14) fun g15 => ?_
 refine t_b 3 [0,2,4,6,8] [vL g15 y14,vB aY,vP b1,vP b4,vP b9] [] (t_end (t_sel [0,1,2,3] ?_))
 refine t_r [0,2,4,6,8,9] [vL g15 y14,vB aY,vP b1,vP b4,vP b9,vI 0] [] (t_seq ?_)
 refine t_r [0,4,6,8,9,17] [vL g15 y14,vP b1,vP b4,vP b9,vI 0,vB aY] [] ?_
 refine t_i2 hm (fun hm => ?_)
 refine t_skip (t_block ?_)
 intro _ _ H24 hS
 refine w_loop (fun kk a' w' => ∃ (v25 : Int),nx m p y14 kk v25 = some _ ∧ Fr 75 (fS [0,4,6,8,9] [vL g15 y14,vP b1,vP b4,vP b9,vI v25]) a' ∧ SH M X w [eI a6 y14 g15,eB b9 [vU 0,vO,vO],eB b4 [vU 0,vO,vO],eB b1 [vI p.fl,vB p.has]] w') ⟨_,0,hm,FrG.keep (ks:=[0,4,6,8,9]) H24 (by kernel_rfl),hS⟩ ?_
 clear hm H24 hS
 rintro kk _ _ ⟨v25,hm,H,hS⟩
 cases kk with
 | zero => exact noneE hm
 | succ kk =>
  rw [nx] at hm
  refine t_in H hS (t_block (t_starts ?_))
  refine t_b 3 [0,4,6,8,28,29,30] [vL g15 y14,vP b1,vP b4,vP b9,vL g15 y14,vI v25,vG [vI p.fl,vB p.has]] [kE 3 2] ?_
  obtain ⟨y28,hy28,hm⟩:=bindE hm
  refine t_c [0] [0,1,2,3] [0,4,6,8] [vL g15 y14,vP b1,vP b4,vP b9] (tb (af:=g15) m _ _ _ _ hy28) fun g29 => ?_
  refine t_b 8 [0,4,6,8,32,33,34] [vL g15 y14,vP b1,vP b4,vP b9,vG [vS y28.1.Tag,vL g29 y28.1.aP],vI y28.2.1,vB y28.2.2] [] ?_
  refine t_m [] [0,1,2,3,4] [0,4,6,8,32,33,34] [vL g15 y14,vP b1,vP b4,vP b9,vG [vS y28.1.Tag,vL g29 y28.1.aP],vI y28.2.1,vB y28.2.2] (fun _ _ H34 hd => o_alloc [vN,vO] (z:=vG [vN,vO]) hd (by kernel_rfl) rfl) fun b35 => ?_
  refine t_m0 [0] [1,2,3,4,5] [0,4,6,8,11,33,34] [vL g15 y14,vP b1,vP b4,vP b9,vP b35,vI y28.2.1,vB y28.2.2] (fun _ _ H37 hd => o_store [vS y28.1.Tag,vL g29 y28.1.aP] H37 hd rfl rfl (by kernel_rfl) rfl rfl rfl) ?_
  refine t_b 12 [0,4,6,8,11,12,13] [vL g15 y14,vP b1,vP b4,vP b9,vP b35,vI y28.2.1,vB y28.2.2] [] (t_end (t_seq ?_))
  refine t_r [0,4,6,8,11,12,36] [vL g15 y14,vP b1,vP b4,vP b9,vP b35,vI y28.2.1,vB (!y28.2.2)] [] ?_
  refine t_i2 hm (fun hm => ?_)
  refine t_skip (t_starts ?_)
  refine t_b 3 [0,4,6,8,12,39,40] [vL g15 y14,vP b1,vP b4,vP b9,vI y28.2.1,vO,vG [vS y28.1.Tag,vL g29 y28.1.aP]] [kb 3 1,kE 0 2] ?_
  refine t_frz [1,0,2,3,4,5] ?_
  refine t_m [0] [0,1,2,3,4,5] [0,4,6,8,12,39] [vL g15 y14,vP b1,vP b4,vP b9,vI y28.2.1,vO] (fun _ _ H45 hd => o_li (T:=cb) (E:=216) (zv:=vG [vN,vO]) [vS y28.1.Tag,vL g29 y28.1.aP] ([y28.1] : List bi) [gL [g29]] H45 hd rfl (InnL.cons (tM (hd.im 0 rfl)) InnL.nil)) fun g46 => ?_
  refine t_nil 216 cb ?_
  obtain ⟨ho51,hm⟩:=chkE hm
  obtain ⟨q52,hq52,hm⟩:=letE hm
  refine t_m [0,1] [2,3,4,5,6,7] [0,4,6,8,12] [vL g15 y14,vP b1,vP b4,vP b9,vI y28.2.1] (fun _ _ H49 hd => o_app2 (T:=cb) (zv:=vG [vN,vO]) (g1:=Gh.nil) (g2:=g46) (l1:=([] : List bi)) (l2:=([y28.1] : List bi)) q52 hq52.symm H49 hd rfl rfl rfl rfl rfl rfl rfl (by kernel_rfl) (by kernel_rfl) rfl rfl ho51) fun g55 => ?_
  refine t_b 6 [0,4,6,8,12,42,43] [vL g15 y14,vP b1,vP b4,vP b9,vI y28.2.1,vL g55 q52,vA b9 1] [] ?_
  refine t_m0 [5] [0,1,2,3,4,6,7] [0,4,6,8,12] [vL g15 y14,vP b1,vP b4,vP b9,vI y28.2.1] (fun _ _ H57 hd => o_store [vU 0,vL g55 q52,vO] H57 hd rfl rfl (by kernel_rfl) rfl rfl rfl) (t_end (t_sel [0,1,5,6,7] (t_seq ?_)))
  refine t_r [0,4,6,8,12,47] [vL g15 y14,vP b1,vP b4,vP b9,vI y28.2.1,vB (y28.2.1 == (ln y14))] [] ?_
  refine t_im hm (fun hm => ?_) (fun hm => ?c67)
  case c67 =>
   refine t_skip ?_
   intro _ _ H61 hS
   exact noneE hm
  intro _ _ H61 hS
  refine s_dS (base:=(fS [6,8] [vP b4,vP b9])) (L:=[eB b9 [vU 0,vL g55 q52,vO],eO 216 cb q52 g55,eI a6 y14 g15,eB b4 [vU 0,vO,vO],eB b1 [vI p.fl,vB p.has]]) 7 5 (fun yg62 => [vG [vU 0,vL g55 q52,vO],vA b9 1,vL g55 q52,vI (ln q52),vB (decide ((ln q52) ≤ 64)),undef,vB (decide ((ln q52) ≤ 64))]) (fun yg62 => [[],[],[],[],[],[eB b4 [vU 0,vL g55 q52,vO]],[]]) [[7,8],[7,8],[7,8],[8],[],[8,10],[]] [[],[],[],[],[],[10],[]] [[0],[1],[1,2],[1,2,3],[1,2,3,4],[0,5],[1,2,3,4,6]] [] (FrG.keep (ks:=[6,8]) H61 (by kernel_rfl)) (fun _ _ h => by cases h) (by kernel_rfl) hS (by kernel_rfl) rfl rfl (by kernel_rfl) (by kernel_rfl) (by kernel_rfl) (gd_none (by kernel_rfl) _ _) ?hstep_yg62 fun _ _ yg62 H64 hv hS => ?hK_yg62
  case hstep_yg62 =>
   refine ⟨(se (fun _ _ => [⟨some (vG [vU 0,vL g55 q52,vO]),rN b9 0 [vU 0,vL g55 q52,vO],fun _ hS => ((hS.bk 0 rfl).atD rfl)⟩])),se0,(se (fun _ _ => [⟨some (vL g55 q52),rA b9 1 (vL g55 q52),fun _ hS => ((hS.bk 0 rfl).at1 rfl)⟩])),se0,se0,?_,se0,trivial⟩
   ·intro o ho a w yg62 M Hb hv hO hS0
    obtain rfl:=someE ho
    have H:=(Hb).add (hv 0 (by decide) (by decide) 48 rfl)
    have hS:=hS0
    have hd:=hS.hand [1] [0] rfl rfl
    refine Stp.mono (o_store [vU 0,vL g55 q52,vO] H hd rfl rfl (by kernel_rfl) rfl rfl rfl) ?_
    rintro v w2 hq
    replace hS:=hS.join [1] [0] rfl rfl hq
    exact ⟨gL [],(fun _ h => by cases h),hS.sel [0,1] rfl⟩
  have H65 : Fr 75 (fS [7,6] [vB (decide ((ln q52) ≤ 64)),vP b4]) _:=(FrG.add (FrG.keep (ks:=[6]) H64 (by kernel_rfl)) (hv 6 7 rfl))
  replace hS : SH M X w [eB b4 [vU 0,vL g55 q52,vO],eB b9 [vU 0,vL g55 q52,vO],eO 216 cb q52 g55,eI a6 y14 g15,eB b1 [vI p.fl,vB p.has]] _:=hS
  clear hv H64
  refine t_in H65 hS (t_ret ?_)
  obtain rfl:=someE hm
  refine t_nil 5 (tI .u8) ?_
  exact fun _ _ H65 hS => retR2 H65 rfl (oneRes_agg rfl (hS.bk 1 rfl) Tryz.underlying213 rfl (by kernel_rfl)) rfl ⟨_,rfl,g55,Gh.nil,rfl,(hS.sel [3,0] rfl)⟩
theorem uD {af : Gh} (m : Nat) (v_ : List ae) (p : dC) (aY : Bool) (r : aK × Bool) (hm : oN m v_ p aY = some r) (M : Av) (w : World) (hS : S0 M [eI a6 v_ af] w) : DoesX Tryz.prog 175 ⟨[vL af v_,vG [vI p.fl,vB p.has],vB aY]⟩ w (fun v w' => ∃ (aA : Gh) (cY : Gh),v = .tuple ⟨[.agg ⟨e1 r.1 (gL [aA,cY])⟩,vB r.2]⟩ ∧ SH M (fpl [eI a6 v_ af]) w [eO 216 cb r.1.Parts aA,eO 5 (tI .u8) r.1.gU cY] w'):=⟨Tryz.call175 _,vj M m   v_ p aY r hm w hS⟩

def mG (m : Nat) (p : dC) (aY : Bool) (y10 : List (List ae)) : Nat → (List aK) → Int → Option (List aK)
  | 0,_,_ => none
  | kk + 1,v21,v23 =>
    cond (decide (v23 < (ln y10))) (
    chk (0 ≤ v23 ∧ v23 < ln y10) <|
    Option.bind (oN m (gi y10 v23) p aY) fun y29 =>
    cond y29.2 (
    chk (ln v21 + ln ([y29.1] : List aK) ≤ 137438953472) <|
    lt (v21 ++ ([y29.1] : List aK)) fun q50 =>
    mG m p aY y10 kk q50 (w64 (v23 + 1))) (
    none)) (
    some v21)
def s5 (m : Nat) (v_ : List ae) (p : dC) (aY : Bool) (dy : Bool) : Option ((List aK) × Bool) :=
  Option.bind (lI m v_ 18) fun y10 =>
  Option.bind (
  mG m p aY y10 m ([] : List aK) 0) fun (z17 : List aK) =>
  some (z17,true)
theorem va {af : Gh} (m : Nat) (v_ : List ae) (p : dC) (aY : Bool) (dy : Bool) (r : (List aK) × Bool) (hm : s5 m v_ p aY dy = some r) : DoesM Tryz.prog 110 ⟨[vL af v_,vG [vI p.fl,vB p.has],vB aY,vB dy]⟩ [eI a6 v_ af] (fun (aA : Gh) => vW [vL aA r.1,vB r.2]) (fun aA => [eO 213 au r.1 aA]):=by
 rw [s5] at hm
 refine f_mem (Tryz.call110 _) Tryz.func110 Tryz.ntmps110 fun M X w => (t_starts ?_)
 refine t_m [] [0] [0,2,3] [vL af v_,vB aY,vB dy] (fun _ _ H hd => o_box [vI p.fl,vB p.has] H hd rfl rfl) fun b1 => ?_
 refine t_b 3 [0,2,3,5] [vL af v_,vB aY,vB dy,vP b1] [] (t_end ?_)
 refine t_r [0,2,3,5,10] [vL af v_,vB aY,vB dy,vP b1,vO] [] (t_starts ?_)
 refine t_b 1 [2,3,5,10,15] [vB aY,vB dy,vP b1,vO,vL af v_] [] ?_
 obtain ⟨y10,hy10,hm⟩:=bindE hm
 refine t_c [1] [0,1] [2,3,5,10] [vB aY,vB dy,vP b1,vO] (lB (af:=af) m _ _ _ hy10) fun g11 => ?_
 refine t_b 3 [2,3,5,10,11] [vB aY,vB dy,vP b1,vO,vL g11 y10] [] (t_end (t_sel [0,1] ?_))
 obtain ⟨z17,hz,hm⟩:=bindE hm
 refine t_cutg [10] (fun (g61 : Gh) => [vL g61 z17]) (fun g61 => [eO 213 au z17 g61,eO 34 (Ty.sl a6) y10 g11,eB b1 [vI p.fl,vB p.has]]) ?_ ?_
 ·replace hm:=hz
  refine t_r [2,3,5,10,11,12] [vB aY,vB dy,vP b1,vO,vL g11 y10,vI 0] [] (t_block ?_)
  refine t_nil 213 au ?_
  intro _ _ H19 hS
  refine w_loop (fun kk a' w' => ∃ (v21 : List aK) (v23 : Int) (g22 : Gh),mG m p aY y10 kk v21 v23 = some _ ∧ Fr 41 (fS [2,3,5,11,10,12] [vB aY,vB dy,vP b1,vL g11 y10,vL g22 v21,vI v23]) a' ∧ SH M X w [eO 213 au v21 g22,eO 34 (Ty.sl a6) y10 g11,eB b1 [vI p.fl,vB p.has]] w') ⟨_,([] : List aK),0,Gh.nil,hm,FrG.keep (ks:=[2,3,5,11,10,12]) H19 (by kernel_rfl),hS⟩ ?_
  clear hm H19 hS
  rintro kk _ _ ⟨v21,v23,g22,hm,H,hS⟩
  cases kk with
  | zero => exact noneE hm
  | succ kk =>
   rw [mG] at hm
   refine t_in H hS (t_seq ?_)
   refine t_r [2,3,5,10,11,12,20] [vB aY,vB dy,vP b1,vL g22 v21,vL g11 y10,vI v23,vB (decide (v23 < (ln y10)))] [] ?_
   refine t_im hm (fun hm => ?_) (fun hm => ?c59)
   case c59 =>
    refine t_exit ?_
    obtain rfl:=someE hm
    exact t_eg g22 [10]
   refine t_skip (t_seq (t_block ?_))
   obtain ⟨ho27,hm⟩:=chkE hm
   obtain ⟨y29,hy29,hm⟩:=bindE hm
   intro _ _ H25 hS
   refine s_dS (base:=(fS [2,3,5,10,11,12] [vB aY,vB dy,vP b1,vL g22 v21,vL g11 y10,vI v23])) (L:=[eO 213 au v21 g22,eO 34 (Ty.sl a6) y10 g11,eB b1 [vI p.fl,vB p.has]]) 13 3 (fun yg26 => [vL g11 y10,vI v23,.pointer (some ⟨ab g11.a,ao g11.a + (v23).toNat * 1,none⟩),.slice (g11.s (v23).toNat 0).a ((gi y10 v23).length) (g11.s (v23).toNat 0).c,vG [vI p.fl,vB p.has],vB aY,.tuple ⟨[.agg ⟨e1 y29.1 (yg26 6)⟩,vB y29.2]⟩,.tuple ⟨[.agg ⟨e1 y29.1 (yg26 6)⟩,vB y29.2]⟩,.agg ⟨e1 y29.1 (yg26 6)⟩,vB y29.2,.pointer (some ⟨(ab (yg26 10 0).a),0,none⟩),undef,vB y29.2]) (fun yg26 => [[],[],[],[eI a6 (gi y10 v23) (g11.s (v23).toNat 0)],[],[],[eO 216 cb y29.1.Parts (yg26 6 0),eO 5 (tI .u8) y29.1.gU (yg26 6 1)],[],[],[],[eB (ab (yg26 10 0).a) [vU 0,vO,vO]],[eB (ab (yg26 10 0).a) (e1 y29.1 (yg26 6))],[]]) [[],[],[14],[14],[15],[],[3],[],[6],[6],[],[6,10],[]] [[],[],[],[],[],[],[],[],[],[],[],[10],[]] [[0],[1],[0,1,2],[0,1,2,3],[4],[5],[0,1,2,3,4,5,6],[0,1,2,3,4,5,6,7],[0,1,2,3,4,5,6,7,8],[0,1,2,3,4,5,6,7,9],[10],[0,1,2,3,4,5,6,7,8,10,11],[0,1,2,3,4,5,6,7,9,12]] [] (FrG.keep (ks:=[2,3,5,10,11,12]) H25 (by kernel_rfl)) (fun _ _ h => by cases h) (by kernel_rfl) hS (by kernel_rfl) rfl rfl (by kernel_rfl) (by kernel_rfl) (by kernel_rfl) (gd_none (by kernel_rfl) _ _) ?hstep_yg26 fun _ _ yg26 H36 hv hS => ?hK_yg26
   case hstep_yg26 =>
    refine ⟨se0,se0,(se (fun _ _ => [⟨none,fun _ => oka g11.a ∧ 0 ≤ v23 ∧ v23 < ln y10,fun _ hS => ((hS.osl 0 rfl).oki ho27)⟩])),?_,(se (fun _ _ => [⟨some (vG [vI p.fl,vB p.has]),rN b1 0 [vI p.fl,vB p.has],fun _ hS => ((hS.bk 0 rfl).atD rfl)⟩])),se0,?_,se0,se0,se0,?_,?_,se0,trivial⟩
    ·intro o ho a w yg26 M Hb hv hO hS0
     obtain rfl:=someE ho
     have H:=(Hb).add (hv 2 (by decide) (by decide) 26 rfl)
     have hS:=hS0
     refine Stp.mono (o_evs [(.slice (g11.s (v23).toNat 0).a ((gi y10 v23).length) (g11.s (v23).toNat 0).c)] (.slice (g11.s (v23).toNat 0).a ((gi y10 v23).length) (g11.s (v23).toNat 0).c) (some (fun wz => V.at1 ⟨ab g11.a,ao g11.a + (v23).toNat * 1,none⟩ (.slice (g11.s (v23).toNat 0).a ((gi y10 v23).length) (g11.s (v23).toNat 0).c) wz)) [] H rfl (by kernel_rfl) (fun q e => by cases e; exact ((hS.osl 0 rfl).at1 ho27 0 rfl))) ?_
     rintro v w2 ⟨rfl,hq⟩
     replace hS:=hS.below hq.below
     replace hS:=hS.addIm (sl_inn ((hS.ow 0 rfl).el ho27))
     exact ⟨gL [],fun _ _ => rfl,hS.sel [0,1] rfl⟩
    ·intro o ho a w yg26 M Hb hv hO hS0
     obtain rfl:=someE ho
     have H:=(((Hb).add (hv 3 (by decide) (by decide) 27 rfl)).add (hv 4 (by decide) (by decide) 28 rfl)).add (hv 5 (by decide) (by decide) 29 rfl)
     have hS:=hS0
     have hd:=hS.hand [0] [0] rfl rfl
     refine Stp.mono (o_callx H rfl rfl (uD (af:=(g11.s (v23).toNat 0)) m _ _ _ _ hy29 _ _ hd)) ?_
     rintro v w2 hq
     obtain ⟨g30,g32,rfl,hq⟩:=hq
     replace hS:=hS.join [0] [0] rfl rfl hq
     exact ⟨gL [g30,g32],fun _ _ => rfl,hS.sel [0,1,2] rfl⟩
    ·intro o ho a w yg26 M Hb hv hO hS0
     obtain rfl:=someE ho
     have H:=Hb
     have hS:=hS0
     have hd:=hS.hand [] [] rfl rfl
     refine Stp.mono (o_alloc [vU 0,vO,vO] (z:=vG [vU 0,vO,vO]) hd (by kernel_rfl) rfl) ?_
     rintro v w2 hq
     obtain ⟨b34,rfl,hq⟩:=hq
     replace hS:=hS.join [] [] rfl rfl hq
     exact ⟨gL [Gh.mk (some ⟨b34,0,none⟩) 0 fun _ _ => .nil],fun _ _ => rfl,hS.sel [0] rfl⟩
    ·intro o ho a w yg26 M Hb hv hO hS0
     obtain rfl:=someE ho
     have H:=((Hb).add (hv 10 (by decide) (by decide) 13 rfl)).add (hv 8 (by decide) (by decide) 31 rfl)
     have hS:=hS0
     have hd:=hS.hand [2] [0,1] rfl rfl
     refine Stp.mono (o_store (e1 y29.1 (yg26 6)) H hd rfl rfl (by kernel_rfl) rfl rfl rfl) ?_
     rintro v w2 hq
     replace hS:=hS.join [2] [0,1] rfl rfl hq
     exact ⟨gL [],(fun _ h => by cases h),hS.sel [0,1,2] rfl⟩
   have H37 : Fr 41 (fS [14,13,2,3,5,10,11,12] [vB y29.2,.pointer (some ⟨(ab (yg26 10 0).a),0,none⟩),vB aY,vB dy,vP b1,vL g22 v21,vL g11 y10,vI v23]) _:=(FrG.add (FrG.add (FrG.keep (ks:=[2,3,5,10,11,12]) H36 (by kernel_rfl)) (hv 10 13 rfl)) (hv 12 14 rfl))
   replace hS : SH M X w [eI a6 (gi y10 v23) (g11.s (v23).toNat 0),eO 216 cb y29.1.Parts (yg26 6 0),eO 5 (tI .u8) y29.1.gU (yg26 6 1),eB (ab (yg26 10 0).a) (e1 y29.1 (yg26 6)),eO 213 au v21 g22,eO 34 (Ty.sl a6) y10 g11,eB b1 [vI p.fl,vB p.has]] _:=hS
   clear hv H36
   generalize ab (yg26 10 0).a = b38 at H37 hS
   generalize yg26 6 0 = g39 at H37 hS
   generalize yg26 6 1 = g40 at H37 hS
   replace hS:=hS.sel [1,2,3,4,5,6] rfl
   refine t_in H37 hS ?_
   refine t_r [2,3,5,10,11,12,13,33] [vB aY,vB dy,vP b1,vL g22 v21,vL g11 y10,vI v23,vP b38,vB y29.2] [] ?_
   refine t_i1 hm (fun hm => ?_)
   refine t_start ?_
   refine t_b 2 [2,3,5,11,12,34,35] [vB aY,vB dy,vP b1,vL g11 y10,vI v23,vL g22 v21,.agg ⟨e1 y29.1 (gL [g39,g40])⟩] [kE 2 3] ?_
   refine t_frz [0,1,2,3,4,5] ?_
   refine t_frz [1,0,2,3,4,5] ?_
   refine t_m [1,0] [0,1,2,3,4,5] [2,3,5,11,12,34] [vB aY,vB dy,vP b1,vL g11 y10,vI v23,vL g22 v21] (fun _ _ H44 hd => o_li (T:=au) (E:=213) (zv:=vG [vU 0,vO,vO]) (e1 y29.1 (gL [g39,g40])) ([y29.1] : List aK) [gL [g39,g40]] H44 hd rfl (InnL.cons (u5 (hd.im 0 rfl) (hd.im 1 rfl)) InnL.nil)) fun g45 => ?_
   obtain ⟨ho49,hm⟩:=chkE hm
   obtain ⟨q50,hq50,hm⟩:=letE hm
   refine t_m [4,0] [1,2,3,5,6] [2,3,5,11,12] [vB aY,vB dy,vP b1,vL g11 y10,vI v23] (fun _ _ H48 hd => o_app2 (T:=au) (zv:=vG [vU 0,vO,vO]) (g1:=g22) (g2:=g45) (l1:=v21) (l2:=([y29.1] : List aK)) q50 hq50.symm H48 hd rfl rfl rfl rfl rfl rfl rfl (by kernel_rfl) (by kernel_rfl) rfl rfl ho49) fun g53 => ?_
   refine t_b 5 [2,3,5,10,11,12] [vB aY,vB dy,vP b1,vL g53 q50,vL g11 y10,vI v23] [] (t_end (t_sel [0,5,6] ?_))
   refine t_w [2,3,5,10,11,12] [vB aY,vB dy,vP b1,vL g53 q50,vL g11 y10,vI (w64 (v23 + 1))] [] ?_
   exact fun _ _ H57 hS => ⟨_,Nat.lt_succ_self _,q50,w64 (v23 + 1),g53,hm,FrG.keep (ks:=[2,3,5,11,10,12]) H57 (by kernel_rfl),hS⟩
 ·intro g61
  refine t_sel [0] ?_
  refine t_r [8,9] [vL g61 z17,vT] [] (t_ret ?_)
  obtain rfl:=someE hm
  exact t_g g61 [0] rs2

def mL (m : Nat) (l_ : List aK) (v9 : Int) (v16 : Int) : Nat → Int → Int → Option (Int)
  | 0,_,_ => none
  | kk + 1,v26,v27 =>
    lt (decide (v27 < (ln ((gi ((gi l_ v9).Parts) v16).aP)))) fun x28 =>
    cond x28 (
    none) (
    some v26)
def kM (m : Nat) (l_ : List aK) (v9 : Int) : Nat → Int → Int → Option (Int)
  | 0,_,_ => none
  | kk + 1,v15,v16 =>
    chk (0 ≤ v9 ∧ v9 < ln l_) <|
    cond (decide (v16 < (ln ((gi l_ v9).Parts)))) (
    Option.bind (
    chk (0 ≤ v16 ∧ v16 < ln ((gi l_ v9).Parts)) <|
    mL m l_ v9 v16 m v15 0) fun (z20 : Int) =>
    kM m l_ v9 kk z20 (w64 (v16 + 1))) (
    some v15)
def kq (m : Nat) (l_ : List aK) : Nat → Int → Int → Option (Int)
  | 0,_,_ => none
  | kk + 1,v8,v9 =>
    cond (decide (v9 < (ln l_))) (
    Option.bind (
    kM m l_ v9 m v8 0) fun (z12 : Int) =>
    kq m l_ kk z12 (w64 (v9 + 1))) (
    some v8)
def ph (m : Nat) (l_ : List aK) : Option (Int) :=
  Option.bind (
  kq m l_ m (ln l_) 0) fun (z5 : Int) =>
  some z5
theorem tz {aa : Gh} (m : Nat) (l_ : List aK) (r : Int) (hm : ph m l_ = some r) (w : World) (hL : S0 F0 [eI au l_ aa] w ∧ fpl [eI au l_ aa] = []) : RetB Tryz.prog 111 ⟨[vL aa l_]⟩ (vI r) w:=by
 rw [ph] at hm
 refine f_read hL (Tryz.call111 _) Tryz.func111 Tryz.ntmps111 fun M X w => ?_
 refine t_r [0] [vL aa l_] [] ?_
 refine t_r [0,3] [vL aa l_,vI (ln l_)] [] ?_
 obtain ⟨z5,hz,hm⟩:=bindE hm
 refine t_cut [3] [vI z5] [eI au l_ aa] ?_ ?_
 ·replace hm:=hz
  refine t_r [0,3,4] [vL aa l_,vI (ln l_),vI 0] [] (t_block ?_)
  intro _ _ H7 hS
  refine w_loop (fun kk a' w' => ∃ (v8 : Int) (v9 : Int),kq m l_ kk v8 v9 = some _ ∧ Fr 50 (fS [0,3,4] [vL aa l_,vI v8,vI v9]) a' ∧ SH M X w [eI au l_ aa] w') ⟨_,ln l_,0,hm,FrG.keep (ks:=[0,3,4]) H7 (by kernel_rfl),hS⟩ ?_
  clear hm H7 hS
  rintro kk _ _ ⟨v8,v9,hm,H,hS⟩
  cases kk with
  | zero => exact noneE hm
  | succ kk =>
   rw [kq] at hm
   refine t_in H hS (t_seq ?_)
   refine t_r [0,3,4,13] [vL aa l_,vI v8,vI v9,vB (decide (v9 < (ln l_)))] [] ?_
   refine t_im hm (fun hm => ?_) (fun hm => ?c41)
   case c41 =>
    refine t_exit ?_
    obtain rfl:=someE hm
    exact t_e [3]
   refine t_skip ?_
   obtain ⟨z12,hz,hm⟩:=bindE hm
   refine t_cut [0,4,3] [vL aa l_,vI v9,vI z12] [eI au l_ aa] ?_ ?_
   ·replace hm:=hz
    refine t_block ?_
    refine t_r [0,3,4,5] [vL aa l_,vI v8,vI v9,vI 0] [] (t_block ?_)
    intro _ _ H14 hS
    refine w_loop (fun kk a' w' => ∃ (v15 : Int) (v16 : Int),kM m l_ v9 kk v15 v16 = some _ ∧ Fr 50 (fS [0,4,3,5] [vL aa l_,vI v9,vI v15,vI v16]) a' ∧ SH M X w [eI au l_ aa] w') ⟨_,v8,0,hm,FrG.keep (ks:=[0,4,3,5]) H14 (by kernel_rfl),hS⟩ ?_
    clear hm H14 hS
    rintro kk _ _ ⟨v15,v16,hm,H,hS⟩
    cases kk with
    | zero => exact noneE hm
    | succ kk =>
     rw [kM] at hm
     refine t_in H hS (t_seq ?_)
     obtain ⟨ho17,hm⟩:=chkE hm
     refine t_r [0,3,4,5,23] [vL aa l_,vI v15,vI v9,vI v16,vB (decide (v16 < (ln ((gi l_ v9).Parts))))] [ki 0 ho17,kj 0 1 ho17] ?_
     refine t_im hm (fun hm => ?_) (fun hm => ?c36)
     case c36 =>
      refine t_exit ?_
      obtain rfl:=someE hm
      exact t_e [0,4,3]
     refine t_skip ?_
     obtain ⟨z20,hz,hm⟩:=bindE hm
     refine t_cut [0,4,5,3] [vL aa l_,vI v9,vI v16,vI z20] [eI au l_ aa] ?_ ?_
     ·replace hm:=hz
      refine t_block ?_
      obtain ⟨ho21,hm⟩:=chkE hm
      refine t_r [0,3,4,5,6] [vL aa l_,vI v15,vI v9,vI v16,.slice ((aa.s (v9).toNat 0).s (v16).toNat 0).a (((gi ((gi l_ v9).Parts) v16).aP).length) ((aa.s (v9).toNat 0).s (v16).toNat 0).c] [ki 0 ho17,kj 0 1 ho17,⟨none,fun _ => oka (aa.s (v9).toNat 0).a ∧ 0 ≤ v16 ∧ v16 < ln ((gi l_ v9).Parts),fun _ hS => ((gj ((hS.im 0 rfl).el ho17)).oki ho21)⟩,⟨some (.slice ((aa.s (v9).toNat 0).s (v16).toNat 0).a (((gi ((gi l_ v9).Parts) v16).aP).length) ((aa.s (v9).toNat 0).s (v16).toNat 0).c),fun wz => V.at1 ⟨ab (aa.s (v9).toNat 0).a,ao (aa.s (v9).toNat 0).a + (v16).toNat * 2 + 1,none⟩ (.slice ((aa.s (v9).toNat 0).s (v16).toNat 0).a (((gi ((gi l_ v9).Parts) v16).aP).length) ((aa.s (v9).toNat 0).s (v16).toNat 0).c) wz,fun _ hS => ((gj ((hS.im 0 rfl).el ho17)).at1 ho21 1 rfl)⟩] ?_
      refine t_r [0,3,4,5,6,7] [vL aa l_,vI v15,vI v9,vI v16,.slice ((aa.s (v9).toNat 0).s (v16).toNat 0).a (((gi ((gi l_ v9).Parts) v16).aP).length) ((aa.s (v9).toNat 0).s (v16).toNat 0).c,vI 0] [] (t_block ?_)
      intro _ _ H25 hS
      refine w_loop (fun kk a' w' => ∃ (v26 : Int) (v27 : Int),mL m l_ v9 v16 kk v26 v27 = some _ ∧ Fr 50 (fS [0,4,5,6,3,7] [vL aa l_,vI v9,vI v16,.slice ((aa.s (v9).toNat 0).s (v16).toNat 0).a (((gi ((gi l_ v9).Parts) v16).aP).length) ((aa.s (v9).toNat 0).s (v16).toNat 0).c,vI v26,vI v27]) a' ∧ SH M X w [eI au l_ aa] w') ⟨_,v15,0,hm,FrG.keep (ks:=[0,4,5,6,3,7]) H25 (by kernel_rfl),hS⟩ ?_
      clear hm H25 hS
      rintro kk _ _ ⟨v26,v27,hm,H,hS⟩
      cases kk with
      | zero => exact noneE hm
      | succ kk =>
       rw [mL] at hm
       refine t_in H hS (t_seq ?_)
       obtain ⟨x28,hx28,hm⟩:=letE hm
       refine t_r [0,3,4,5,6,7,38] [vL aa l_,vI v26,vI v9,vI v16,.slice ((aa.s (v9).toNat 0).s (v16).toNat 0).a (((gi ((gi l_ v9).Parts) v16).aP).length) ((aa.s (v9).toNat 0).s (v16).toNat 0).c,vI v27,vB x28] [] ?_ (he:=by subst hx28; kernel_rfl)
       refine t_im hm (fun hm => ?_) (fun hm => ?c31)
       case c31 =>
        refine t_exit ?_
        obtain rfl:=someE hm
        exact t_e [0,4,5,3]
       refine t_skip (t_seq (t_block ?_))
       intro _ _ H30 hS
       exact noneE hm
     ·refine t_w [0,3,4,5] [vL aa l_,vI z20,vI v9,vI (w64 (v16 + 1))] [] ?_
      exact fun _ _ H34 hS => ⟨_,Nat.lt_succ_self _,z20,w64 (v16 + 1),hm,FrG.keep (ks:=[0,4,3,5]) H34 (by kernel_rfl),hS⟩
   ·refine t_w [0,3,4] [vL aa l_,vI z12,vI (w64 (v9 + 1))] [] ?_
    exact fun _ _ H39 hS => ⟨_,Nat.lt_succ_self _,z12,w64 (v9 + 1),hm,FrG.keep (ks:=[0,3,4]) H39 (by kernel_rfl),hS⟩
 ·refine t_sel [] ?_
  refine t_r [2] [vI z5] [] (t_ret ?_)
  obtain rfl:=someE hm
  exact t_n [] rs1

def uQ (m : Nat) (v_ : List ae) : Option ((List aK) × Int) :=
  Option.bind (s5 m v_ (dC.mk 0 false) false false) fun y5 =>
  cond (!y5.2) (
  none) (
  Option.bind (ph m y5.1) fun y14 =>
  cond (decide (64 < y14)) (
  none) (
  some (y5.1,0)))
theorem w6 {af : Gh} (m : Nat) (v_ : List ae) (r : (List aK) × Int) (hm : uQ m v_ = some r) : DoesM Tryz.prog 64 ⟨[vL af v_]⟩ [eI a6 v_ af] (fun (aA : Gh) => vW [vL aA r.1,vI r.2]) (fun aA => [eO 213 au r.1 aA]):=by
 rw [uQ] at hm
 refine f_mem (Tryz.call64 _) Tryz.func64 Tryz.ntmps64 fun M X w => ?_
 refine t_r [0] [vL af v_] [] (t_starts ?_)
 refine t_b 2 [7,8] [vL af v_,vG [vI 0,vF]] [] ?_
 obtain ⟨y5,hy5,hm⟩:=bindE hm
 refine t_c [0] [0] [] [] (va (af:=af) m _ _ _ _ _ hy5) fun g6 => ?_
 refine t_b 8 [4,5] [vL g6 y5.1,vB y5.2] [] (t_end (t_sel [0] (t_seq ?_)))
 refine t_r [4,13] [vL g6 y5.1,vB (!y5.2)] [] ?_
 refine t_i2 hm (fun hm => ?_)
 refine t_skip (t_seq ?_)
 obtain ⟨y14,hy14,hm⟩:=bindE hm
 refine t_r [4,16] [vL g6 y5.1,vB (decide (64 < y14))] [kr fun _ hS => tz (aa:=g6) m _ _ hy14 _ (s0im s0nil (hS.osl 0 rfl))] ?_
 refine t_i2 hm (fun hm => ?_)
 refine t_skip ?_
 refine t_r [2,3] [vL g6 y5.1,vI 0] [] (t_ret ?_)
 obtain rfl:=someE hm
 exact t_g g6 [0] rs2

structure bD where
  bA : Str
  Value : List ae
  bK : Bool
instance : Inhabited bD:=⟨⟨default,default,default⟩⟩
def bf : Ty bD where
  z:=3
  enc:=fun x g => [vS x.bA,.slice (g 0).a x.Value.length (g 0).c,vB x.bK]
  inn:=fun M w x g => SlG a6 M w x.Value (g 0) ∧ True
  len:=fun _ _ => rfl
  one:=fun _ _ => rfl
  kp:=fun h k hX => ⟨h.1.kp k hX,trivial⟩
  anti:=fun h hM => ⟨h.1.anti hM,trivial⟩
  fresh:=fun h => ⟨h.1.fresh,trivial⟩
def e11 (x : bD) (g : Nat → Gh) : List Value:=bf.enc x g
theorem wi {M : Av} {w : World} {x : bD} {g : Nat → Gh} (h : bf.inn M w x g) : SlG a6 M w x.Value (g 0):=(show SlG a6 M w x.Value (g 0) ∧ True from h).1
theorem wh {M : Av} {w : World} {x : bD} {g : Nat → Gh} (h0 : SlG a6 M w x.Value (g 0)) : bf.inn M w x g:=show SlG a6 M w x.Value (g 0) ∧ True from ⟨h0,trivial⟩
def pA (m : Nat) (v_ : List ae) : Option ((List ae) × Bool) :=
  chk ((decide ((w64 ((ln v_) - 1)) < 1)) = false → 0 ≤ (w64 ((ln v_) - 1)) ∧ (w64 ((ln v_) - 1)) < ln v_) <|
  lt (cond (decide ((w64 ((ln v_) - 1)) < 1)) true (((gi v_ (w64 ((ln v_) - 1))).ax.aj) != 1)) fun x6 =>
  chk (x6 = false → 0 ≤ (w64 ((ln v_) - 1)) ∧ (w64 ((ln v_) - 1)) < ln v_) <|
  Option.bind (cond x6 (some default) (gD m ((gi v_ (w64 ((ln v_) - 1))).ax.ei) [105,109,112,111,114,116,97,110,116])) fun y8 =>
  cond (cond x6 true (!y8)) (
  some (v_,false)) (
  none)
theorem tj {af : Gh} (m : Nat) (v_ : List ae) (r : (List ae) × Bool) (hm : pA m v_ = some r) : DoesM Tryz.prog 176 ⟨[vL af v_]⟩ [eI a6 v_ af] (fun (aA : Gh) => vW [vL aA r.1,vB r.2]) (fun aA => [eI a6 r.1 aA]):=by
 rw [pA] at hm
 refine f_mem (Tryz.call176 _) Tryz.func176 Tryz.ntmps176 fun M X w => ?_
 refine t_r [0] [vL af v_] [] ?_
 refine t_r [0,4] [vL af v_,vI (w64 ((ln v_) - 1))] [] (t_seq ?_)
 obtain ⟨ho5,hm⟩:=chkE hm
 obtain ⟨x6,hx6,hm⟩:=letE hm
 obtain ⟨ho7,hm⟩:=chkE hm
 obtain ⟨y8,hy8,hm⟩:=bindE hm
 refine t_r [0,4,29] [vL af v_,vI (w64 ((ln v_) - 1)),vB (cond x6 true (!y8))] [kgi ((decide ((w64 ((ln v_) - 1)) < 1)) = false ∧ True) 0 fun hg => (ho5 hg.1),kgj ((decide ((w64 ((ln v_) - 1)) < 1)) = false ∧ True) 0 0 fun hg => (ho5 hg.1),kgi (x6 = false ∧ True) 0 fun hg => (ho7 hg.1),kgj (x6 = false ∧ True) 0 1 fun hg => (ho7 hg.1),kgc (x6 = false ∧ True) fun hg => (fG m _ _ _ (bF (hg.1) hy8))] ?_ (he:=by subst hx6; kernel_rfl)
 refine t_im hm (fun hm => ?_) (fun hm => ?c13)
 case c13 =>
  refine t_skip ?_
  intro _ _ H10 hS
  exact noneE hm
 refine t_r [2,3] [vL af v_,vF] [] (t_ret ?_)
 obtain rfl:=someE hm
 exact t_g af [0] rs2

def lz (m : Nat) (s : Str) : Nat → Int → Option (Unit)
  | 0,_ => none
  | kk + 1,v9 =>
    cond (decide (v9 < (ln s))) (
    chk (0 ≤ v9 ∧ v9 < ln s) <|
    cond ((bat s v9) == 0) (
    none) (
    lz m s kk (w64 (v9 + 1)))) (
    some ())
def rg (m : Nat) (s : Str) : Option (Bool) :=
  lt (cond (decide ((ln s) < 1)) true (decide (64 < (ln s)))) fun x3 =>
  cond x3 (
  none) (
  Option.bind (
  lz m s m 0) fun (z6 : Unit) =>
  chk ((decide (2 ≤ (ln s))) = true → 0 ≤ (2 : Int) ∧ (2 : Int) ≤ ln s) <|
  lt (cond (decide (2 ≤ (ln s))) ((sub s 0 2) == [45,45]) false) fun x21 =>
  cond x21 (
  some (decide (2 < (ln s)))) (
  Option.bind (gI m s) fun y26 =>
  some (s == y26)))
theorem u6  (m : Nat) (s : Str) (r : Bool) (hm : rg m s = some r) : Ret Tryz.prog 231 ⟨[vS s]⟩ (vB r):=by
 rw [rg] at hm
 refine f_pure (Tryz.call231 _) Tryz.func231 Tryz.ntmps231 fun M X w => ?_
 refine t_r [0] [vS s] [] (t_seq ?_)
 obtain ⟨x3,hx3,hm⟩:=letE hm
 refine t_r [0,11] [vS s,vB x3] [] ?_ (he:=by subst hx3; kernel_rfl)
 refine t_i2 hm (fun hm => ?_)
 refine t_skip ?_
 obtain ⟨z6,hz,hm⟩:=bindE hm
 refine t_cut [0] [vS s] [] ?_ ?_
 ·replace hm:=hz
  refine t_r [0,3] [vS s,vI 0] [] (t_block ?_)
  intro _ _ H8 hS
  refine w_loop (fun kk a' w' => ∃ (v9 : Int),lz m s kk v9 = some _ ∧ Fr 37 (fS [0,3] [vS s,vI v9]) a' ∧ SH M X w [] w') ⟨_,0,hm,FrG.keep (ks:=[0,3]) H8 (by kernel_rfl),hS⟩ ?_
  clear hm H8 hS
  rintro kk _ _ ⟨v9,hm,H,hS⟩
  cases kk with
  | zero => exact noneE hm
  | succ kk =>
   rw [lz] at hm
   refine t_in H hS (t_seq ?_)
   refine t_r [0,3,15] [vS s,vI v9,vB (decide (v9 < (ln s)))] [] ?_
   refine t_im hm (fun hm => ?_) (fun hm => ?c18)
   case c18 =>
    refine t_exit ?_
    obtain rfl:=someE hm
    exact t_e [0]
   refine t_skip (t_seq (t_block ?_))
   obtain ⟨ho12,hm⟩:=chkE hm
   refine t_r [0,3,21] [vS s,vI v9,vB ((bat s v9) == 0)] [kh ho12] ?_
   refine t_i2 hm (fun hm => ?_)
   refine t_skip ?_
   refine t_w [0,3] [vS s,vI (w64 (v9 + 1))] [] ?_
   exact fun _ _ H16 hS => ⟨_,Nat.lt_succ_self _,w64 (v9 + 1),hm,FrG.keep (ks:=[0,3]) H16 (by kernel_rfl),hS⟩
 ·refine t_seq ?_
  obtain ⟨ho20,hm⟩:=chkE hm
  obtain ⟨x21,hx21,hm⟩:=letE hm
  refine t_r [0,29] [vS s,vB x21] [kgh ((decide (2 ≤ (ln s))) = true ∧ True) fun hg => (ho20 hg.1)] ?_ (he:=by subst hx21; kernel_rfl)
  refine t_im hm (fun hm => ?c29) (fun hm => ?_)
  case c29 =>
   refine t_r [2] [vB (decide (2 < (ln s)))] [] (t_ret ?_)
   obtain rfl:=someE hm
   exact t_n [] rs1
  refine t_skip ?_
  obtain ⟨y26,hy26,hm⟩:=bindE hm
  refine t_r [2] [vB (s == y26)] [kc (fK m _ _ hy26)] (t_ret ?_)
  obtain rfl:=someE hm
  exact t_n [] rs1

def md (m : Nat) (v_ : List ae) : Nat → Int → Int → Option (Int)
  | 0,_,_ => none
  | kk + 1,v8,v9 =>
    cond (decide (v9 < (ln v_))) (
    chk (0 ≤ v9 ∧ v9 < ln v_) <|
    Option.bind (jY ((gi v_ v9).ax.aj)) fun y13 =>
    cond (y13 != 0) (
    none) (
    md m v_ kk v8 (w64 (v9 + 1)))) (
    some v8)
def qd (m : Nat) (v_ : List ae) : Option (Int) :=
  Option.bind (
  md m v_ m 0 0) fun (z5 : Int) =>
  some z5
theorem rE {af : Gh} (m : Nat) (v_ : List ae) (r : Int) (hm : qd m v_ = some r) (w : World) (hL : S0 F0 [eI a6 v_ af] w ∧ fpl [eI a6 v_ af] = []) : RetB Tryz.prog 234 ⟨[vL af v_]⟩ (vI r) w:=by
 rw [qd] at hm
 refine f_read hL (Tryz.call234 _) Tryz.func234 Tryz.ntmps234 fun M X w => ?_
 refine t_r [0] [vL af v_] [] ?_
 refine t_r [0,3] [vL af v_,vI 0] [] ?_
 obtain ⟨z5,hz,hm⟩:=bindE hm
 refine t_cut [3] [vI z5] [eI a6 v_ af] ?_ ?_
 ·replace hm:=hz
  refine t_r [0,3,4] [vL af v_,vI 0,vI 0] [] (t_block ?_)
  intro _ _ H7 hS
  refine w_loop (fun kk a' w' => ∃ (v8 : Int) (v9 : Int),md m v_ kk v8 v9 = some _ ∧ Fr 29 (fS [0,3,4] [vL af v_,vI v8,vI v9]) a' ∧ SH M X w [eI a6 v_ af] w') ⟨_,0,0,hm,FrG.keep (ks:=[0,3,4]) H7 (by kernel_rfl),hS⟩ ?_
  clear hm H7 hS
  rintro kk _ _ ⟨v8,v9,hm,H,hS⟩
  cases kk with
  | zero => exact noneE hm
  | succ kk =>
   rw [md] at hm
   refine t_in H hS (t_seq ?_)
   refine t_r [0,3,4,8] [vL af v_,vI v8,vI v9,vB (decide (v9 < (ln v_)))] [] ?_
   refine t_im hm (fun hm => ?_) (fun hm => ?c19)
   case c19 =>
    refine t_exit ?_
    obtain rfl:=someE hm
    exact t_e [3]
   refine t_skip (t_seq (t_block ?_))
   obtain ⟨ho12,hm⟩:=chkE hm
   obtain ⟨y13,hy13,hm⟩:=bindE hm
   refine t_r [0,3,4,18] [vL af v_,vI v8,vI v9,vB (y13 != 0)] [ki 0 ho12,kj 0 0 ho12,kc (kP _ _ hy13)] ?_
   refine t_i2 hm (fun hm => ?_)
   refine t_skip ?_
   refine t_w [0,3,4] [vL af v_,vI v8,vI (w64 (v9 + 1))] [] ?_
   exact fun _ _ H17 hS => ⟨_,Nat.lt_succ_self _,v8,w64 (v9 + 1),hm,FrG.keep (ks:=[0,3,4]) H17 (by kernel_rfl),hS⟩
 ·refine t_sel [] ?_
  refine t_r [2] [vI z5] [] (t_ret ?_)
  obtain rfl:=someE hm
  exact t_n [] rs1

def ut (gf : (List ae) → Int → Option (Bool)) : Prop:=∀ (af : Gh) (M : Av) (v_ : List ae) (bo : Int) (r : Bool),gf v_ bo = some r → ∀ w,S0 M [eI a6 v_ af] w → Calls Tryz.prog 294 ⟨[vL af v_,vU bo]⟩ w (fun e w' => ∃ v,e = .returned v ∧ v = vB r ∧ SH M (fpl [eI a6 v_ af]) w [] w')
def kK (m : Nat) (v_ : List ae) (bo : Int) (om : (List ae) → Int → Option (Bool)) : Nat → Int → Option (Unit)
  | 0,_ => none
  | kk + 1,v6 =>
    cond (decide (v6 < (ln v_))) (
    chk (0 ≤ v6 ∧ v6 < ln v_) <|
    Option.bind (jY ((gi v_ v6).ax.aj)) fun y10 =>
    lt (cond (y10 == 0) (decide (0 < (ln ((gi v_ v6).a8)))) false) fun x13 =>
    lt (cond x13 true (cond (bo != 0) (((gi v_ v6).ax.aj) == bo) false)) fun x14 =>
    Option.bind (cond x14 (some default) (cond (y10 != 0) (om ((gi v_ v6).a8) y10) (some default))) fun y15 =>
    lt (cond x14 true (cond (y10 != 0) (!y15) false)) fun x16 =>
    cond x16 (
    none) (
    kK m v_ bo om kk (w64 (v6 + 1)))) (
    some ())
def jg (m : Nat) : Nat → (List ae) → Int → Option (Bool)
  | 0,_,_ => none
  | k + 1,v_,bo =>
    Option.bind (
    kK m v_ bo (jg m k) m 0) fun (z3 : Unit) =>
    some true
theorem uf (m : Nat) : ∀ (k : Nat),ut (jg m  k):=by
 intro k
 induction k with
 | zero => intro af M v_ bo r hm; exact noneE hm
 | succ k ih =>
  intro af M v_ bo r hm w hS
  rw [jg] at hm
  have hS0 : SH M (fpl [eI a6 v_ af]) w [eI a6 v_ af] w:=hS
  generalize hX : fpl [eI a6 v_ af] = X at hS0 ⊢
  clear hS hX
  have hS:=hS0
  clear hS0
  refine calls_entryP Tryz.func294 rfl Tryz.ntmps294 rfl fun _ H => ?_
  refine t_in H hS ?_
  refine t_r [0,1] [vL af v_,vU bo] [] ?_
  obtain ⟨z3,hz,hm⟩:=bindE hm
  refine t_cut [] [] [eI a6 v_ af] ?_ ?_
  ·replace hm:=hz
   refine t_r [0,1,5] [vL af v_,vU bo,vI 0] [] (t_block ?_)
   intro _ _ H5 hS
   refine w_loop (fun kk a' w' => ∃ (v6 : Int),kK m v_ bo (jg m k) kk v6 = some _ ∧ Fr 59 (fS [0,1,5] [vL af v_,vU bo,vI v6]) a' ∧ SH M X w [eI a6 v_ af] w') ⟨_,0,hm,FrG.keep (ks:=[0,1,5]) H5 (by kernel_rfl),hS⟩ ?_
   clear hm H5 hS
   rintro kk _ _ ⟨v6,hm,H,hS⟩
   cases kk with
   | zero => exact noneE hm
   | succ kk =>
    rw [kK] at hm
    refine t_in H hS (t_seq ?_)
    refine t_r [0,1,5,10] [vL af v_,vU bo,vI v6,vB (decide (v6 < (ln v_)))] [] ?_
    refine t_im hm (fun hm => ?_) (fun hm => ?c22)
    case c22 =>
     refine t_exit ?_
     obtain rfl:=someE hm
     exact t_e []
    refine t_skip (t_seq (t_block ?_))
    obtain ⟨ho9,hm⟩:=chkE hm
    obtain ⟨y10,hy10,hm⟩:=bindE hm
    refine t_r [0,1,5,6] [vL af v_,vU bo,vI v6,vU y10] [ki 0 ho9,kj 0 0 ho9,kc (kP _ _ hy10)] ?_
    obtain ⟨x13,hx13,hm⟩:=letE hm
    obtain ⟨x14,hx14,hm⟩:=letE hm
    obtain ⟨y15,hy15,hm⟩:=bindE hm
    obtain ⟨x16,hx16,hm⟩:=letE hm
    refine t_r [0,1,5,58] [vL af v_,vU bo,vI v6,vB x16] [kgi ((y10 == 0) = true ∧ True) 0 fun hg => ho9,kgj ((y10 == 0) = true ∧ True) 0 5 fun hg => ho9,kgi ((bo != 0) = true ∧ x13 = false ∧ True) 0 fun hg => ho9,kgj ((bo != 0) = true ∧ x13 = false ∧ True) 0 0 fun hg => ho9,kgi ((y10 != 0) = true ∧ x14 = false ∧ True) 0 fun hg => ho9,kgj ((y10 != 0) = true ∧ x14 = false ∧ True) 0 5 fun hg => ho9,kgr ((y10 != 0) = true ∧ x14 = false ∧ True) fun _ hS hg => retB_of (s0im s0nil (dX ((hS.im 0 rfl).el ho9))) (Tryz.call294 _) (fun w' h' => ih ((af.s (v6).toNat 0)) F0 _ _ _ (bT (hg.1) (bF (hg.2.1) hy15)) w' h')] ?_ (he:=by subst hx13 hx14 hx16; kernel_rfl)
    refine t_i2 hm (fun hm => ?_)
    refine t_skip ?_
    refine t_w [0,1,5] [vL af v_,vU bo,vI (w64 (v6 + 1))] [] ?_
    exact fun _ _ H20 hS => ⟨_,Nat.lt_succ_self _,w64 (v6 + 1),hm,FrG.keep (ks:=[0,1,5]) H20 (by kernel_rfl),hS⟩
  ·refine t_sel [] ?_
   refine t_r [4] [vT] [] (t_ret ?_)
   obtain rfl:=someE hm
   exact t_n [] rs1
def sk (m : Nat) (v_ : List ae) (bo : Int) : Option (Bool):=jg m  m v_ bo
theorem t7 {af : Gh} (m : Nat) (v_ : List ae) (bo : Int) (r : Bool) (hm : sk m v_ bo = some r) (w : World) (hL : S0 F0 [eI a6 v_ af] w ∧ fpl [eI a6 v_ af] = []) : RetB Tryz.prog 294 ⟨[vL af v_,vU bo]⟩ (vB r) w:=retB_of hL (Tryz.call294 _) (fun w' h => uf m   m af F0 v_ bo r hm w' h)

def rm (m : Nat) (v_ : List ae) : Option (Int) :=
  Option.bind (qd m v_) fun y3 =>
  cond (decide (16 < y3)) (
  none) (
  Option.bind (nq m v_) fun y8 =>
  cond (decide (1500 < (ln y8))) (
  none) (
  Option.bind (sk m v_ 0) fun y15 =>
  cond (!y15) (
  none) (
  some 0)))
theorem uE {af : Gh} (m : Nat) (v_ : List ae) (r : Int) (hm : rm m v_ = some r) (w : World) (hL : S0 F0 [eI a6 v_ af] w ∧ fpl [eI a6 v_ af] = []) : RetB Tryz.prog 267 ⟨[vL af v_]⟩ (vI r) w:=by
 rw [rm] at hm
 refine f_read hL (Tryz.call267 _) Tryz.func267 Tryz.ntmps267 fun M X w => ?_
 refine t_r [0] [vL af v_] [] (t_seq ?_)
 obtain ⟨y3,hy3,hm⟩:=bindE hm
 refine t_r [0,5] [vL af v_,vB (decide (16 < y3))] [kr fun _ hS => rE (af:=af) m _ _ hy3 _ (s0im s0nil (hS.im 0 rfl))] ?_
 refine t_i2 hm (fun hm => ?_)
 refine t_skip (t_seq (t_starts ?_))
 refine t_b 1 [0,6] [vL af v_,vL af v_] [] ?_
 obtain ⟨y8,hy8,hm⟩:=bindE hm
 refine t_c [0] [0] [0] [vL af v_] (n5 (af:=af) m _ _ hy8) fun g9 => ?_
 refine t_b 4 [0,9] [vL af v_,vB (decide (1500 < (ln y8)))] [] (t_end (t_sel [1] ?_))
 refine t_i2 hm (fun hm => ?_)
 refine t_skip (t_seq ?_)
 obtain ⟨y15,hy15,hm⟩:=bindE hm
 refine t_r [12] [vB (!y15)] [kr fun _ hS => t7 (af:=af) m _ _ _ hy15 _ (s0im s0nil (hS.im 0 rfl))] (t_sel [] ?_)
 refine t_i2 hm (fun hm => ?_)
 refine t_skip ?_
 refine t_r [2] [vI 0] [] (t_ret ?_)
 obtain rfl:=someE hm
 exact t_n [] rs1

def lC (m : Nat) (s : Str) : Nat → Int → Option (Unit)
  | 0,_ => none
  | kk + 1,v6 =>
    cond (decide (v6 < (ln s))) (
    chk (0 ≤ v6 ∧ v6 < ln s) <|
    cond ((bat s v6) == 0) (
    none) (
    lC m s kk (w64 (v6 + 1)))) (
    some ())
def oL (m : Nat) (s : Str) : Option (Bool) :=
  Option.bind (
  lC m s m 0) fun (z3 : Unit) =>
  some true
theorem qr  (m : Nat) (s : Str) (r : Bool) (hm : oL m s = some r) : Ret Tryz.prog 311 ⟨[vS s]⟩ (vB r):=by
 rw [oL] at hm
 refine f_pure (Tryz.call311 _) Tryz.func311 Tryz.ntmps311 fun M X w => ?_
 refine t_r [0] [vS s] [] ?_
 obtain ⟨z3,hz,hm⟩:=bindE hm
 refine t_cut [] [] [] ?_ ?_
 ·replace hm:=hz
  refine t_r [0,3] [vS s,vI 0] [] (t_block ?_)
  intro _ _ H5 hS
  refine w_loop (fun kk a' w' => ∃ (v6 : Int),lC m s kk v6 = some _ ∧ Fr 14 (fS [0,3] [vS s,vI v6]) a' ∧ SH M X w [] w') ⟨_,0,hm,FrG.keep (ks:=[0,3]) H5 (by kernel_rfl),hS⟩ ?_
  clear hm H5 hS
  rintro kk _ _ ⟨v6,hm,H,hS⟩
  cases kk with
  | zero => exact noneE hm
  | succ kk =>
   rw [lC] at hm
   refine t_in H hS (t_seq ?_)
   refine t_r [0,3,7] [vS s,vI v6,vB (decide (v6 < (ln s)))] [] ?_
   refine t_im hm (fun hm => ?_) (fun hm => ?c15)
   case c15 =>
    refine t_exit ?_
    obtain rfl:=someE hm
    exact t_e []
   refine t_skip (t_seq (t_block ?_))
   obtain ⟨ho9,hm⟩:=chkE hm
   refine t_r [0,3,13] [vS s,vI v6,vB ((bat s v6) == 0)] [kh ho9] ?_
   refine t_i2 hm (fun hm => ?_)
   refine t_skip ?_
   refine t_w [0,3] [vS s,vI (w64 (v6 + 1))] [] ?_
   exact fun _ _ H13 hS => ⟨_,Nat.lt_succ_self _,w64 (v6 + 1),hm,FrG.keep (ks:=[0,3]) H13 (by kernel_rfl),hS⟩
 ·refine t_r [2] [vT] [] (t_ret ?_)
  obtain rfl:=someE hm
  exact t_n [] rs1

def sO (m : Nat) (t_ : aR) : Option (Bool) :=
  Option.bind (
  cond (t_.aj == 1) (
  some (t_.aj == 1)) (
  cond (t_.aj == 2) (
  some (t_.aj == 2)) (
  some (t_.aj == 3)))) fun (z15 : Bool) =>
  cond z15 (
  Option.bind (cond (!(t_.ei == [])) (oL m t_.ei) (some default)) fun y28 =>
  lt (cond (cond (!(t_.ei == [])) y28 false) ((t_.aj == t_.aj) && ((([] : Str) == []) && ((t_.Num == 0) && ((t_.Unit == []) && ((t_.l3 == false) && true))))) false) fun x29 =>
  some x29) (
  cond (t_.aj == 4) (
  none) (
  Option.bind (
  cond (t_.aj == 5) (
  some (t_.aj == 5)) (
  some (t_.aj == 7))) fun (z34 : Bool) =>
  cond z34 (
  none) (
  cond (t_.aj == 9) (
  none) (
  Option.bind (
  cond (t_.aj == 10) (
  some (t_.aj == 10)) (
  cond (t_.aj == 11) (
  some (t_.aj == 11)) (
  some (t_.aj == 12)))) fun (z42 : Bool) =>
  cond z42 (
  Option.bind (cond ((!(t_.Unit == [])) == (t_.aj == 12)) (oL m t_.Unit) (some default)) fun y63 =>
  lt (cond ((!(t_.Unit == [])) == (t_.aj == 12)) y63 false) fun x64 =>
  lt (cond (decide ((-1000000000000) ≤ t_.Num)) (decide (t_.Num ≤ 1000000000000)) false) fun x67 =>
  lt (cond x67 (cond (!t_.l3) true ((Int.tmod t_.Num 1000) == 0)) false) fun x68 =>
  lt (cond (cond x68 x64 false) (cond (t_.aj != 11) true (!t_.l3)) false) fun x69 =>
  lt (cond x69 ((t_.aj == t_.aj) && ((t_.ei == []) && (((0 : Int) == 0) && ((([] : Str) == []) && ((false == false) && true))))) false) fun x70 =>
  some x70) (
  none)))))
theorem vr  (m : Nat) (t_ : aR) (r : Bool) (hm : sO m t_ = some r) : Ret Tryz.prog 295 ⟨[.agg ⟨e6 t_⟩]⟩ (vB r):=by
 rw [sO] at hm
 refine f_pure (Tryz.call295 _) Tryz.func295 Tryz.ntmps295 fun M X w => (t_starts ?_)
 refine t_m [] [] [] [] (fun _ _ H hd => o_box (e6 t_) H hd rfl rfl) fun b1 => ?_
 refine t_b 2 [1] [vP b1] [] (t_end (t_starts ?_))
 refine t_b 1 [1,5] [vP b1,.agg ⟨e6 t_⟩] [kE 0 5] ?_
 refine t_m [] [0] [1,5] [vP b1,.agg ⟨e6 t_⟩] (fun _ _ H7 hd => o_alloc [vU 0,vN,vI 0,vN,vF] (z:=vG [vU 0,vN,vI 0,vN,vF]) hd (by kernel_rfl) rfl) fun b8 => ?_
 refine t_m0 [0] [1] [1,3] [vP b1,vP b8] (fun _ _ H10 hd => o_store (e6 t_) H10 hd rfl rfl (by kernel_rfl) rfl rfl rfl) (t_end (t_seq ?_))
 refine t_r [1,3,7] [vP b1,vP b8,vU t_.aj] [kb 1 0] (t_block ?_)
 obtain ⟨z15,hz,hm⟩:=bindE hm
 refine t_cut [1,3,7,8] [vP b1,vP b8,vU t_.aj,vB z15] [eB b8 (e6 t_),eB b1 (e6 t_)] ?_ ?_
 ·replace hm:=hz
  refine t_r [1,3,7,8] [vP b1,vP b8,vU t_.aj,vB (t_.aj == 1)] [] ?_
  refine t_im hm (fun hm => ?c23) (fun hm => ?_)
  case c23 =>
   refine t_skip ?_
   obtain rfl:=someE hm
   exact t_e [1,3,7,8]
  refine t_r [1,3,7,8] [vP b1,vP b8,vU t_.aj,vB (t_.aj == 2)] [] ?_
  refine t_im hm (fun hm => ?c22) (fun hm => ?_)
  case c22 =>
   refine t_skip ?_
   obtain rfl:=someE hm
   exact t_e [1,3,7,8]
  refine t_w [1,3,7,8] [vP b1,vP b8,vU t_.aj,vB (t_.aj == 3)] [] ?_
  obtain rfl:=someE hm
  exact t_e [1,3,7,8]
 ·refine t_if (fun hc => ?c79) (fun hc => ?_)
  case c79 =>
   replace hm:=bT hc hm
   refine t_starts ?_
   refine t_b 1 [1,3,12] [vP b1,vP b8,vA b8 1] [] ?_
   refine t_m0 [0] [1] [1,3] [vP b1,vP b8] (fun _ _ H25 hd => o_store [vU t_.aj,vN,vI t_.Num,vS t_.Unit,vB t_.l3] H25 hd rfl rfl (by kernel_rfl) rfl rfl rfl) (t_end ?_)
   obtain ⟨y28,hy28,hm⟩:=bindE hm
   obtain ⟨x29,hx29,hm⟩:=letE hm
   refine t_r [2] [vB x29] [kb 1 1,kgb ((!(t_.ei == [])) = true ∧ True) 1 1,kgc ((!(t_.ei == [])) = true ∧ True) fun hg => (qr m _ _ (bT (hg.1) hy28)),⟨some (vG [vU t_.aj,vN,vI t_.Num,vS t_.Unit,vB t_.l3]),fun wz => ((cond (!(t_.ei == [])) y28 false) = true ∧ True → V.atN b8 0 [vU t_.aj,vN,vI t_.Num,vS t_.Unit,vB t_.l3] 0 wz),fun _ hS => fun hg => (hS.bk 0 rfl).atD rfl⟩,kgb ((cond (!(t_.ei == [])) y28 false) = true ∧ True) 1 0] ?_ (he:=by subst hx29; kernel_rfl)
   refine t_sel [] (t_ret ?_)
   obtain rfl:=someE hm
   exact t_n [] rs1
  replace hm:=bF hc hm
  refine t_r [1,3,7,28] [vP b1,vP b8,vU t_.aj,vB (t_.aj == 4)] [] ?_
  refine t_i2 hm (fun hm => ?_)
  obtain ⟨z34,hz,hm⟩:=bindE hm
  refine t_cut [1,3,7,56] [vP b1,vP b8,vU t_.aj,vB z34] [eB b8 (e6 t_),eB b1 (e6 t_)] ?_ ?_
  ·replace hm:=hz
   refine t_r [1,3,7,56] [vP b1,vP b8,vU t_.aj,vB (t_.aj == 5)] [] ?_
   refine t_im hm (fun hm => ?c39) (fun hm => ?_)
   case c39 =>
    refine t_skip ?_
    obtain rfl:=someE hm
    exact t_e [1,3,7,56]
   refine t_w [1,3,7,56] [vP b1,vP b8,vU t_.aj,vB (t_.aj == 7)] [] ?_
   obtain rfl:=someE hm
   exact t_e [1,3,7,56]
  ·refine t_if (fun hc => ?c76) (fun hc => ?_)
   case c76 =>
    replace hm:=bT hc hm
    intro _ _ H hS
    exact noneE hm
   replace hm:=bF hc hm
   refine t_r [1,3,7,70] [vP b1,vP b8,vU t_.aj,vB (t_.aj == 9)] [] ?_
   refine t_i2 hm (fun hm => ?_)
   obtain ⟨z42,hz,hm⟩:=bindE hm
   refine t_cut [1,3,7,90] [vP b1,vP b8,vU t_.aj,vB z42] [eB b8 (e6 t_),eB b1 (e6 t_)] ?_ ?_
   ·replace hm:=hz
    refine t_r [1,3,7,90] [vP b1,vP b8,vU t_.aj,vB (t_.aj == 10)] [] ?_
    refine t_im hm (fun hm => ?c50) (fun hm => ?_)
    case c50 =>
     refine t_skip ?_
     obtain rfl:=someE hm
     exact t_e [1,3,7,90]
    refine t_r [1,3,7,90] [vP b1,vP b8,vU t_.aj,vB (t_.aj == 11)] [] ?_
    refine t_im hm (fun hm => ?c49) (fun hm => ?_)
    case c49 =>
     refine t_skip ?_
     obtain rfl:=someE hm
     exact t_e [1,3,7,90]
    refine t_w [1,3,7,90] [vP b1,vP b8,vU t_.aj,vB (t_.aj == 12)] [] ?_
    obtain rfl:=someE hm
    exact t_e [1,3,7,90]
   ·refine t_im hm (fun hm => ?_) (fun hm => ?c73)
    case c73 =>
     refine t_seq ?_
     intro _ _ H hS
     exact noneE hm
    refine t_starts ?_
    refine t_b 1 [1,3,94] [vP b1,vP b8,vA b8 2] [] ?_
    refine t_m0 [0] [1] [1,3] [vP b1,vP b8] (fun _ _ H52 hd => o_store [vU t_.aj,vS t_.ei,vI 0,vS t_.Unit,vB t_.l3] H52 hd rfl rfl (by kernel_rfl) rfl rfl rfl) ?_
    refine t_b 3 [1,3,95] [vP b1,vP b8,vA b8 3] [] ?_
    refine t_m0 [0] [1] [1,3] [vP b1,vP b8] (fun _ _ H56 hd => o_store [vU t_.aj,vS t_.ei,vI 0,vN,vB t_.l3] H56 hd rfl rfl (by kernel_rfl) rfl rfl rfl) ?_
    refine t_b 5 [1,3,96] [vP b1,vP b8,vA b8 4] [] ?_
    refine t_m0 [0] [1] [1,3] [vP b1,vP b8] (fun _ _ H60 hd => o_store [vU t_.aj,vS t_.ei,vI 0,vN,vF] H60 hd rfl rfl (by kernel_rfl) rfl rfl rfl) (t_end ?_)
    obtain ⟨y63,hy63,hm⟩:=bindE hm
    obtain ⟨x64,hx64,hm⟩:=letE hm
    refine t_r [1,3,4] [vP b1,vP b8,vB x64] [kb 1 3,kb 1 0,kgb (((!(t_.Unit == [])) == (t_.aj == 12)) = true ∧ True) 1 3,kgc (((!(t_.Unit == [])) == (t_.aj == 12)) = true ∧ True) fun hg => (qr m _ _ (bT (hg.1) hy63))] ?_ (he:=by subst hx64; kernel_rfl)
    obtain ⟨x67,hx67,hm⟩:=letE hm
    obtain ⟨x68,hx68,hm⟩:=letE hm
    obtain ⟨x69,hx69,hm⟩:=letE hm
    obtain ⟨x70,hx70,hm⟩:=letE hm
    refine t_r [2] [vB x70] [kb 1 2,kgb ((decide ((-1000000000000) ≤ t_.Num)) = true ∧ True) 1 2,kgb (x67 = true ∧ True) 1 4,kgb ((!t_.l3) = false ∧ x67 = true ∧ True) 1 2,⟨none,fun _ => ((!t_.l3) = false ∧ x67 = true ∧ True → (1000 : Int) ≠ 0),fun _ _ => fun hg => (by show (1000 : Int) ≠ 0; decide)⟩,kgb ((cond x68 x64 false) = true ∧ True) 1 0,kgb ((t_.aj != 11) = false ∧ (cond x68 x64 false) = true ∧ True) 1 4,⟨some (vG [vU t_.aj,vS t_.ei,vI 0,vN,vF]),fun wz => (x69 = true ∧ True → V.atN b8 0 [vU t_.aj,vS t_.ei,vI 0,vN,vF] 0 wz),fun _ hS => fun hg => (hS.bk 0 rfl).atD rfl⟩,kgb (x69 = true ∧ True) 1 0] ?_ (he:=by subst hx67 hx68 hx69 hx70; kernel_rfl)
    refine t_sel [] (t_ret ?_)
    obtain rfl:=someE hm
    exact t_n [] rs1

def lq (m : Nat) (l_ : List aR) : Nat → Int → Option (Unit)
  | 0,_ => none
  | kk + 1,v8 =>
    cond (decide (v8 < (ln l_))) (
    chk (0 ≤ v8 ∧ v8 < ln l_) <|
    Option.bind (sO m (gi l_ v8)) fun y12 =>
    cond (!y12) (
    none) (
    Option.bind (cond (((gi l_ v8).aj) == 2) (gD m ((gi l_ v8).ei) [117,114,108]) (some default)) fun y15 =>
    cond (cond (((gi l_ v8).aj) == 2) y15 false) (
    none) (
    lt (cond (((gi l_ v8).aj) == 9) (((gi l_ v8).ei) == [92]) false) fun x18 =>
    chk (((w64 (v8 + 1)) == (ln l_)) = false → x18 = true → 0 ≤ (w64 (v8 + 1)) ∧ (w64 (v8 + 1)) < ln l_) <|
    lt (cond x18 (cond ((w64 (v8 + 1)) == (ln l_)) true (((gi l_ (w64 (v8 + 1))).aj) != 13)) false) fun x20 =>
    cond x20 (
    none) (
    lq m l_ kk (w64 (v8 + 1)))))) (
    some ())
def r6 (m : Nat) (l_ : List aR) : Option (Int) :=
  cond (decide (1500 < (ln l_))) (
  none) (
  Option.bind (
  lq m l_ m 0) fun (z5 : Unit) =>
  some 0)
theorem ue {aa : Gh} (m : Nat) (l_ : List aR) (r : Int) (hm : r6 m l_ = some r) (w : World) (hL : S0 F0 [eI bz l_ aa] w ∧ fpl [eI bz l_ aa] = []) : RetB Tryz.prog 268 ⟨[vL aa l_]⟩ (vI r) w:=by
 rw [r6] at hm
 refine f_read hL (Tryz.call268 _) Tryz.func268 Tryz.ntmps268 fun M X w => ?_
 refine t_r [0] [vL aa l_] [] (t_seq ?_)
 refine t_r [0,7] [vL aa l_,vB (decide (1500 < (ln l_)))] [] ?_
 refine t_i2 hm (fun hm => ?_)
 refine t_skip ?_
 obtain ⟨z5,hz,hm⟩:=bindE hm
 refine t_cut [] [] [eI bz l_ aa] ?_ ?_
 ·replace hm:=hz
  refine t_r [0,3] [vL aa l_,vI 0] [] (t_block ?_)
  intro _ _ H7 hS
  refine w_loop (fun kk a' w' => ∃ (v8 : Int),lq m l_ kk v8 = some _ ∧ Fr 92 (fS [0,3] [vL aa l_,vI v8]) a' ∧ SH M X w [eI bz l_ aa] w') ⟨_,0,hm,FrG.keep (ks:=[0,3]) H7 (by kernel_rfl),hS⟩ ?_
  clear hm H7 hS
  rintro kk _ _ ⟨v8,hm,H,hS⟩
  cases kk with
  | zero => exact noneE hm
  | succ kk =>
   rw [lq] at hm
   refine t_in H hS (t_seq ?_)
   refine t_r [0,3,11] [vL aa l_,vI v8,vB (decide (v8 < (ln l_)))] [] ?_
   refine t_im hm (fun hm => ?_) (fun hm => ?c28)
   case c28 =>
    refine t_exit ?_
    obtain rfl:=someE hm
    exact t_e []
   refine t_skip (t_seq (t_block (t_seq ?_)))
   obtain ⟨ho11,hm⟩:=chkE hm
   obtain ⟨y12,hy12,hm⟩:=bindE hm
   refine t_r [0,3,19] [vL aa l_,vI v8,vB (!y12)] [ki 0 ho11,⟨some (.agg ⟨e6 (gi l_ v8)⟩),fun wz => V.atN (ab aa.a) (ao aa.a + (v8).toNat * 5) (e6 (gi l_ v8)) 0 wz,fun _ hS => ((hS.im 0 rfl).atA ho11 0 rfl)⟩,kc (vr m _ _ hy12)] ?_
   refine t_i2 hm (fun hm => ?_)
   refine t_skip (t_seq ?_)
   obtain ⟨y15,hy15,hm⟩:=bindE hm
   refine t_r [0,3,33] [vL aa l_,vI v8,vB (cond (((gi l_ v8).aj) == 2) y15 false)] [ki 0 ho11,kj 0 0 ho11,kgi ((((gi l_ v8).aj) == 2) = true ∧ True) 0 fun hg => ho11,kgj ((((gi l_ v8).aj) == 2) = true ∧ True) 0 1 fun hg => ho11,kgc ((((gi l_ v8).aj) == 2) = true ∧ True) fun hg => (fG m _ _ _ (bT (hg.1) hy15))] ?_
   refine t_i2 hm (fun hm => ?_)
   refine t_skip ?_
   obtain ⟨x18,hx18,hm⟩:=letE hm
   obtain ⟨ho19,hm⟩:=chkE hm
   obtain ⟨x20,hx20,hm⟩:=letE hm
   refine t_r [0,3,91] [vL aa l_,vI v8,vB x20] [ki 0 ho11,kj 0 0 ho11,kgi ((((gi l_ v8).aj) == 9) = true ∧ True) 0 fun hg => ho11,kgj ((((gi l_ v8).aj) == 9) = true ∧ True) 0 1 fun hg => ho11,kgi (((w64 (v8 + 1)) == (ln l_)) = false ∧ x18 = true ∧ True) 0 fun hg => (ho19 hg.1 hg.2.1),kgj (((w64 (v8 + 1)) == (ln l_)) = false ∧ x18 = true ∧ True) 0 0 fun hg => (ho19 hg.1 hg.2.1)] ?_ (he:=by subst hx18 hx20; kernel_rfl)
   refine t_i2 hm (fun hm => ?_)
   refine t_skip ?_
   refine t_w [0,3] [vL aa l_,vI (w64 (v8 + 1))] [] ?_
   exact fun _ _ H24 hS => ⟨_,Nat.lt_succ_self _,w64 (v8 + 1),hm,FrG.keep (ks:=[0,3]) H24 (by kernel_rfl),hS⟩
 ·refine t_sel [] ?_
  refine t_r [2] [vI 0] [] (t_ret ?_)
  obtain rfl:=someE hm
  exact t_n [] rs1

def tp (gf : (List ae) → Option (Bool)) : Prop:=∀ (af : Gh) (M : Av) (v_ : List ae) (r : Bool),gf v_ = some r → ∀ w,S0 M [eI a6 v_ af] w → Calls Tryz.prog 269 ⟨[vL af v_]⟩ w (fun e w' => ∃ v,e = .returned v ∧ v = vB r ∧ SH M (fpl [eI a6 v_ af]) w [] w')
def ji (m : Nat) (v_ : List ae) (nT : (List ae) → Option (Bool)) : Nat → Int → Option (Unit)
  | 0,_ => none
  | kk + 1,v6 =>
    cond (decide (v6 < (ln v_))) (
    chk (0 ≤ v6 ∧ v6 < ln v_) <|
    lt (cond (((gi v_ v6).ax.aj) == 20) true (((gi v_ v6).ax.aj) == 22)) fun x12 =>
    lt (cond x12 true (((gi v_ v6).ax.aj) == 24)) fun x13 =>
    Option.bind (cond x13 (some default) (nT ((gi v_ v6).a8))) fun y14 =>
    cond (cond x13 true y14) (
    none) (
    ji m v_ nT kk (w64 (v6 + 1)))) (
    some ())
def iG (m : Nat) : Nat → (List ae) → Option (Bool)
  | 0,_ => none
  | k + 1,v_ =>
    Option.bind (
    ji m v_ (iG m k) m 0) fun (z3 : Unit) =>
    some false
theorem sY (m : Nat) : ∀ (k : Nat),tp (iG m  k):=by
 intro k
 induction k with
 | zero => intro af M v_ r hm; exact noneE hm
 | succ k ih =>
  intro af M v_ r hm w hS
  rw [iG] at hm
  have hS0 : SH M (fpl [eI a6 v_ af]) w [eI a6 v_ af] w:=hS
  generalize hX : fpl [eI a6 v_ af] = X at hS0 ⊢
  clear hS hX
  have hS:=hS0
  clear hS0
  refine calls_entryP Tryz.func269 rfl Tryz.ntmps269 rfl fun _ H => ?_
  refine t_in H hS ?_
  refine t_r [0] [vL af v_] [] ?_
  obtain ⟨z3,hz,hm⟩:=bindE hm
  refine t_cut [] [] [eI a6 v_ af] ?_ ?_
  ·replace hm:=hz
   refine t_r [0,3] [vL af v_,vI 0] [] (t_block ?_)
   intro _ _ H5 hS
   refine w_loop (fun kk a' w' => ∃ (v6 : Int),ji m v_ (iG m k) kk v6 = some _ ∧ Fr 35 (fS [0,3] [vL af v_,vI v6]) a' ∧ SH M X w [eI a6 v_ af] w') ⟨_,0,hm,FrG.keep (ks:=[0,3]) H5 (by kernel_rfl),hS⟩ ?_
   clear hm H5 hS
   rintro kk _ _ ⟨v6,hm,H,hS⟩
   cases kk with
   | zero => exact noneE hm
   | succ kk =>
    rw [ji] at hm
    refine t_in H hS (t_seq ?_)
    refine t_r [0,3,8] [vL af v_,vI v6,vB (decide (v6 < (ln v_)))] [] ?_
    refine t_im hm (fun hm => ?_) (fun hm => ?c20)
    case c20 =>
     refine t_exit ?_
     obtain rfl:=someE hm
     exact t_e []
    refine t_skip (t_seq (t_block ?_))
    obtain ⟨ho9,hm⟩:=chkE hm
    refine t_r [0,3,4] [vL af v_,vI v6,vU ((gi v_ v6).ax.aj)] [ki 0 ho9,kj 0 0 ho9] ?_
    obtain ⟨x12,hx12,hm⟩:=letE hm
    obtain ⟨x13,hx13,hm⟩:=letE hm
    obtain ⟨y14,hy14,hm⟩:=bindE hm
    refine t_r [0,3,34] [vL af v_,vI v6,vB (cond x13 true y14)] [kgi (x13 = false ∧ True) 0 fun hg => ho9,kgj (x13 = false ∧ True) 0 5 fun hg => ho9,kgr (x13 = false ∧ True) fun _ hS hg => retB_of (s0im s0nil (dX ((hS.im 0 rfl).el ho9))) (Tryz.call269 _) (fun w' h' => ih ((af.s (v6).toNat 0)) F0 _ _ (bF (hg.1) hy14) w' h')] ?_ (he:=by subst hx12 hx13; kernel_rfl)
    refine t_i2 hm (fun hm => ?_)
    refine t_skip ?_
    refine t_w [0,3] [vL af v_,vI (w64 (v6 + 1))] [] ?_
    exact fun _ _ H18 hS => ⟨_,Nat.lt_succ_self _,w64 (v6 + 1),hm,FrG.keep (ks:=[0,3]) H18 (by kernel_rfl),hS⟩
  ·refine t_sel [] ?_
   refine t_r [2] [vF] [] (t_ret ?_)
   obtain rfl:=someE hm
   exact t_n [] rs1
def ry (m : Nat) (v_ : List ae) : Option (Bool):=iG m  m v_
theorem sm {af : Gh} (m : Nat) (v_ : List ae) (r : Bool) (hm : ry m v_ = some r) (w : World) (hL : S0 F0 [eI a6 v_ af] w ∧ fpl [eI a6 v_ af] = []) : RetB Tryz.prog 269 ⟨[vL af v_]⟩ (vB r) w:=retB_of hL (Tryz.call269 _) (fun w' h => sY m   m af F0 v_ r hm w' h)

def pD (s : Str) : Option (Bool) :=
  chk ((decide (2 < (ln s))) = true → 0 ≤ (2 : Int) ∧ (2 : Int) ≤ ln s) <|
  lt (cond (decide (2 < (ln s))) ((sub s 0 2) == [45,45]) false) fun x4 =>
  some x4
theorem t8  (s : Str) (r : Bool) (hm : pD s = some r) : Ret Tryz.prog 270 ⟨[vS s]⟩ (vB r):=by
 rw [pD] at hm
 refine f_pure (Tryz.call270 _) Tryz.func270 Tryz.ntmps270 fun M X w => ?_
 refine t_r [0] [vS s] [] ?_
 obtain ⟨ho3,hm⟩:=chkE hm
 obtain ⟨x4,hx4,hm⟩:=letE hm
 refine t_r [2] [vB x4] [kgh ((decide (2 < (ln s))) = true ∧ True) fun hg => (ho3 hg.1)] ?_ (he:=by subst hx4; kernel_rfl)
 refine t_ret ?_
 obtain rfl:=someE hm
 exact t_n [] rs1

def kG (m : Nat) (v_ : List ae) : Nat → Int → Option (Unit)
  | 0,_ => none
  | kk + 1,v43 =>
    cond (decide (v43 < (ln v_))) (
    chk (0 ≤ v43 ∧ v43 < ln v_) <|
    lt (cond (((gi v_ v43).ax.aj) == 17) true (cond (((gi v_ v43).ax.aj) == 9) (((gi v_ v43).ax.ei) == [33]) false)) fun x54 =>
    cond x54 (
    none) (
    kG m v_ kk (w64 (v43 + 1)))) (
    some ())
def pO (m : Nat) (s : Str) (v_ : List ae) : Option (Bool) :=
  Option.bind (
  Option.bind (rm m v_) fun y4 =>
  lt (y4 != 0) fun x5 =>
  cond x5 (
  some true) (
  Option.bind (nq m v_) fun y20 =>
  Option.bind (r6 m y20) fun y25 =>
  Option.bind (cond (y25 != 0) (some default) (ry m v_)) fun y26 =>
  some (cond (y25 != 0) true y26))) fun (z3 : Bool) =>
  cond z3 (
  none) (
  Option.bind (eg m v_) fun y31 =>
  Option.bind (cond ((ln y31) != (ln v_)) (some default) (cond ((ln v_) == 0) (pD s) (some default))) fun y36 =>
  lt (cond ((ln y31) != (ln v_)) true (cond ((ln v_) == 0) (!y36) false)) fun x37 =>
  cond x37 (
  none) (
  Option.bind (
  kG m v_ m 0) fun (z40 : Unit) =>
  some true))
theorem ti {af : Gh} (m : Nat) (s : Str) (v_ : List ae) (r : Bool) (hm : pO m s v_ = some r) (w : World) (hL : S0 F0 [eI a6 v_ af] w ∧ fpl [eI a6 v_ af] = []) : RetB Tryz.prog 232 ⟨[vS s,vL af v_]⟩ (vB r) w:=by
 rw [pO] at hm
 refine f_read hL (Tryz.call232 _) Tryz.func232 Tryz.ntmps232 fun M X w => ?_
 refine t_r [0,1] [vS s,vL af v_] [] (t_seq ?_)
 obtain ⟨z3,hz,hm⟩:=bindE hm
 refine t_cut [0,1,19] [vS s,vL af v_,vB z3] [eI a6 v_ af] ?_ ?_
 ·replace hm:=hz
  refine t_start ?_
  obtain ⟨y4,hy4,hm⟩:=bindE hm
  obtain ⟨x5,hx5,hm⟩:=letE hm
  refine t_b 4 [0,1,10] [vS s,vL af v_,vB x5] [kr fun _ hS => uE (af:=af) m _ _ hy4 _ (s0im s0nil (hS.im 0 rfl))] ?_ (he:=by subst hx5; kernel_rfl)
  cases x5
  case false =>
   replace hm:=bF rfl hm
   intro _ _ H7 hS
   refine wl_batchM 4 5 [] [(0,0),(1,0),(10,0),(11,1)] (fS [0,1,10,11] [vS s,vL af v_,vF,vL af v_]) [] H7 (by decide) (by kernel_rfl) trivial fun _ _ H19 hb => ?_
   replace hS:=hS.below hb
   obtain ⟨y20,hy20,hm⟩:=bindE hm
   have hd:=hS.hand [0] [0] rfl rfl
   refine m_stpG 10 [12,0,1,10] (fS [0,1,10] [vS s,vL af v_,vF]) H19 rfl rfl rfl rfl (o_callx H19 rfl rfl (n5 (af:=af) m _ _ hy20 _ _ hd)) (fun _ => rfl) fun _ _ v H24 hq => ?_
   obtain ⟨g21,rfl,hq⟩:=hq
   replace hS:=hS.join [0] [0] rfl rfl hq
   obtain ⟨y25,hy25,hm⟩:=bindE hm
   obtain ⟨y26,hy26,hm⟩:=bindE hm
   refine t_in H24 hS ?_
   refine t_b 13 [0,1,19] [vS s,vL af v_,vB (cond (y25 != 0) true y26)] [kgr (false = false ∧ True) fun _ hS hg => ue (aa:=g21) m _ _ hy25 _ (s0im s0nil (hS.osl 0 rfl)),kgr ((y25 != 0) = false ∧ True) fun _ hS hg => sm (af:=af) m _ _ (bF (hg.1) hy26) _ (s0im s0nil (hS.im 1 rfl))] (t_end (t_sel [1] ?_))
   obtain rfl:=someE hm
   exact t_e [0,1,19]
  replace hm:=bT rfl hm
  intro _ _ H7 hS
  refine m_skipG 10 [11,0,1,10] (fS [11,0,1,10] [undef,vS s,vL af v_,vT]) H7 rfl rfl rfl rfl rfl rfl fun _ H8 => ?_
  refine m_skipG 10 [12,0,1,10] (fS [12,0,1,10] [undef,vS s,vL af v_,vT]) H8 rfl rfl rfl rfl rfl rfl fun _ H9 => ?_
  refine m_skipG 10 [13,0,1,10] (fS [13,0,1,10] [undef,vS s,vL af v_,vT]) H9 rfl rfl rfl rfl rfl rfl fun _ H10 => ?_
  refine m_skipG 10 [14,0,1,10] (fS [14,0,1,10] [undef,vS s,vL af v_,vT]) H10 rfl rfl rfl rfl rfl rfl fun _ H11 => ?_
  refine t_in H11 hS ?_
  refine t_b 10 [0,1,16] [vS s,vL af v_,vT] [] ?_
  intro _ _ H13 hS
  refine m_skipG 16 [17,0,1,16] (fS [17,0,1,16] [undef,vS s,vL af v_,vT]) H13 rfl rfl rfl rfl rfl rfl fun _ H14 => ?_
  refine m_skipG 16 [18,0,1,16] (fS [18,0,1,16] [undef,vS s,vL af v_,vT]) H14 rfl rfl rfl rfl rfl rfl fun _ H15 => ?_
  refine t_in H15 hS ?_
  refine t_b 13 [0,1,19] [vS s,vL af v_,vT] [] (t_end ?_)
  obtain rfl:=someE hm
  exact t_e [0,1,19]
 ·refine t_if (fun hc => ?c66) (fun hc => ?_)
  case c66 =>
   replace hm:=bT hc hm
   intro _ _ H hS
   exact noneE hm
  replace hm:=bF hc hm
  refine t_skip (t_seq (t_starts ?_))
  refine t_b 1 [0,1,20] [vS s,vL af v_,vL af v_] [] ?_
  obtain ⟨y31,hy31,hm⟩:=bindE hm
  refine t_c [0] [0] [0,1] [vS s,vL af v_] (dD (af:=af) m _ _ hy31) fun g32 => ?_
  obtain ⟨y36,hy36,hm⟩:=bindE hm
  obtain ⟨x37,hx37,hm⟩:=letE hm
  refine t_b 16 [1,35] [vL af v_,vB x37] [kgc (((ln v_) == 0) = true ∧ ((ln y31) != (ln v_)) = false ∧ True) fun hg => (t8 _ _ (bT (hg.1) (bF (hg.2.1) hy36)))] ?_ (he:=by subst hx37; kernel_rfl)
  refine t_end (t_sel [1] ?_)
  refine t_i2 hm (fun hm => ?_)
  refine t_skip ?_
  obtain ⟨z40,hz,hm⟩:=bindE hm
  refine t_cut [] [] [eI a6 v_ af] ?_ ?_
  ·replace hm:=hz
   refine t_r [1,5] [vL af v_,vI 0] [] (t_block ?_)
   intro _ _ H42 hS
   refine w_loop (fun kk a' w' => ∃ (v43 : Int),kG m v_ kk v43 = some _ ∧ Fr 60 (fS [1,5] [vL af v_,vI v43]) a' ∧ SH M X w [eI a6 v_ af] w') ⟨_,0,hm,FrG.keep (ks:=[1,5]) H42 (by kernel_rfl),hS⟩ ?_
   clear hm H42 hS
   rintro kk _ _ ⟨v43,hm,H,hS⟩
   cases kk with
   | zero => exact noneE hm
   | succ kk =>
    rw [kG] at hm
    refine t_in H hS (t_seq ?_)
    refine t_r [1,5,39] [vL af v_,vI v43,vB (decide (v43 < (ln v_)))] [] ?_
    refine t_im hm (fun hm => ?_) (fun hm => ?c60)
    case c60 =>
     refine t_exit ?_
     obtain rfl:=someE hm
     exact t_e []
    refine t_skip (t_seq (t_block (t_starts ?_)))
    obtain ⟨ho46,hm⟩:=chkE hm
    refine t_b 5 [1,5,46] [vL af v_,vI v43,.agg ⟨e6 ((gi v_ v43).ax)⟩] [ki 0 ho46,⟨some (.agg ⟨e6 ((gi v_ v43).ax)⟩),fun wz => V.atN (ab af.a) (ao af.a + (v43).toNat * 6) (e6 ((gi v_ v43).ax)) 0 wz,fun _ hS => ((hS.im 0 rfl).atA ho46 0 rfl)⟩] ?_
    refine t_m [] [0] [1,5,46] [vL af v_,vI v43,.agg ⟨e6 ((gi v_ v43).ax)⟩] (fun _ _ H48 hd => o_alloc [vU 0,vN,vI 0,vN,vF] (z:=vG [vU 0,vN,vI 0,vN,vF]) hd (by kernel_rfl) rfl) fun b49 => ?_
    refine t_m0 [0] [1] [1,5,6] [vL af v_,vI v43,vP b49] (fun _ _ H51 hd => o_store (e6 ((gi v_ v43).ax)) H51 hd rfl rfl (by kernel_rfl) rfl rfl rfl) (t_end ?_)
    obtain ⟨x54,hx54,hm⟩:=letE hm
    refine t_r [1,5,59] [vL af v_,vI v43,vB x54] [kb 0 0,kgb ((((gi v_ v43).ax.aj) == 17) = false ∧ True) 0 0,kgb ((((gi v_ v43).ax.aj) == 9) = true ∧ (((gi v_ v43).ax.aj) == 17) = false ∧ True) 0 1] ?_ (he:=by subst hx54; kernel_rfl)
    refine t_sel [1] ?_
    refine t_i2 hm (fun hm => ?_)
    refine t_skip ?_
    refine t_w [1,5] [vL af v_,vI (w64 (v43 + 1))] [] ?_
    exact fun _ _ H58 hS => ⟨_,Nat.lt_succ_self _,w64 (v43 + 1),hm,FrG.keep (ks:=[1,5]) H58 (by kernel_rfl),hS⟩
  ·refine t_sel [] ?_
   refine t_r [4] [vT] [] (t_ret ?_)
   obtain rfl:=someE hm
   exact t_n [] rs1

def oW (m : Nat) (d_ : bD) : Option (Int) :=
  Option.bind (rg m d_.bA) fun y6 =>
  Option.bind (cond (!y6) (some default) (pO m d_.bA d_.Value)) fun y7 =>
  cond (cond (!y6) true (!y7)) (
  none) (
  some 0)
theorem qg {bn : Gh} (m : Nat) (d_ : bD) (r : Int) (hm : oW m d_ = some r) (w : World) (hL : S0 F0 [eI a6 d_.Value bn] w ∧ fpl [eI a6 d_.Value bn] = []) : RetB Tryz.prog 177 ⟨[.agg ⟨e11 d_ (gL [bn])⟩]⟩ (vI r) w:=by
 rw [oW] at hm
 refine f_read hL (Tryz.call177 _) Tryz.func177 Tryz.ntmps177 fun M X w => (t_starts ?_)
 refine t_m [] [0] [] [] (fun _ _ H hd => o_box (e11 d_ (gL [bn])) H hd rfl rfl) fun b1 => ?_
 refine t_b 2 [1] [vP b1] [] (t_end (t_seq ?_))
 obtain ⟨y6,hy6,hm⟩:=bindE hm
 obtain ⟨y7,hy7,hm⟩:=bindE hm
 refine t_r [14] [vB (cond (!y6) true (!y7))] [kb 0 0,kc (u6 m _ _ hy6),kgb ((!y6) = false ∧ True) 0 0,kgb ((!y6) = false ∧ True) 0 1,kgr ((!y6) = false ∧ True) fun _ hS hg => ti (af:=bn) m _ _ _ (bF (hg.1) hy7) _ (s0im s0nil (hS.im 1 rfl))] (t_sel [] ?_)
 refine t_i2 hm (fun hm => ?_)
 refine t_skip ?_
 refine t_r [2] [vI 0] [] (t_ret ?_)
 obtain rfl:=someE hm
 exact t_n [] rs1

def oP (m : Nat) (v_ : List ae) : Option (bD × Bool) :=
  Option.bind (eg m v_) fun y8 =>
  chk (((ln y8) == 0) = false → 0 ≤ (0 : Int) ∧ (0 : Int) < ln y8) <|
  lt (cond ((ln y8) == 0) true (((gi y8 (0 : Int)).ax.aj) != 1)) fun x16 =>
  cond x16 (
  some ((bD.mk [] ([] : List ae) false),false)) (
  chk (0 ≤ (0 : Int) ∧ (0 : Int) < ln y8) <|
  Option.bind (
  lt (decide ((ln ((gi y8 (0 : Int)).ax.ei)) < 2)) fun x35 =>
  chk (x35 = false → 0 ≤ (2 : Int) ∧ (2 : Int) ≤ ln ((gi y8 (0 : Int)).ax.ei)) <|
  lt (cond x35 true (!((sub ((gi y8 (0 : Int)).ax.ei) 0 2) == [45,45]))) fun x37 =>
  cond x37 (
  Option.bind (gI m ((gi y8 (0 : Int)).ax.ei)) fun y40 =>
  some y40) (
  some ((gi y8 (0 : Int)).ax.ei))) fun (z34 : Str) =>
  chk (0 ≤ (1 : Int) ∧ (1 : Int) ≤ (ln y8) ∧ (ln y8) ≤ ln y8) <|
  lt (subl y8 (1 : Int) (ln y8)) fun q49 =>
  Option.bind (eg m q49) fun y54 =>
  chk (((ln y54) == 0) = false → 0 ≤ (0 : Int) ∧ (0 : Int) < ln y54) <|
  lt (cond ((ln y54) == 0) true (((gi y54 (0 : Int)).ax.aj) != 16)) fun x62 =>
  cond x62 (
  some ((bD.mk [] ([] : List ae) false),false)) (
  chk (0 ≤ (1 : Int) ∧ (1 : Int) ≤ (ln y54) ∧ (ln y54) ≤ ln y54) <|
  lt (subl y54 (1 : Int) (ln y54)) fun q75 =>
  Option.bind (eg m q75) fun y80 =>
  Option.bind (pA m y80) fun y85 =>
  Option.bind (oW m (bD.mk z34 y85.1 y85.2)) fun y98 =>
  cond (y98 != 0) (
  none) (
  some ((bD.mk z34 y85.1 y85.2),true))))
theorem qE {af : Gh} (m : Nat) (v_ : List ae) (r : bD × Bool) (hm : oP m v_ = some r) : DoesM Tryz.prog 113 ⟨[vL af v_]⟩ [eI a6 v_ af] (fun (aA : Gh) => .tuple ⟨[.agg ⟨e11 r.1 (gL [aA])⟩,vB r.2]⟩) (fun aA => [eI a6 r.1.Value aA]):=by
 rw [oP] at hm
 refine f_mem (Tryz.call113 _) Tryz.func113 Tryz.ntmps113 fun M X w => (t_starts ?_)
 refine t_m [] [0] [0] [vL af v_] (fun _ _ H hd => o_alloc [vN,vO,vF] (z:=vG [vN,vO,vF]) hd (by kernel_rfl) rfl) fun b1 => ?_
 refine t_b 2 [0,2] [vL af v_,vP b1] [] (t_end (t_starts ?_))
 refine t_b 1 [2,5] [vP b1,vL af v_] [] ?_
 obtain ⟨y8,hy8,hm⟩:=bindE hm
 refine t_c [1] [0,1] [2] [vP b1] (dD (af:=af) m _ _ hy8) fun g9 => ?_
 refine t_b 3 [0,2] [vL g9 y8,vP b1] [] (t_end (t_sel [0,1] (t_seq ?_)))
 obtain ⟨ho15,hm⟩:=chkE hm
 obtain ⟨x16,hx16,hm⟩:=letE hm
 refine t_r [0,2,17] [vL g9 y8,vP b1,vB x16] [kgi (((ln y8) == 0) = false ∧ True) 0 fun hg => (ho15 hg.1),kgj (((ln y8) == 0) = false ∧ True) 0 0 fun hg => (ho15 hg.1)] ?_ (he:=by subst hx16; kernel_rfl)
 refine t_im hm (fun hm => ?c110) (fun hm => ?_)
 case c110 =>
  refine t_starts ?_
  refine t_b 1 [2,18] [vP b1,vG [vN,vO,vF]] [] ?_
  refine t_m0 [1] [0] [2] [vP b1] (fun _ _ H20 hd => o_store [vN,vO,vF] H20 hd rfl rfl (by kernel_rfl) rfl rfl rfl) ?_
  refine t_b 3 [2,3] [vP b1,vF] [] (t_end (t_sel [0] (t_ret ?_)))
  obtain rfl:=someE hm
  refine t_nil 137 a6 ?_
  refine t_frz [0,1] ?_
  exact t_g Gh.nil [0] (rsav 1 Tryz.underlying36)
 refine t_skip (t_starts ?_)
 obtain ⟨ho26,hm⟩:=chkE hm
 refine t_b 6 [0,2,24] [vL g9 y8,vP b1,vG [vS (gi y8 (0 : Int)).ax.ei,vO,vF]] [ki 0 ho26,kj 0 1 ho26] ?_
 refine t_m [] [0,1] [0,2,24] [vL g9 y8,vP b1,vG [vS (gi y8 (0 : Int)).ax.ei,vO,vF]] (fun _ _ H28 hd => o_alloc [vN,vO,vF] (z:=vG [vN,vO,vF]) hd (by kernel_rfl) rfl) fun b29 => ?_
 refine t_m0 [0] [1,2] [0,2,4] [vL g9 y8,vP b1,vP b29] (fun _ _ H31 hd => o_store [vS (gi y8 (0 : Int)).ax.ei,vO,vF] H31 hd rfl rfl (by kernel_rfl) rfl rfl rfl) (t_end ?_)
 obtain ⟨z34,hz,hm⟩:=bindE hm
 refine t_cut [0,2,4] [vL g9 y8,vP b1,vP b29] [eB b29 [vS z34,vO,vF],eI a6 y8 g9,eB b1 [vN,vO,vF]] ?_ ?_
 ·replace hm:=hz
  obtain ⟨x35,hx35,hm⟩:=letE hm
  obtain ⟨ho36,hm⟩:=chkE hm
  obtain ⟨x37,hx37,hm⟩:=letE hm
  refine t_r [0,2,4,34] [vL g9 y8,vP b1,vP b29,vB x37] [kb 0 0,kgb (x35 = false ∧ True) 0 0,kgh (x35 = false ∧ True) fun hg => (ho36 hg.1)] ?_ (he:=by subst hx35 hx37; kernel_rfl)
  refine t_im hm (fun hm => ?_) (fun hm => ?c45)
  case c45 =>
   refine t_skip ?_
   obtain rfl:=someE hm
   exact t_e [0,2,4]
  refine t_start ?_
  obtain ⟨y40,hy40,hm⟩:=bindE hm
  refine t_b 4 [0,2,4,37,38] [vL g9 y8,vP b1,vP b29,vS y40,vP b29] [kb 0 0,kc (fK m _ _ hy40)] ?_
  refine t_m0 [0] [1,2] [0,2,4] [vL g9 y8,vP b1,vP b29] (fun _ _ H42 hd => o_store [vS y40,vO,vF] H42 hd rfl rfl (by kernel_rfl) rfl rfl rfl) (t_end ?_)
  obtain rfl:=someE hm
  exact t_e [0,2,4]
 ·refine t_starts ?_
  refine t_b 1 [2,4,39] [vP b1,vP b29,vL g9 y8] [] ?_
  obtain ⟨ho48,hm⟩:=chkE hm
  obtain ⟨q49,hq49,hm⟩:=letE hm
  refine t_m [1] [0,1,2] [2,4] [vP b1,vP b29] (fun _ _ H47 hd => o_sub (T:=a6) (E:=137) (g:=g9) (q:=y8) (1 : Int) (ln y8) (.some (vI 1)) .none H47 hd (hd.im 0 rfl) rfl rfl rfl rfl rfl rfl (.inr ⟨_,rfl⟩) (.inl ⟨rfl,rfl⟩) (by kernel_rfl) (by kernel_rfl) ho48) fun g52 => ?_
  rw [← hq49]
  obtain ⟨y54,hy54,hm⟩:=bindE hm
  refine t_c [0] [0,1,2,3,4] [2,4] [vP b1,vP b29] (dD (af:=g52) m _ _ hy54) fun g55 => ?_
  refine t_b 4 [0,2,4] [vL g55 y54,vP b1,vP b29] [] (t_end (t_sel [0,3,5] (t_seq ?_)))
  obtain ⟨ho61,hm⟩:=chkE hm
  obtain ⟨x62,hx62,hm⟩:=letE hm
  refine t_r [0,2,4,52] [vL g55 y54,vP b1,vP b29,vB x62] [kgi (((ln y54) == 0) = false ∧ True) 0 fun hg => (ho61 hg.1),kgj (((ln y54) == 0) = false ∧ True) 0 0 fun hg => (ho61 hg.1)] ?_ (he:=by subst hx62; kernel_rfl)
  refine t_im hm (fun hm => ?c108) (fun hm => ?_)
  case c108 =>
   refine t_starts ?_
   refine t_b 1 [2,53] [vP b1,vG [vN,vO,vF]] [] ?_
   refine t_m0 [2] [0,1] [2] [vP b1] (fun _ _ H66 hd => o_store [vN,vO,vF] H66 hd rfl rfl (by kernel_rfl) rfl rfl rfl) ?_
   refine t_b 3 [2,3] [vP b1,vF] [] (t_end (t_sel [0] (t_ret ?_)))
   obtain rfl:=someE hm
   refine t_nil 137 a6 ?_
   refine t_frz [0,1] ?_
   exact t_g Gh.nil [0] (rsav 1 Tryz.underlying36)
  refine t_skip (t_starts ?_)
  refine t_b 1 [2,4,55] [vP b1,vP b29,vL g55 y54] [] ?_
  obtain ⟨ho74,hm⟩:=chkE hm
  obtain ⟨q75,hq75,hm⟩:=letE hm
  refine t_m [0] [0,1,2] [2,4] [vP b1,vP b29] (fun _ _ H73 hd => o_sub (T:=a6) (E:=137) (g:=g55) (q:=y54) (1 : Int) (ln y54) (.some (vI 1)) .none H73 hd (hd.im 0 rfl) rfl rfl rfl rfl rfl rfl (.inr ⟨_,rfl⟩) (.inl ⟨rfl,rfl⟩) (by kernel_rfl) (by kernel_rfl) ho74) fun g78 => ?_
  rw [← hq75]
  obtain ⟨y80,hy80,hm⟩:=bindE hm
  refine t_c [0] [0,1,2,3,4] [2,4] [vP b1,vP b29] (dD (af:=g78) m _ _ hy80) fun g81 => ?_
  obtain ⟨y85,hy85,hm⟩:=bindE hm
  refine t_c [0] [0,1,2,3,4,5] [2,4] [vP b1,vP b29] (tj (af:=g81) m _ _ hy85) fun g86 => ?_
  refine t_b 8 [2,4,59,60,61] [vP b1,vP b29,vL g86 y85.1,vB y85.2,vA b29 1] [] ?_
  refine t_m0 [5] [0,1,2,3,4,6] [2,4,60] [vP b1,vP b29,vB y85.2] (fun _ _ H91 hd => o_store [vS z34,vL g86 y85.1,vF] H91 hd rfl rfl (by kernel_rfl) rfl rfl rfl) ?_
  refine t_b 10 [2,4,60,62] [vP b1,vP b29,vB y85.2,vA b29 2] [] ?_
  refine t_m0 [0] [1,2,3,4,5,6] [2,4] [vP b1,vP b29] (fun _ _ H95 hd => o_store [vS z34,vL g86 y85.1,vB y85.2] H95 hd rfl rfl (by kernel_rfl) rfl rfl rfl) (t_end (t_sel [0,1,6] (t_seq ?_)))
  obtain ⟨y98,hy98,hm⟩:=bindE hm
  refine t_r [2,4,65] [vP b1,vP b29,vB (y98 != 0)] [kE 0 3,kr fun _ hS => qg (bn:=g86) m _ _ hy98 _ (s0im s0nil (hS.im 1 rfl))] ?_
  refine t_i2 hm (fun hm => ?_)
  refine t_skip (t_starts ?_)
  refine t_b 1 [2,67] [vP b1,vG [vS z34,vL g86 y85.1,vB y85.2]] [kE 0 3] ?_
  refine t_m0 [2] [0,1] [2] [vP b1] (fun _ _ H102 hd => o_store [vS z34,vL g86 y85.1,vB y85.2] H102 hd rfl rfl (by kernel_rfl) rfl rfl rfl) ?_
  refine t_b 3 [2,3] [vP b1,vT] [] (t_end (t_sel [0,2] (t_ret ?_)))
  obtain rfl:=someE hm
  exact t_g g86 [1] (rsav 0 Tryz.underlying36)

def np (m : Nat) (y7 : List (List ae)) : Nat → Int → Option (Unit)
  | 0,_ => none
  | kk + 1,v17 =>
    cond (cond (decide (v17 < (ln y7))) true false) (
    chk (0 ≤ v17 ∧ v17 < ln y7) <|
    Option.bind (oP m (gi y7 v17)) fun y24 =>
    cond y24.2 (
    none) (
    np m y7 kk (w64 (v17 + 1)))) (
    some ())
def uh (m : Nat) (v_ : List ae) : Option (List bD) :=
  Option.bind (lI m v_ 17) fun y7 =>
  Option.bind (
  np m y7 m 0) fun (z14 : Unit) =>
  some ([] : List bD)
theorem vE {af : Gh} (m : Nat) (v_ : List ae) (r : List bD) (hm : uh m v_ = some r) : DoesM Tryz.prog 65 ⟨[vL af v_]⟩ [eI a6 v_ af] (fun (aA : Gh) => vL aA r) (fun aA => [eO 36 bf r aA]):=by
 rw [uh] at hm
 refine f_mem (Tryz.call65 _) Tryz.func65 Tryz.ntmps65 fun M X w => ?_
 refine t_r [0] [vL af v_] [] ?_
 refine t_r [0,3] [vL af v_,vO] [] (t_starts ?_)
 refine t_b 1 [3,8] [vO,vL af v_] [] ?_
 obtain ⟨y7,hy7,hm⟩:=bindE hm
 refine t_c [0] [0] [3] [vO] (lB (af:=af) m _ _ _ hy7) fun g8 => ?_
 refine t_b 3 [3,4] [vO,vL g8 y7] [] (t_end (t_sel [0] ?_))
 obtain ⟨z14,hz,hm⟩:=bindE hm
 refine t_cut [3] [vO] [eO 34 (Ty.sl a6) y7 g8] ?_ ?_
 ·replace hm:=hz
  refine t_r [3,4,5] [vO,vL g8 y7,vI 0] [] (t_block ?_)
  intro _ _ H16 hS
  refine w_loop (fun kk a' w' => ∃ (v17 : Int),np m y7 kk v17 = some _ ∧ Fr 35 (fS [4,3,5] [vL g8 y7,vO,vI v17]) a' ∧ SH M X w [eO 34 (Ty.sl a6) y7 g8] w') ⟨_,0,hm,FrG.keep (ks:=[4,3,5]) H16 (by kernel_rfl),hS⟩ ?_
  clear hm H16 hS
  rintro kk _ _ ⟨v17,hm,H,hS⟩
  cases kk with
  | zero => exact noneE hm
  | succ kk =>
   rw [np] at hm
   refine t_in H hS (t_seq ?_)
   refine t_r [3,4,5,18] [vO,vL g8 y7,vI v17,vB (cond (decide (v17 < (ln y7))) true false)] [] ?_
   refine t_im hm (fun hm => ?_) (fun hm => ?c43)
   case c43 =>
    refine t_exit ?_
    obtain rfl:=someE hm
    exact t_e [3]
   refine t_skip (t_seq (t_block (t_starts ?_)))
   obtain ⟨ho20,hm⟩:=chkE hm
   refine t_b 4 [3,4,5,25] [vO,vL g8 y7,vI v17,.slice (g8.s (v17).toNat 0).a ((gi y7 v17).length) (g8.s (v17).toNat 0).c] [kI 0 ho20,kJ 0 0 ho20] ?_
   intro _ _ H22 hS
   replace hS:=hS.addIm (sl_inn ((hS.ow 0 rfl).el ho20))
   obtain ⟨y24,hy24,hm⟩:=bindE hm
   refine t_in H22 hS ?_
   refine t_c [0] [0,1] [3,4,5] [vO,vL g8 y7,vI v17] (qE (af:=(g8.s (v17).toNat 0)) m _ _ hy24) fun g25 => ?_
   refine t_b 8 [3,4,5,27,28] [vO,vL g8 y7,vI v17,.agg ⟨e11 y24.1 (gL [g25])⟩,vB y24.2] [] ?_
   refine t_m [] [0,1,2] [3,4,5,27,28] [vO,vL g8 y7,vI v17,.agg ⟨e11 y24.1 (gL [g25])⟩,vB y24.2] (fun _ _ H30 hd => o_alloc [vN,vO,vF] (z:=vG [vN,vO,vF]) hd (by kernel_rfl) rfl) fun b31 => ?_
   refine t_m0 [0] [1,2,3] [3,4,5,6,28] [vO,vL g8 y7,vI v17,vP b31,vB y24.2] (fun _ _ H33 hd => o_store (e11 y24.1 (gL [g25])) H33 hd rfl rfl (by kernel_rfl) rfl rfl rfl) ?_
   refine t_b 11 [3,4,5,6,7] [vO,vL g8 y7,vI v17,vP b31,vB y24.2] [] (t_end (t_sel [0,1,3] ?_))
   refine t_r [3,4,5,6,29] [vO,vL g8 y7,vI v17,vP b31,vB y24.2] [] ?_
   refine t_i2 hm (fun hm => ?_)
   refine t_skip ?_
   refine t_w [3,4,5] [vO,vL g8 y7,vI (w64 (v17 + 1))] [] (t_sel [2] ?_)
   exact fun _ _ H41 hS => ⟨_,Nat.lt_succ_self _,w64 (v17 + 1),hm,FrG.keep (ks:=[4,3,5]) H41 (by kernel_rfl),hS⟩
 ·refine t_sel [] ?_
  refine t_r [2] [vO] [] (t_ret ?_)
  obtain rfl:=someE hm
  refine t_nil 36 bf ?_
  exact t_g Gh.nil [0] rs1

inductive ay where
  | mk (aj : Int) (bA : Str) (Num : Int) (az : bD) (a8 : List ay)
def ay.aj : ay → Int
  | .mk x _ _ _ _ => x
def ay.bA : ay → Str
  | .mk _ x _ _ _ => x
def ay.Num : ay → Int
  | .mk _ _ x _ _ => x
def ay.az : ay → bD
  | .mk _ _ _ x _ => x
def ay.a8 : ay → List ay
  | .mk _ _ _ _ x => x
instance : Inhabited ay:=⟨.mk default default default default default⟩
def qI (x : ay) (g : Nat → Gh) : List Value:=[vU x.aj,vS x.bA,vI x.Num,vS x.az.bA,.slice (g 0).a x.az.Value.length (g 0).c,vB x.az.bK,.slice (g 1).a x.a8.length (g 1).c]
def e4 (x : ay) (g : Nat → Gh) : List Value:=qI x g
inductive fc (M : Av) (w : World) : ay → (Nat → Gh) → Prop
  | mk (x : ay) (g : Nat → Gh) (h0 : SlG a6 M w x.az.Value (g 0)) (h1 : SlC 7 qI M w x.a8 (g 1)) (h2 : ∀ i (h : i < x.a8.length),fc M w x.a8[i] ((g 1).s i)) : fc M w x g
theorem uU {M : Av} {w w' : World} {X : List Nat} {x : ay} {g : Nat → Gh} (h : fc M w x g) (k : Kp X w w') (hX : ∀ b ∈ X,M b) : fc M w' x g:=by
  induction h with
  | mk x g h0 h1 _h2 ih2 => exact .mk x g (h0.kp k hX) (h1.kp k hX) ih2
theorem s4 {M M' : Av} {w : World} {x : ay} {g : Nat → Gh} (h : fc M w x g) (hM : ∀ b,M' b → M b) : fc M' w x g:=by
  induction h with
  | mk x g h0 h1 _h2 ih2 => exact .mk x g (h0.anti hM) (h1.anti hM) ih2
theorem rT {M : Av} {w : World} {x : ay} {g : Nat → Gh} (h : fc M w x g) : fc (fun b => M b ∨ w.heap.size ≤ b) w x g:=by
  induction h with
  | mk x g h0 h1 _h2 ih2 => exact .mk x g (h0.fresh) (h1.fresh) ih2
def ak : Ty ay where
  z:=7
  enc:=qI
  inn:=fc
  len:=fun _ _ => rfl
  one:=fun _ _ => rfl
  kp:=fun h k hX => uU h k hX
  anti:=fun h hM => s4 h hM
  fresh:=fun h => rT h
theorem eX {M : Av} {w : World} {x : ay} {g : Nat → Gh} (h : ak.inn M w x g) : SlG a6 M w x.az.Value (g 0):=by
  have h : fc M w x g:=h
  cases h with
  | mk _ _ h0 h1 h2 => exact h0
theorem eY {M : Av} {w : World} {x : ay} {g : Nat → Gh} (h : ak.inn M w x g) : SlG ak M w x.a8 (g 1):=by
  have h : fc M w x g:=h
  cases h with
  | mk _ _ h0 h1 h2 => exact ⟨h1,h2⟩
theorem iX {M : Av} {w : World} {x : ay} {g : Nat → Gh} (k0 : SlG a6 M w x.az.Value (g 0)) (k1 : SlG ak M w x.a8 (g 1)) : ak.inn M w x g:=(fc.mk x g k0 k1.1 k1.2 : fc M w x g)
inductive aS where
  | mk (aj : Int) (aC : List aK) (bl : List bD) (aB : ay) (aQ : List (List Str)) (aF : List aS)
def aS.aj : aS → Int
  | .mk x _ _ _ _ _ => x
def aS.aC : aS → List aK
  | .mk _ x _ _ _ _ => x
def aS.bl : aS → List bD
  | .mk _ _ x _ _ _ => x
def aS.aB : aS → ay
  | .mk _ _ _ x _ _ => x
def aS.aQ : aS → List (List Str)
  | .mk _ _ _ _ x _ => x
def aS.aF : aS → List aS
  | .mk _ _ _ _ _ x => x
instance : Inhabited aS:=⟨.mk default default default default default default⟩
def qT (x : aS) (g : Nat → Gh) : List Value:=[vU x.aj,.slice (g 0).a x.aC.length (g 0).c,.slice (g 1).a x.bl.length (g 1).c,vU x.aB.aj,vS x.aB.bA,vI x.aB.Num,vS x.aB.az.bA,.slice (g 2).a x.aB.az.Value.length (g 2).c,vB x.aB.az.bK,.slice (g 3).a x.aB.a8.length (g 3).c,.slice (g 4).a x.aQ.length (g 4).c,.slice (g 5).a x.aF.length (g 5).c]
def e5 (x : aS) (g : Nat → Gh) : List Value:=qT x g
inductive ee (M : Av) (w : World) : aS → (Nat → Gh) → Prop
  | mk (x : aS) (g : Nat → Gh) (h0 : SlG au M w x.aC (g 0)) (h1 : SlG bf M w x.bl (g 1)) (h2 : SlG a6 M w x.aB.az.Value (g 2)) (h3 : SlG ak M w x.aB.a8 (g 3)) (h4 : SlG (Ty.sl tS) M w x.aQ (g 4)) (h5 : SlC 12 qT M w x.aF (g 5)) (h6 : ∀ i (h : i < x.aF.length),ee M w x.aF[i] ((g 5).s i)) : ee M w x g
theorem uW {M : Av} {w w' : World} {X : List Nat} {x : aS} {g : Nat → Gh} (h : ee M w x g) (k : Kp X w w') (hX : ∀ b ∈ X,M b) : ee M w' x g:=by
  induction h with
  | mk x g h0 h1 h2 h3 h4 h5 _h6 ih6 => exact .mk x g (h0.kp k hX) (h1.kp k hX) (h2.kp k hX) (h3.kp k hX) (h4.kp k hX) (h5.kp k hX) ih6
theorem sc {M M' : Av} {w : World} {x : aS} {g : Nat → Gh} (h : ee M w x g) (hM : ∀ b,M' b → M b) : ee M' w x g:=by
  induction h with
  | mk x g h0 h1 h2 h3 h4 h5 _h6 ih6 => exact .mk x g (h0.anti hM) (h1.anti hM) (h2.anti hM) (h3.anti hM) (h4.anti hM) (h5.anti hM) ih6
theorem rG {M : Av} {w : World} {x : aS} {g : Nat → Gh} (h : ee M w x g) : ee (fun b => M b ∨ w.heap.size ≤ b) w x g:=by
  induction h with
  | mk x g h0 h1 h2 h3 h4 h5 _h6 ih6 => exact .mk x g (h0.fresh) (h1.fresh) (h2.fresh) (h3.fresh) (h4.fresh) (h5.fresh) ih6
def aJ : Ty aS where
  z:=12
  enc:=qT
  inn:=ee
  len:=fun _ _ => rfl
  one:=fun _ _ => rfl
  kp:=fun h k hX => uW h k hX
  anti:=fun h hM => sc h hM
  fresh:=fun h => rG h
theorem jW {M : Av} {w : World} {x : aS} {g : Nat → Gh} (h : aJ.inn M w x g) : SlG au M w x.aC (g 0):=by
  have h : ee M w x g:=h
  cases h with
  | mk _ _ h0 h1 h2 h3 h4 h5 h6 => exact h0
theorem ng {M : Av} {w : World} {x : aS} {g : Nat → Gh} (h : aJ.inn M w x g) : SlG bf M w x.bl (g 1):=by
  have h : ee M w x g:=h
  cases h with
  | mk _ _ h0 h1 h2 h3 h4 h5 h6 => exact h1
theorem fA {M : Av} {w : World} {x : aS} {g : Nat → Gh} (h : aJ.inn M w x g) : SlG a6 M w x.aB.az.Value (g 2):=by
  have h : ee M w x g:=h
  cases h with
  | mk _ _ h0 h1 h2 h3 h4 h5 h6 => exact h2
theorem fx {M : Av} {w : World} {x : aS} {g : Nat → Gh} (h : aJ.inn M w x g) : SlG ak M w x.aB.a8 (g 3):=by
  have h : ee M w x g:=h
  cases h with
  | mk _ _ h0 h1 h2 h3 h4 h5 h6 => exact h3
theorem fC {M : Av} {w : World} {x : aS} {g : Nat → Gh} (h : aJ.inn M w x g) : SlG (Ty.sl tS) M w x.aQ (g 4):=by
  have h : ee M w x g:=h
  cases h with
  | mk _ _ h0 h1 h2 h3 h4 h5 h6 => exact h4
theorem jV {M : Av} {w : World} {x : aS} {g : Nat → Gh} (h : aJ.inn M w x g) : SlG aJ M w x.aF (g 5):=by
  have h : ee M w x g:=h
  cases h with
  | mk _ _ h0 h1 h2 h3 h4 h5 h6 => exact ⟨h5,h6⟩
theorem rh {M : Av} {w : World} {x : aS} {g : Nat → Gh} (k0 : SlG au M w x.aC (g 0)) (k1 : SlG bf M w x.bl (g 1)) (k2 : SlG a6 M w x.aB.az.Value (g 2)) (k3 : SlG ak M w x.aB.a8 (g 3)) (k4 : SlG (Ty.sl tS) M w x.aQ (g 4)) (k5 : SlG aJ M w x.aF (g 5)) : aJ.inn M w x g:=(ee.mk x g k0 k1 k2 k3 k4 k5.1 k5.2 : ee M w x g)
def ia (m : Nat) (v_ : List ae) (i : Int) (s : Str) : Option (Bool) :=
  chk ((decide (i < (ln v_))) = true → 0 ≤ i ∧ i < ln v_) <|
  lt (cond (decide (i < (ln v_))) (((gi v_ i).ax.aj) == 1) false) fun x4 =>
  chk (x4 = true → 0 ≤ i ∧ i < ln v_) <|
  Option.bind (cond x4 (gD m ((gi v_ i).ax.ei) s) (some default)) fun y6 =>
  some (cond x4 y6 false)
theorem fP {af : Gh} (m : Nat) (v_ : List ae) (i : Int) (s : Str) (r : Bool) (hm : ia m v_ i s = some r) (w : World) (hL : S0 F0 [eI a6 v_ af] w ∧ fpl [eI a6 v_ af] = []) : RetB Tryz.prog 179 ⟨[vL af v_,vI i,vS s]⟩ (vB r) w:=by
 rw [ia] at hm
 refine f_read hL (Tryz.call179 _) Tryz.func179 Tryz.ntmps179 fun M X w => ?_
 refine t_r [0,1,2] [vL af v_,vI i,vS s] [] ?_
 obtain ⟨ho3,hm⟩:=chkE hm
 obtain ⟨x4,hx4,hm⟩:=letE hm
 obtain ⟨ho5,hm⟩:=chkE hm
 obtain ⟨y6,hy6,hm⟩:=bindE hm
 refine t_r [6] [vB (cond x4 y6 false)] [kgi ((decide (i < (ln v_))) = true ∧ True) 0 fun hg => (ho3 hg.1),kgj ((decide (i < (ln v_))) = true ∧ True) 0 0 fun hg => (ho3 hg.1),kgi (x4 = true ∧ True) 0 fun hg => (ho5 hg.1),kgj (x4 = true ∧ True) 0 1 fun hg => (ho5 hg.1),kgc (x4 = true ∧ True) fun hg => (fG m _ _ _ (bT (hg.1) hy6))] ?_ (he:=by subst hx4; kernel_rfl)
 refine t_sel [] (t_ret ?_)
 obtain rfl:=someE hm
 exact t_n [] rs1

def jp (v_ : List ae) (i : Int) (k_ : Int) : Option (Bool) :=
  chk ((decide (i < (ln v_))) = true → 0 ≤ i ∧ i < ln v_) <|
  lt (cond (decide (i < (ln v_))) (((gi v_ i).ax.aj) == k_) false) fun x4 =>
  some x4
theorem h9 {af : Gh} (v_ : List ae) (i : Int) (k_ : Int) (r : Bool) (hm : jp v_ i k_ = some r) (w : World) (hL : S0 F0 [eI a6 v_ af] w ∧ fpl [eI a6 v_ af] = []) : RetB Tryz.prog 181 ⟨[vL af v_,vI i,vU k_]⟩ (vB r) w:=by
 rw [jp] at hm
 refine f_read hL (Tryz.call181 _) Tryz.func181 Tryz.ntmps181 fun M X w => ?_
 refine t_r [0,1,2] [vL af v_,vI i,vU k_] [] ?_
 obtain ⟨ho3,hm⟩:=chkE hm
 obtain ⟨x4,hx4,hm⟩:=letE hm
 refine t_r [6] [vB x4] [kgi ((decide (i < (ln v_))) = true ∧ True) 0 fun hg => (ho3 hg.1),kgj ((decide (i < (ln v_))) = true ∧ True) 0 0 fun hg => (ho3 hg.1)] ?_ (he:=by subst hx4; kernel_rfl)
 refine t_sel [] (t_ret ?_)
 obtain rfl:=someE hm
 exact t_n [] rs1

def kF (m : Nat) (v_ : List ae) : Nat → Int → Option (Int)
  | 0,_ => none
  | kk + 1,v4 =>
    Option.bind (jp v_ v4 13) fun y5 =>
    cond y5 (
    kF m v_ kk (w64 (v4 + 1))) (
    some v4)
def f4 (m : Nat) (v_ : List ae) (i : Int) : Option (Int) :=
  Option.bind (
  kF m v_ m i) fun (z3 : Int) =>
  some z3
theorem ep {af : Gh} (m : Nat) (v_ : List ae) (i : Int) (r : Int) (hm : f4 m v_ i = some r) (w : World) (hL : S0 F0 [eI a6 v_ af] w ∧ fpl [eI a6 v_ af] = []) : RetB Tryz.prog 180 ⟨[vL af v_,vI i]⟩ (vI r) w:=by
 rw [f4] at hm
 refine f_read hL (Tryz.call180 _) Tryz.func180 Tryz.ntmps180 fun M X w => ?_
 refine t_r [0,1] [vL af v_,vI i] [] ?_
 obtain ⟨z3,hz,hm⟩:=bindE hm
 refine t_cut [1] [vI z3] [eI a6 v_ af] ?_ ?_
 ·replace hm:=hz
  refine t_block ?_
  intro _ _ H2 hS
  refine w_loop (fun kk a' w' => ∃ (v4 : Int),kF m v_ kk v4 = some _ ∧ Fr 11 (fS [0,1] [vL af v_,vI v4]) a' ∧ SH M X w [eI a6 v_ af] w') ⟨_,i,hm,FrG.keep (ks:=[0,1]) H2 (by kernel_rfl),hS⟩ ?_
  clear hm H2 hS
  rintro kk _ _ ⟨v4,hm,H,hS⟩
  cases kk with
  | zero => exact noneE hm
  | succ kk =>
   rw [kF] at hm
   refine t_in H hS (t_seq ?_)
   obtain ⟨y5,hy5,hm⟩:=bindE hm
   refine t_r [0,1,7] [vL af v_,vI v4,vB y5] [kr fun _ hS => h9 (af:=af) _ _ _ _ hy5 _ (s0im s0nil (hS.im 0 rfl))] ?_
   refine t_im hm (fun hm => ?_) (fun hm => ?c10)
   case c10 =>
    refine t_exit ?_
    obtain rfl:=someE hm
    exact t_e [1]
   refine t_skip (t_block ?_)
   refine t_w [0,1] [vL af v_,vI (w64 (v4 + 1))] [] ?_
   exact fun _ _ H9 hS => ⟨_,Nat.lt_succ_self _,w64 (v4 + 1),hm,FrG.keep (ks:=[0,1]) H9 (by kernel_rfl),hS⟩
 ·refine t_sel [] ?_
  refine t_r [4] [vI z3] [] (t_ret ?_)
  obtain rfl:=someE hm
  exact t_n [] rs1

def kB (m : Nat) (s : Str) : Nat → Int → Option (Unit)
  | 0,_ => none
  | kk + 1,v12 =>
    cond (decide (v12 < (ln s))) (
    chk (0 ≤ v12 ∧ v12 < ln s) <|
    cond ((bat s v12) == 0) (
    none) (
    kB m s kk (w64 (v12 + 1)))) (
    some ())
def pn (m : Nat) (s : Str) : Option (Bool) :=
  lt (cond (s == []) true (decide (64 < (ln s)))) fun x3 =>
  Option.bind (cond x3 (some default) (gI m s)) fun y4 =>
  lt (cond (cond x3 true (!(s == y4))) true (s == [97,110,100])) fun x5 =>
  lt (cond (cond x5 true (s == [111,114])) true (s == [110,111,116])) fun x6 =>
  cond (cond x6 true (s == [111,110,108,121])) (
  none) (
  Option.bind (
  kB m s m 0) fun (z9 : Unit) =>
  some true)
theorem tf  (m : Nat) (s : Str) (r : Bool) (hm : pn m s = some r) : Ret Tryz.prog 183 ⟨[vS s]⟩ (vB r):=by
 rw [pn] at hm
 refine f_pure (Tryz.call183 _) Tryz.func183 Tryz.ntmps183 fun M X w => ?_
 refine t_r [0] [vS s] [] (t_seq ?_)
 obtain ⟨x3,hx3,hm⟩:=letE hm
 obtain ⟨y4,hy4,hm⟩:=bindE hm
 obtain ⟨x5,hx5,hm⟩:=letE hm
 obtain ⟨x6,hx6,hm⟩:=letE hm
 refine t_r [0,32] [vS s,vB (cond x6 true (s == [111,110,108,121]))] [kgc (x3 = false ∧ True) fun hg => (fK m _ _ (bF (hg.1) hy4))] ?_ (he:=by subst hx3 hx5 hx6; kernel_rfl)
 refine t_i2 hm (fun hm => ?_)
 refine t_skip ?_
 obtain ⟨z9,hz,hm⟩:=bindE hm
 refine t_cut [] [] [] ?_ ?_
 ·replace hm:=hz
  refine t_r [0,3] [vS s,vI 0] [] (t_block ?_)
  intro _ _ H11 hS
  refine w_loop (fun kk a' w' => ∃ (v12 : Int),kB m s kk v12 = some _ ∧ Fr 43 (fS [0,3] [vS s,vI v12]) a' ∧ SH M X w [] w') ⟨_,0,hm,FrG.keep (ks:=[0,3]) H11 (by kernel_rfl),hS⟩ ?_
  clear hm H11 hS
  rintro kk _ _ ⟨v12,hm,H,hS⟩
  cases kk with
  | zero => exact noneE hm
  | succ kk =>
   rw [kB] at hm
   refine t_in H hS (t_seq ?_)
   refine t_r [0,3,36] [vS s,vI v12,vB (decide (v12 < (ln s)))] [] ?_
   refine t_im hm (fun hm => ?_) (fun hm => ?c21)
   case c21 =>
    refine t_exit ?_
    obtain rfl:=someE hm
    exact t_e []
   refine t_skip (t_seq (t_block ?_))
   obtain ⟨ho15,hm⟩:=chkE hm
   refine t_r [0,3,42] [vS s,vI v12,vB ((bat s v12) == 0)] [kh ho15] ?_
   refine t_i2 hm (fun hm => ?_)
   refine t_skip ?_
   refine t_w [0,3] [vS s,vI (w64 (v12 + 1))] [] ?_
   exact fun _ _ H19 hS => ⟨_,Nat.lt_succ_self _,w64 (v12 + 1),hm,FrG.keep (ks:=[0,3]) H19 (by kernel_rfl),hS⟩
 ·refine t_r [2] [vT] [] (t_ret ?_)
  obtain rfl:=someE hm
  exact t_n [] rs1

def ou (n_ : Int) : Bool :=
  lt (cond (decide ((-1000000000000) ≤ n_)) (decide (n_ ≤ 1000000000000)) false) fun x3 =>
  x3
theorem wd  (n_ : Int) : Ret Tryz.prog 233 ⟨[vI n_]⟩ (vB (ou n_)):=by
 generalize hm : ou n_ = r
 rw [ou] at hm
 refine f_pure (Tryz.call233 _) Tryz.func233 Tryz.ntmps233 fun M X w => ?_
 refine t_r [0] [vI n_] [] ?_
 obtain ⟨x3,hx3,hm⟩:=letE hm
 refine t_r [2] [vB x3] [] ?_ (he:=by subst hx3; kernel_rfl)
 refine t_ret ?_
 subst hm
 exact t_n [] rs1

def kW (m : Nat) (v_ : List ae) (i : Int) : Option (ay × Bool) :=
  Option.bind (jp v_ i 21) fun y6 =>
  cond (!y6) (
  none) (
  chk (0 ≤ i ∧ i < ln v_) <|
  Option.bind (eg m ((gi v_ i).a8)) fun y13 =>
  Option.bind (
  Option.bind (ia m y13 0 [109,105,110,45,119,105,100,116,104]) fun y24 =>
  cond y24 (
  some 5) (
  Option.bind (ia m y13 0 [109,97,120,45,119,105,100,116,104]) fun y31 =>
  cond y31 (
  some 6) (
  some 0))) fun (z23 : Int) =>
  Option.bind (f4 m y13 1) fun y40 =>
  Option.bind (cond (z23 == 0) (some default) (jp y13 y40 16)) fun y43 =>
  cond (cond (z23 == 0) true (!y43)) (
  none) (
  Option.bind (f4 m y13 (w64 (y40 + 1))) fun y46 =>
  cond ((w64 (y46 + 1)) != (ln y13)) (
  none) (
  chk (0 ≤ y46 ∧ y46 < ln y13) <|
  Option.bind (cond (((gi y13 y46).ax.aj) == 12) (gD m ((gi y13 y46).ax.Unit) [112,120]) (some default)) fun y59 =>
  lt (cond (((gi y13 y46).ax.aj) == 12) y59 false) fun x60 =>
  lt (cond x60 true (cond (((gi y13 y46).ax.aj) == 10) (((gi y13 y46).ax.Num) == 0) false)) fun x61 =>
  cond x61 (
  cond (decide (0 ≤ ((gi y13 y46).ax.Num))) (
  some ((ay.mk z23 [] ((gi y13 y46).ax.Num) (bD.mk [] ([] : List ae) false) ([] : List ay)),(ou ((gi y13 y46).ax.Num)))) (
  some ((ay.mk z23 [] ((gi y13 y46).ax.Num) (bD.mk [] ([] : List ae) false) ([] : List ay)),false))) (
  some ((ay.mk z23 [] ((gi y13 y46).ax.Num) (bD.mk [] ([] : List ae) false) ([] : List ay)),false)))))
theorem tP {af : Gh} (M : Av) (m : Nat) (v_ : List ae) (i : Int) (r : ay × Bool) (hm : kW m v_ i = some r) (w : World) (hS : S0 M [eI a6 v_ af] w) : Calls Tryz.prog 184 ⟨[vL af v_,vI i]⟩ w (fun e w' => ∃ v,e = .returned v ∧ ∃ (aA : Gh) (cY : Gh),v = .tuple ⟨[.agg ⟨e4 r.1 (gL [aA,cY])⟩,vB r.2]⟩ ∧ SH M (fpl [eI a6 v_ af]) w [eO 137 a6 r.1.az.Value aA,eO 39 ak r.1.a8 cY] w'):=by
 rw [kW] at hm
 have hS0 : SH M (fpl [eI a6 v_ af]) w [eI a6 v_ af] w:=hS
 generalize hX : fpl [eI a6 v_ af] = X at hS0 ⊢
 clear hS hX
 have hS:=hS0
 clear hS0
 refine calls_entryP Tryz.func184 rfl Tryz.ntmps184 rfl fun _ H => ?_
 refine t_in H hS (t_starts ?_)
 refine t_m [] [0] [0,1] [vL af v_,vI i] (fun _ _ H hd => o_alloc [vU 0,vN,vI 0,vN,vO,vF,vO] (z:=vG [vU 0,vN,vI 0,vN,vO,vF,vO]) hd (by kernel_rfl) rfl) fun b1 => ?_
 refine t_b 2 [0,1,4] [vL af v_,vI i,vP b1] [] (t_end (t_seq ?_))
 obtain ⟨y6,hy6,hm⟩:=bindE hm
 refine t_r [0,1,4,12] [vL af v_,vI i,vP b1,vB (!y6)] [kr fun _ hS => h9 (af:=af) _ _ _ _ hy6 _ (s0im s0nil (hS.im 1 rfl))] ?_
 refine t_i2 hm (fun hm => ?_)
 refine t_skip (t_starts ?_)
 obtain ⟨ho9,hm⟩:=chkE hm
 refine t_b 5 [4,18] [vP b1,.slice (af.s (i).toNat 0).a (((gi v_ i).a8).length) (af.s (i).toNat 0).c] [ki 1 ho9,kj 1 5 ho9] ?_
 intro _ _ H11 hS
 replace hS:=hS.addIm (dX ((hS.im 1 rfl).el ho9))
 obtain ⟨y13,hy13,hm⟩:=bindE hm
 refine t_in H11 hS ?_
 refine t_c [0] [0,1,2] [4] [vP b1] (dD (af:=(af.s (i).toNat 0)) m _ _ hy13) fun g14 => ?_
 refine t_b 7 [0,4] [vL g14 y13,vP b1] [] (t_end (t_sel [0,2] (t_starts ?_)))
 refine t_m [] [0,1] [0,4] [vL g14 y13,vP b1] (fun _ _ H19 hd => o_alloc [vU 0,vN,vI 0,vN,vO,vF,vO] (z:=vG [vU 0,vN,vI 0,vN,vO,vF,vO]) hd (by kernel_rfl) rfl) fun b20 => (t_end ?_)
 obtain ⟨z23,hz,hm⟩:=bindE hm
 refine t_cut [0,4,6] [vL g14 y13,vP b1,vP b20] [eB b20 [vU z23,vN,vI 0,vN,vO,vF,vO],eI a6 y13 g14,eB b1 [vU 0,vN,vI 0,vN,vO,vF,vO]] ?_ ?_
 ·replace hm:=hz
  obtain ⟨y24,hy24,hm⟩:=bindE hm
  refine t_r [0,4,6,21] [vL g14 y13,vP b1,vP b20,vB y24] [kr fun _ hS => fP (af:=g14) m _ _ _ _ hy24 _ (s0im s0nil (hS.im 1 rfl))] ?_
  refine t_im hm (fun hm => ?c39) (fun hm => ?_)
  case c39 =>
   refine t_start ?_
   refine t_b 1 [0,4,6,22] [vL g14 y13,vP b1,vP b20,vP b20] [] ?_
   refine t_m0 [0] [1,2] [0,4,6] [vL g14 y13,vP b1,vP b20] (fun _ _ H28 hd => o_store [vU 5,vN,vI 0,vN,vO,vF,vO] H28 hd rfl rfl (by kernel_rfl) rfl rfl rfl) (t_end ?_)
   obtain rfl:=someE hm
   exact t_e [0,4,6]
  obtain ⟨y31,hy31,hm⟩:=bindE hm
  refine t_r [0,4,6,24] [vL g14 y13,vP b1,vP b20,vB y31] [kr fun _ hS => fP (af:=g14) m _ _ _ _ hy31 _ (s0im s0nil (hS.im 1 rfl))] ?_
  refine t_im hm (fun hm => ?_) (fun hm => ?c38)
  case c38 =>
   refine t_skip ?_
   obtain rfl:=someE hm
   exact t_e [0,4,6]
  refine t_start ?_
  refine t_b 1 [0,4,6,25] [vL g14 y13,vP b1,vP b20,vP b20] [] ?_
  refine t_m0 [0] [1,2] [0,4,6] [vL g14 y13,vP b1,vP b20] (fun _ _ H35 hd => o_store [vU 6,vN,vI 0,vN,vO,vF,vO] H35 hd rfl rfl (by kernel_rfl) rfl rfl rfl) (t_end ?_)
  obtain rfl:=someE hm
  exact t_e [0,4,6]
 ·obtain ⟨y40,hy40,hm⟩:=bindE hm
  refine t_r [0,1,4,6] [vL g14 y13,vI y40,vP b1,vP b20] [kr fun _ hS => ep (af:=g14) m _ _ _ hy40 _ (s0im s0nil (hS.im 1 rfl))] (t_seq ?_)
  obtain ⟨y43,hy43,hm⟩:=bindE hm
  refine t_r [0,1,4,6,36] [vL g14 y13,vI y40,vP b1,vP b20,vB (cond (z23 == 0) true (!y43))] [kb 0 0,kgr ((z23 == 0) = false ∧ True) fun _ hS hg => h9 (af:=g14) _ _ _ _ (bF (hg.1) hy43) _ (s0im s0nil (hS.im 1 rfl))] ?_
  refine t_i2 hm (fun hm => ?_)
  refine t_skip ?_
  obtain ⟨y46,hy46,hm⟩:=bindE hm
  refine t_r [0,1,4,6] [vL g14 y13,vI y46,vP b1,vP b20] [kr fun _ hS => ep (af:=g14) m _ _ _ hy46 _ (s0im s0nil (hS.im 1 rfl))] (t_seq ?_)
  refine t_r [0,1,4,6,46] [vL g14 y13,vI y46,vP b1,vP b20,vB ((w64 (y46 + 1)) != (ln y13))] [] ?_
  refine t_i2 hm (fun hm => ?_)
  refine t_skip (t_starts ?_)
  obtain ⟨ho51,hm⟩:=chkE hm
  refine t_b 5 [4,6,52] [vP b1,vP b20,.agg ⟨e6 ((gi y13 y46).ax)⟩] [ki 1 ho51,⟨some (.agg ⟨e6 ((gi y13 y46).ax)⟩),fun wz => V.atN (ab g14.a) (ao g14.a + (y46).toNat * 6) (e6 ((gi y13 y46).ax)) 0 wz,fun _ hS => ((hS.im 1 rfl).atA ho51 0 rfl)⟩] ?_
  refine t_m [] [0,1,2] [4,6,52] [vP b1,vP b20,.agg ⟨e6 ((gi y13 y46).ax)⟩] (fun _ _ H53 hd => o_alloc [vU 0,vN,vI 0,vN,vF] (z:=vG [vU 0,vN,vI 0,vN,vF]) hd (by kernel_rfl) rfl) fun b54 => ?_
  refine t_m0 [0] [1,2,3] [4,6,7] [vP b1,vP b20,vP b54] (fun _ _ H56 hd => o_store (e6 ((gi y13 y46).ax)) H56 hd rfl rfl (by kernel_rfl) rfl rfl rfl) (t_end (t_sel [0,1,3] ?_))
  obtain ⟨y59,hy59,hm⟩:=bindE hm
  obtain ⟨x60,hx60,hm⟩:=letE hm
  obtain ⟨x61,hx61,hm⟩:=letE hm
  refine t_r [4,6,7,8] [vP b1,vP b20,vP b54,vB x61] [kb 0 0,kgb ((((gi y13 y46).ax.aj) == 12) = true ∧ True) 0 3,kgc ((((gi y13 y46).ax.aj) == 12) = true ∧ True) fun hg => (fG m _ _ _ (bT (hg.1) hy59)),kgb (x60 = false ∧ True) 0 0,kgb ((((gi y13 y46).ax.aj) == 10) = true ∧ x60 = false ∧ True) 0 2] ?_ (he:=by subst hx60 hx61; kernel_rfl)
  refine t_starts ?_
  refine t_b 3 [4,6,7,8,72,73] [vP b1,vP b20,vP b54,vB x61,vI ((gi y13 y46).ax.Num),vA b20 2] [kb 0 2] ?_
  refine t_m0 [1] [0,2] [4,6,7,8] [vP b1,vP b20,vP b54,vB x61] (fun _ _ H65 hd => o_store [vU z23,vN,vI ((gi y13 y46).ax.Num),vN,vO,vF,vO] H65 hd rfl rfl (by kernel_rfl) rfl rfl rfl) (t_end ?_)
  intro _ _ H67 hS
  generalize hz_z68 : x61 = z68 at H67 hm
  cases z68
  case false =>
   replace hm:=bF rfl hm
   refine s_dG (base:=(fS [4,6,7,8] [vP b1,vP b20,vP b54,vF])) (L:=[eB b20 [vU z23,vN,vI ((gi y13 y46).ax.Num),vN,vO,vF,vO],eB b54 (e6 ((gi y13 y46).ax)),eB b1 [vU 0,vN,vI 0,vN,vO,vF,vO]]) 14 3 (fun yg82 => [vG [vU z23,vN,vI ((gi y13 y46).ax.Num),vN,vO,vF,vO],vF,vF,undef,undef,undef,vF,vF,undef,undef,undef,vF,undef,vF]) (fun yg82 => [[],[],[],[],[],[],[],[],[],[],[],[],[eB b1 [vU z23,vN,vI ((gi y13 y46).ax.Num),vN,vO,vF,vO]],[]]) [[14],[],[],[],[],[],[],[],[],[],[],[],[16],[]] [[],[],[],[],[],[],[],[],[],[],[],[],[16],[]] [[0],[1],[1,2],[1,2,3],[1,2,4],[1,2,5],[1,2,5,6],[1,2,5,6,7],[1,2,5,6,7,8],[1,2,5,6,7,9],[1,2,5,6,7,10],[1,2,5,6,7,10,11],[0,12],[1,2,5,6,7,10,11,13]] [] (FrG.keep (ks:=[4,6,7,8]) H67 (by kernel_rfl)) (fun _ _ h => by cases h) (by kernel_rfl) hS (by kernel_rfl) rfl rfl (by kernel_rfl) (by kernel_rfl) (by kernel_rfl) ?hstep_yg82 fun _ _ yg82 H84 hv hS => ?hK_yg82
   case hstep_yg82 =>
    refine ⟨Or.inr ⟨trivial,?_⟩,Or.inr ⟨trivial,?_⟩,Or.inr ⟨trivial,?_⟩,Or.inl ⟨by kernel_rfl,Or.inl fun _ => rfl,fun _ => ⟨rfl,rfl⟩,rfl⟩,Or.inl ⟨by kernel_rfl,Or.inl fun _ => rfl,fun _ => ⟨rfl,rfl⟩,rfl⟩,Or.inl ⟨by kernel_rfl,Or.inl fun _ => rfl,fun _ => ⟨rfl,rfl⟩,rfl⟩,Or.inr ⟨trivial,?_⟩,Or.inr ⟨trivial,?_⟩,Or.inl ⟨by kernel_rfl,Or.inl fun _ => rfl,fun _ => ⟨rfl,rfl⟩,rfl⟩,Or.inl ⟨by kernel_rfl,Or.inl fun _ => rfl,fun _ => ⟨rfl,rfl⟩,rfl⟩,Or.inl ⟨by kernel_rfl,Or.inl fun _ => rfl,fun _ => ⟨rfl,rfl⟩,rfl⟩,Or.inr ⟨trivial,?_⟩,Or.inr ⟨trivial,?_⟩,Or.inr ⟨trivial,?_⟩,trivial⟩
    ·intro o ho a w yg82 M Hb hv hO hS
     obtain rfl:=someE ho
     exact Stp.mono (o_evs [(vG [vU z23,vN,vI ((gi y13 y46).ax.Num),vN,vO,vF,vO])] (vG [vU z23,vN,vI ((gi y13 y46).ax.Num),vN,vO,vF,vO]) (some (rN b20 0 [vU z23,vN,vI ((gi y13 y46).ax.Num),vN,vO,vF,vO])) [] Hb rfl (by kernel_rfl) (fun q e => by cases e; exact ((hS.bk 0 rfl).atD rfl))) fun _ _ hq => ⟨gL [],fun _ _ => hq.1,(hS.below hq.2.below).sel [0] rfl⟩
    ·intro o ho a w yg82 M Hb hv hO hS
     obtain rfl:=someE ho
     exact Stp.mono (o_evs [] (vF) none [] Hb rfl (by kernel_rfl) (fun q e => by cases e)) fun _ _ hq => ⟨gL [],fun _ _ => hq.1,(hS.below hq.2.below).sel [] rfl⟩
    ·intro o ho a w yg82 M Hb hv hO hS
     obtain rfl:=someE ho
     exact Stp.mono (o_evs [] (vF) none [] ((Hb).add (hv 1 (by decide) (by decide) 75 rfl)) rfl (by kernel_rfl) (fun q e => by cases e)) fun _ _ hq => ⟨gL [],fun _ _ => hq.1,(hS.below hq.2.below).sel [] rfl⟩
    ·intro o ho a w yg82 M Hb hv hO hS
     obtain rfl:=someE ho
     exact Stp.mono (o_evs [] (vF) none [] (((Hb).add (hv 2 (by decide) (by decide) 76 rfl)).add (hv 5 (by decide) (by decide) 79 rfl)) rfl (by kernel_rfl) (fun q e => by cases e)) fun _ _ hq => ⟨gL [],fun _ _ => hq.1,(hS.below hq.2.below).sel [] rfl⟩
    ·intro o ho a w yg82 M Hb hv hO hS
     obtain rfl:=someE ho
     exact Stp.mono (o_evs [] (vF) none [] ((Hb).add (hv 6 (by decide) (by decide) 80 rfl)) rfl (by kernel_rfl) (fun q e => by cases e)) fun _ _ hq => ⟨gL [],fun _ _ => hq.1,(hS.below hq.2.below).sel [] rfl⟩
    ·intro o ho a w yg82 M Hb hv hO hS
     obtain rfl:=someE ho
     exact Stp.mono (o_evs [] (vF) none [] (((Hb).add (hv 7 (by decide) (by decide) 81 rfl)).add (hv 10 (by decide) (by decide) 84 rfl)) rfl (by kernel_rfl) (fun q e => by cases e)) fun _ _ hq => ⟨gL [],fun _ _ => hq.1,(hS.below hq.2.below).sel [] rfl⟩
    ·intro o ho a w yg82 M Hb hv hO hS0
     obtain rfl:=someE ho
     have H : Fr 86 ([(74,[],vG [vU z23,vN,vI ((gi y13 y46).ax.Num),vN,vO,vF,vO])] ++ (fS [4,6,7,8] [vP b1,vP b20,vP b54,vF])) _:=(Hb).add (hv 0 (by decide) (by decide) 74 rfl)
     obtain ⟨X,hX⟩ : ∃ X,X = fpl [eB b1 [vU 0,vN,vI 0,vN,vO,vF,vO]]:=⟨_,rfl⟩
     have hS : SH M X w [eB b1 [vU 0,vN,vI 0,vN,vO,vF,vO]] w:=by rw [hX]; exact hS0
     have hd:=hS.hand [0] [] rfl rfl
     refine Stp.mono (o_store [vU z23,vN,vI ((gi y13 y46).ax.Num),vN,vO,vF,vO] H hd rfl rfl (by kernel_rfl) rfl rfl rfl) ?_
     rintro v w2 hq
     replace hS:=hS.join [0] [] rfl rfl hq
     rw [hX] at hS
     exact ⟨gL [],(fun _ h => by cases h),hS.sel [0] rfl⟩
    ·intro o ho a w yg82 M Hb hv hO hS
     obtain rfl:=someE ho
     exact Stp.mono (o_evs [] (vF) none [] ((Hb).add (hv 11 (by decide) (by decide) 85 rfl)) rfl (by kernel_rfl) (fun q e => by cases e)) fun _ _ hq => ⟨gL [],fun _ _ => hq.1,(hS.below hq.2.below).sel [] rfl⟩
   have H85 : Fr 86 (fS [5,4] [vF,vP b1]) _:=(FrG.add (FrG.keep (ks:=[4]) H84 (by kernel_rfl)) (hv 13 5 rfl))
   replace hS : SH M X w [eB b1 [vU z23,vN,vI ((gi y13 y46).ax.Num),vN,vO,vF,vO],eB b20 [vU z23,vN,vI ((gi y13 y46).ax.Num),vN,vO,vF,vO],eB b54 (e6 ((gi y13 y46).ax))] _:=hS
   clear hv H84
   replace hS:=hS.sel [0] rfl
   refine t_in H85 hS (t_ret ?_)
   obtain rfl:=someE hm
   refine t_nil 137 a6 ?_
   refine t_nil 39 ak ?_
   exact fun _ _ H85 hS => retR2 H85 rfl (oneRes_agg rfl (hS.bk 2 rfl) Tryz.underlying39 rfl (by kernel_rfl)) rfl ⟨_,rfl,Gh.nil,Gh.nil,rfl,(hS.sel [1,0] rfl)⟩
  replace hm:=bT rfl hm
  generalize hz_z69 : (decide (0 ≤ ((gi y13 y46).ax.Num))) = z69 at hm
  cases z69
  case false =>
   replace hm:=bF rfl hm
   refine s_dG (base:=(fS [4,6,7,8] [vP b1,vP b20,vP b54,vT])) (L:=[eB b20 [vU z23,vN,vI ((gi y13 y46).ax.Num),vN,vO,vF,vO],eB b54 (e6 ((gi y13 y46).ax)),eB b1 [vU 0,vN,vI 0,vN,vO,vF,vO]]) 14 3 (fun yg76 => [vG [vU z23,vN,vI ((gi y13 y46).ax.Num),vN,vO,vF,vO],vT,vT,vA b54 2,vI ((gi y13 y46).ax.Num),vB (decide (0 ≤ ((gi y13 y46).ax.Num))),vB (decide (0 ≤ ((gi y13 y46).ax.Num))),vF,undef,undef,undef,vF,undef,vF]) (fun yg76 => [[],[],[],[],[],[],[],[],[],[],[],[],[eB b1 [vU z23,vN,vI ((gi y13 y46).ax.Num),vN,vO,vF,vO]],[]]) [[14],[],[],[15],[15],[],[],[],[],[],[],[],[16],[]] [[],[],[],[],[],[],[],[],[],[],[],[],[16],[]] [[0],[1],[1,2],[1,2,3],[1,2,3,4],[1,2,3,4,5],[1,2,3,4,5,6],[1,2,3,4,5,6,7],[1,2,3,4,5,6,7,8],[1,2,3,4,5,6,7,9],[1,2,3,4,5,6,7,10],[1,2,3,4,5,6,7,10,11],[0,12],[1,2,3,4,5,6,7,10,11,13]] [] (FrG.keep (ks:=[4,6,7,8]) H67 (by kernel_rfl)) (fun _ _ h => by cases h) (by kernel_rfl) hS (by kernel_rfl) rfl rfl (by kernel_rfl) (by kernel_rfl) (by kernel_rfl) ?hstep_yg76 fun _ _ yg76 H78 hv hS => ?hK_yg76
   case hstep_yg76 =>
    refine ⟨Or.inr ⟨trivial,?_⟩,Or.inr ⟨trivial,?_⟩,Or.inr ⟨trivial,?_⟩,Or.inr ⟨⟨by kernel_rfl,fun _ => rfl⟩,?_⟩,Or.inr ⟨⟨by kernel_rfl,fun _ => rfl⟩,?_⟩,Or.inr ⟨⟨by kernel_rfl,fun _ => rfl⟩,?_⟩,Or.inr ⟨trivial,?_⟩,Or.inr ⟨trivial,?_⟩,Or.inl ⟨by kernel_rfl,Or.inl fun _ => rfl,fun _ => ⟨rfl,rfl⟩,rfl⟩,Or.inl ⟨by kernel_rfl,Or.inl fun _ => rfl,fun _ => ⟨rfl,rfl⟩,rfl⟩,Or.inl ⟨by kernel_rfl,Or.inl fun _ => rfl,fun _ => ⟨rfl,rfl⟩,rfl⟩,Or.inr ⟨trivial,?_⟩,Or.inr ⟨trivial,?_⟩,Or.inr ⟨trivial,?_⟩,trivial⟩
    ·intro o ho a w yg76 M Hb hv hO hS
     obtain rfl:=someE ho
     exact Stp.mono (o_evs [(vG [vU z23,vN,vI ((gi y13 y46).ax.Num),vN,vO,vF,vO])] (vG [vU z23,vN,vI ((gi y13 y46).ax.Num),vN,vO,vF,vO]) (some (rN b20 0 [vU z23,vN,vI ((gi y13 y46).ax.Num),vN,vO,vF,vO])) [] Hb rfl (by kernel_rfl) (fun q e => by cases e; exact ((hS.bk 0 rfl).atD rfl))) fun _ _ hq => ⟨gL [],fun _ _ => hq.1,(hS.below hq.2.below).sel [0] rfl⟩
    ·intro o ho a w yg76 M Hb hv hO hS
     obtain rfl:=someE ho
     exact Stp.mono (o_evs [] (vT) none [] Hb rfl (by kernel_rfl) (fun q e => by cases e)) fun _ _ hq => ⟨gL [],fun _ _ => hq.1,(hS.below hq.2.below).sel [] rfl⟩
    ·intro o ho a w yg76 M Hb hv hO hS
     obtain rfl:=someE ho
     exact Stp.mono (o_evs [] (vT) none [] ((Hb).add (hv 1 (by decide) (by decide) 75 rfl)) rfl (by kernel_rfl) (fun q e => by cases e)) fun _ _ hq => ⟨gL [],fun _ _ => hq.1,(hS.below hq.2.below).sel [] rfl⟩
    ·intro o ho a w yg76 M Hb hv hO hS
     obtain rfl:=someE ho
     exact Stp.mono (o_evs [] (vA b54 2) none [] Hb rfl (by kernel_rfl) (fun q e => by cases e)) fun _ _ hq => ⟨gL [],fun _ _ => hq.1,(hS.below hq.2.below).sel [0] rfl⟩
    ·intro o ho a w yg76 M Hb hv hO hS
     obtain rfl:=someE ho
     exact Stp.mono (o_evs [(vI ((gi y13 y46).ax.Num))] (vI ((gi y13 y46).ax.Num)) (some (rA b54 2 (vI ((gi y13 y46).ax.Num)))) [] ((Hb).add (hv 3 (by decide) (by decide) 77 rfl)) rfl (by kernel_rfl) (fun q e => by cases e; exact ((hS.bk 0 rfl).at1 rfl))) fun _ _ hq => ⟨gL [],fun _ _ => hq.1,(hS.below hq.2.below).sel [0] rfl⟩
    ·intro o ho a w yg76 M Hb hv hO hS
     obtain rfl:=someE ho
     exact Stp.mono (o_evs [] (vB (decide (0 ≤ ((gi y13 y46).ax.Num)))) none [] ((Hb).add (hv 4 (by decide) (by decide) 78 rfl)) rfl (by kernel_rfl) (fun q e => by cases e)) fun _ _ hq => ⟨gL [],fun _ _ => hq.1,(hS.below hq.2.below).sel [] rfl⟩
    ·intro o ho a w yg76 M Hb hv hO hS
     obtain rfl:=someE ho
     exact Stp.mono (o_evs [] (vB (decide (0 ≤ ((gi y13 y46).ax.Num)))) none [] (((Hb).add (hv 2 (by decide) (by decide) 76 rfl)).add (hv 5 (by decide) (by decide) 79 rfl)) rfl (by kernel_rfl) (fun q e => by cases e)) fun _ _ hq => ⟨gL [],fun _ _ => hq.1,(hS.below hq.2.below).sel [] rfl⟩
    ·intro o ho a w yg76 M Hb hv hO hS
     obtain rfl:=someE ho
     exact Stp.mono (o_evs [] (vB (decide (0 ≤ ((gi y13 y46).ax.Num)))) none [] ((Hb).add (hv 6 (by decide) (by decide) 80 rfl)) rfl (by kernel_rfl) (fun q e => by cases e)) fun _ _ hq => ⟨gL [],fun _ _ => hq.1.trans (congrArg Value.bool hz_z69),(hS.below hq.2.below).sel [] rfl⟩
    ·intro o ho a w yg76 M Hb hv hO hS
     obtain rfl:=someE ho
     exact Stp.mono (o_evs [] (vF) none [] (((Hb).add (hv 7 (by decide) (by decide) 81 rfl)).add (hv 10 (by decide) (by decide) 84 rfl)) rfl (by kernel_rfl) (fun q e => by cases e)) fun _ _ hq => ⟨gL [],fun _ _ => hq.1,(hS.below hq.2.below).sel [] rfl⟩
    ·intro o ho a w yg76 M Hb hv hO hS0
     obtain rfl:=someE ho
     have H : Fr 86 ([(74,[],vG [vU z23,vN,vI ((gi y13 y46).ax.Num),vN,vO,vF,vO])] ++ (fS [4,6,7,8] [vP b1,vP b20,vP b54,vT])) _:=(Hb).add (hv 0 (by decide) (by decide) 74 rfl)
     obtain ⟨X,hX⟩ : ∃ X,X = fpl [eB b1 [vU 0,vN,vI 0,vN,vO,vF,vO]]:=⟨_,rfl⟩
     have hS : SH M X w [eB b1 [vU 0,vN,vI 0,vN,vO,vF,vO]] w:=by rw [hX]; exact hS0
     have hd:=hS.hand [0] [] rfl rfl
     refine Stp.mono (o_store [vU z23,vN,vI ((gi y13 y46).ax.Num),vN,vO,vF,vO] H hd rfl rfl (by kernel_rfl) rfl rfl rfl) ?_
     rintro v w2 hq
     replace hS:=hS.join [0] [] rfl rfl hq
     rw [hX] at hS
     exact ⟨gL [],(fun _ h => by cases h),hS.sel [0] rfl⟩
    ·intro o ho a w yg76 M Hb hv hO hS
     obtain rfl:=someE ho
     exact Stp.mono (o_evs [] (vF) none [] ((Hb).add (hv 11 (by decide) (by decide) 85 rfl)) rfl (by kernel_rfl) (fun q e => by cases e)) fun _ _ hq => ⟨gL [],fun _ _ => hq.1,(hS.below hq.2.below).sel [] rfl⟩
   have H79 : Fr 86 (fS [5,4] [vF,vP b1]) _:=(FrG.add (FrG.keep (ks:=[4]) H78 (by kernel_rfl)) (hv 13 5 rfl))
   replace hS : SH M X w [eB b1 [vU z23,vN,vI ((gi y13 y46).ax.Num),vN,vO,vF,vO],eB b20 [vU z23,vN,vI ((gi y13 y46).ax.Num),vN,vO,vF,vO],eB b54 (e6 ((gi y13 y46).ax))] _:=hS
   clear hv H78
   replace hS:=hS.sel [0] rfl
   refine t_in H79 hS (t_ret ?_)
   obtain rfl:=someE hm
   refine t_nil 137 a6 ?_
   refine t_nil 39 ak ?_
   exact fun _ _ H79 hS => retR2 H79 rfl (oneRes_agg rfl (hS.bk 2 rfl) Tryz.underlying39 rfl (by kernel_rfl)) rfl ⟨_,rfl,Gh.nil,Gh.nil,rfl,(hS.sel [1,0] rfl)⟩
  replace hm:=bT rfl hm
  refine s_dS (base:=(fS [4,6,7,8] [vP b1,vP b20,vP b54,vT])) (L:=[eB b20 [vU z23,vN,vI ((gi y13 y46).ax.Num),vN,vO,vF,vO],eB b54 (e6 ((gi y13 y46).ax)),eB b1 [vU 0,vN,vI 0,vN,vO,vF,vO]]) 14 3 (fun yg70 => [vG [vU z23,vN,vI ((gi y13 y46).ax.Num),vN,vO,vF,vO],vT,vT,vA b54 2,vI ((gi y13 y46).ax.Num),vB (decide (0 ≤ ((gi y13 y46).ax.Num))),vB (decide (0 ≤ ((gi y13 y46).ax.Num))),vT,vA b54 2,vI ((gi y13 y46).ax.Num),vB (ou ((gi y13 y46).ax.Num)),vB (ou ((gi y13 y46).ax.Num)),undef,vB (ou ((gi y13 y46).ax.Num))]) (fun yg70 => [[],[],[],[],[],[],[],[],[],[],[],[],[eB b1 [vU z23,vN,vI ((gi y13 y46).ax.Num),vN,vO,vF,vO]],[]]) [[14],[],[],[15],[15],[],[],[],[15],[15],[],[],[16],[]] [[],[],[],[],[],[],[],[],[],[],[],[],[16],[]] [[0],[1],[1,2],[1,2,3],[1,2,3,4],[1,2,3,4,5],[1,2,3,4,5,6],[1,2,3,4,5,6,7],[1,2,3,4,5,6,7,8],[1,2,3,4,5,6,7,8,9],[1,2,3,4,5,6,7,8,9,10],[1,2,3,4,5,6,7,8,9,10,11],[0,12],[1,2,3,4,5,6,7,8,9,10,11,13]] [] (FrG.keep (ks:=[4,6,7,8]) H67 (by kernel_rfl)) (fun _ _ h => by cases h) (by kernel_rfl) hS (by kernel_rfl) rfl rfl (by kernel_rfl) (by kernel_rfl) (by kernel_rfl) ⟨trivial,trivial,trivial,⟨by kernel_rfl,fun _ => rfl⟩,⟨by kernel_rfl,fun _ => rfl⟩,⟨by kernel_rfl,fun _ => rfl⟩,trivial,trivial,⟨by kernel_rfl,fun _ => rfl⟩,⟨by kernel_rfl,fun _ => rfl⟩,⟨by kernel_rfl,fun _ => rfl⟩,trivial,trivial,trivial,trivial⟩ ?hstep_yg70 fun _ _ yg70 H72 hv hS => ?hK_yg70
  case hstep_yg70 =>
   refine ⟨(se (fun _ _ => [⟨some (vG [vU z23,vN,vI ((gi y13 y46).ax.Num),vN,vO,vF,vO]),rN b20 0 [vU z23,vN,vI ((gi y13 y46).ax.Num),vN,vO,vF,vO],fun _ hS => ((hS.bk 0 rfl).atD rfl)⟩])),se0,se0,se0,(se (fun _ _ => [⟨some (vI ((gi y13 y46).ax.Num)),rA b54 2 (vI ((gi y13 y46).ax.Num)),fun _ hS => ((hS.bk 0 rfl).at1 rfl)⟩])),se0,se0,?_,se0,(se (fun _ _ => [⟨some (vI ((gi y13 y46).ax.Num)),rA b54 2 (vI ((gi y13 y46).ax.Num)),fun _ hS => ((hS.bk 0 rfl).at1 rfl)⟩])),(se (fun _ _ => [kc (wd ((gi y13 y46).ax.Num))])),se0,?_,se0,trivial⟩
   ·intro o ho a w yg70 M Hb hv hO hS
    obtain rfl:=someE ho
    exact Stp.mono (o_evs [] (vB (decide (0 ≤ ((gi y13 y46).ax.Num)))) none [] ((Hb).add (hv 6 (by decide) (by decide) 80 rfl)) rfl (by kernel_rfl) (fun q e => by cases e)) fun _ _ hq => ⟨gL [],fun _ _ => hq.1.trans (congrArg Value.bool hz_z69),(hS.below hq.2.below).sel [] rfl⟩
   ·intro o ho a w yg70 M Hb hv hO hS0
    obtain rfl:=someE ho
    have H:=(Hb).add (hv 0 (by decide) (by decide) 74 rfl)
    have hS:=hS0
    have hd:=hS.hand [0] [] rfl rfl
    refine Stp.mono (o_store [vU z23,vN,vI ((gi y13 y46).ax.Num),vN,vO,vF,vO] H hd rfl rfl (by kernel_rfl) rfl rfl rfl) ?_
    rintro v w2 hq
    replace hS:=hS.join [0] [] rfl rfl hq
    exact ⟨gL [],(fun _ h => by cases h),hS.sel [0] rfl⟩
  have H73 : Fr 86 (fS [5,4] [vB (ou ((gi y13 y46).ax.Num)),vP b1]) _:=(FrG.add (FrG.keep (ks:=[4]) H72 (by kernel_rfl)) (hv 13 5 rfl))
  replace hS : SH M X w [eB b1 [vU z23,vN,vI ((gi y13 y46).ax.Num),vN,vO,vF,vO],eB b20 [vU z23,vN,vI ((gi y13 y46).ax.Num),vN,vO,vF,vO],eB b54 (e6 ((gi y13 y46).ax))] _:=hS
  clear hv H72
  replace hS:=hS.sel [0] rfl
  refine t_in H73 hS (t_ret ?_)
  obtain rfl:=someE hm
  refine t_nil 137 a6 ?_
  refine t_nil 39 ak ?_
  exact fun _ _ H73 hS => retR2 H73 rfl (oneRes_agg rfl (hS.bk 2 rfl) Tryz.underlying39 rfl (by kernel_rfl)) rfl ⟨_,rfl,Gh.nil,Gh.nil,rfl,(hS.sel [1,0] rfl)⟩
theorem nZ {af : Gh} (m : Nat) (v_ : List ae) (i : Int) (r : ay × Bool) (hm : kW m v_ i = some r) (M : Av) (w : World) (hS : S0 M [eI a6 v_ af] w) : DoesX Tryz.prog 184 ⟨[vL af v_,vI i]⟩ w (fun v w' => ∃ (aA : Gh) (cY : Gh),v = .tuple ⟨[.agg ⟨e4 r.1 (gL [aA,cY])⟩,vB r.2]⟩ ∧ SH M (fpl [eI a6 v_ af]) w [eO 137 a6 r.1.az.Value aA,eO 39 ak r.1.a8 cY] w'):=⟨Tryz.call184 _,tP M m   v_ i r hm w hS⟩

def li (m : Nat) (y6 : List ae) : Nat → Int → (List ay) → Option (List ay)
  | 0,_,_ => none
  | kk + 1,tD,sE =>
    cond (decide (tD < (ln y6))) (
    Option.bind (ia m y6 tD [97,110,100]) fun y114 =>
    cond (!y114) (
    none) (
    Option.bind (f4 m y6 (w64 (tD + 1))) fun y117 =>
    Option.bind (kW m y6 y117) fun y122 =>
    cond (!y122.2) (
    none) (
    chk (ln sE + ln ([y122.1] : List ay) ≤ 137438953472) <|
    lt (sE ++ ([y122.1] : List ay)) fun q147 =>
    Option.bind (f4 m y6 (w64 (y117 + 1))) fun y155 =>
    li m y6 kk y155 q147))) (
    some sE)
def oX (m : Nat) (v_ : List ae) : Option (ay) :=
  Option.bind (eg m v_) fun y6 =>
  Option.bind (ia m y6 0 [110,111,116]) fun y22 =>
  Option.bind (
  Option.bind (cond y22 (some default) (ia m y6 0 [111,110,108,121])) fun y26 =>
  cond (cond y22 true y26) (
  Option.bind (f4 m y6 1) fun y29 =>
  Option.bind (jp y6 y29 1) fun y32 =>
  cond (!y32) (
  none) (
  some y29)) (
  some 0)) fun (z25 : Int) =>
  Option.bind (
  Option.bind (jp y6 z25 1) fun y38 =>
  cond y38 (
  chk (0 ≤ z25 ∧ z25 < ln y6) <|
  Option.bind (gI m ((gi y6 z25).ax.ei)) fun y42 =>
  Option.bind (pn m y42) fun y45 =>
  cond (!y45) (
  none) (
  chk (ln ([] : List ay) + ln ([(ay.mk 4 y42 0 (bD.mk [] [] false) [])] : List ay) ≤ 137438953472) <|
  lt (([] : List ay) ++ ([(ay.mk 4 y42 0 (bD.mk [] [] false) [])] : List ay)) fun q56 =>
  some q56)) (
  Option.bind (kW m y6 z25) fun y67 =>
  cond (!y67.2) (
  none) (
  chk (ln ([] : List ay) + ln ([y67.1] : List ay) ≤ 137438953472) <|
  lt (([] : List ay) ++ ([y67.1] : List ay)) fun q93 =>
  some q93))) fun (z37 : List ay) =>
  Option.bind (
  Option.bind (f4 m y6 (w64 (z25 + 1))) fun y106 =>
  li m y6 m y106 z37) fun (qB : List ay) =>
  cond y22 (
  some (ay.mk 3 [] 0 (bD.mk [] ([] : List ae) false) ([(ay.mk 1 [] 0 (bD.mk [] [] false) qB)] : List ay))) (
  some (ay.mk 1 [] 0 (bD.mk [] ([] : List ae) false) qB))
theorem vh {af : Gh} (M : Av) (m : Nat) (v_ : List ae) (r : ay) (hm : oX m v_ = some r) (w : World) (hS : S0 M [eI a6 v_ af] w) : Calls Tryz.prog 116 ⟨[vL af v_]⟩ w (fun e w' => ∃ v,e = .returned v ∧ ∃ (aA : Gh) (cY : Gh),v = .agg ⟨e4 r (gL [aA,cY])⟩ ∧ SH M (fpl [eI a6 v_ af]) w [eO 137 a6 r.az.Value aA,eO 39 ak r.a8 cY] w'):=by
 rw [oX] at hm
 have hS0 : SH M (fpl [eI a6 v_ af]) w [eI a6 v_ af] w:=hS
 generalize hX : fpl [eI a6 v_ af] = X at hS0 ⊢
 clear hS hX
 have hS:=hS0
 clear hS0
 refine calls_entryP Tryz.func116 rfl Tryz.ntmps116 rfl fun _ H => ?_
 refine t_in H hS (t_starts ?_)
 refine t_m [] [0] [0] [vL af v_] (fun _ _ H hd => o_alloc [vU 0,vN,vI 0,vN,vO,vF,vO] (z:=vG [vU 0,vN,vI 0,vN,vO,vF,vO]) hd (by kernel_rfl) rfl) fun b1 => (t_end (t_starts ?_))
 refine t_b 1 [2,11] [vP b1,vL af v_] [] ?_
 obtain ⟨y6,hy6,hm⟩:=bindE hm
 refine t_c [1] [0,1] [2] [vP b1] (dD (af:=af) m _ _ hy6) fun g7 => ?_
 refine t_b 3 [0,2] [vL g7 y6,vP b1] [] (t_end (t_sel [0,1] (t_starts ?_)))
 refine t_b 1 [0,2,13] [vL g7 y6,vP b1,vG [vU 1,vN,vI 0,vN,vO,vF,vO]] [] ?_
 refine t_m [] [0,1] [0,2,13] [vL g7 y6,vP b1,vG [vU 1,vN,vI 0,vN,vO,vF,vO]] (fun _ _ H14 hd => o_alloc [vU 0,vN,vI 0,vN,vO,vF,vO] (z:=vG [vU 0,vN,vI 0,vN,vO,vF,vO]) hd (by kernel_rfl) rfl) fun b15 => ?_
 refine t_m0 [0] [1,2] [0,2,3] [vL g7 y6,vP b1,vP b15] (fun _ _ H17 hd => o_store [vU 1,vN,vI 0,vN,vO,vF,vO] H17 hd rfl rfl (by kernel_rfl) rfl rfl rfl) (t_end ?_)
 refine t_r [0,2,3,4] [vL g7 y6,vP b1,vP b15,vI 0] [] ?_
 obtain ⟨y22,hy22,hm⟩:=bindE hm
 refine t_r [0,2,3,4,5] [vL g7 y6,vP b1,vP b15,vI 0,vB y22] [kr fun _ hS => fP (af:=g7) m _ _ _ _ hy22 _ (s0im s0nil (hS.im 1 rfl))] ?_
 obtain ⟨z25,hz,hm⟩:=bindE hm
 refine t_cut [0,2,3,5,4] [vL g7 y6,vP b1,vP b15,vB y22,vI z25] [eB b15 [vU 1,vN,vI 0,vN,vO,vF,vO],eI a6 y6 g7,eB b1 [vU 0,vN,vI 0,vN,vO,vF,vO]] ?_ ?_
 ·replace hm:=hz
  obtain ⟨y26,hy26,hm⟩:=bindE hm
  refine t_r [0,2,3,4,5,20] [vL g7 y6,vP b1,vP b15,vI 0,vB y22,vB (cond y22 true y26)] [kgr (y22 = false ∧ True) fun _ hS hg => fP (af:=g7) m _ _ _ _ (bF (hg.1) hy26) _ (s0im s0nil (hS.im 1 rfl))] ?_
  refine t_im hm (fun hm => ?_) (fun hm => ?c36)
  case c36 =>
   refine t_skip ?_
   obtain rfl:=someE hm
   exact t_e [0,2,3,5,4]
  obtain ⟨y29,hy29,hm⟩:=bindE hm
  refine t_r [0,2,3,4,5] [vL g7 y6,vP b1,vP b15,vI y29,vB y22] [kr fun _ hS => ep (af:=g7) m _ _ _ hy29 _ (s0im s0nil (hS.im 1 rfl))] ?_
  obtain ⟨y32,hy32,hm⟩:=bindE hm
  refine t_r [0,2,3,4,5,26] [vL g7 y6,vP b1,vP b15,vI y29,vB y22,vB (!y32)] [kr fun _ hS => h9 (af:=g7) _ _ _ _ hy32 _ (s0im s0nil (hS.im 1 rfl))] ?_
  refine t_i2 hm (fun hm => ?_)
  refine t_skip ?_
  obtain rfl:=someE hm
  exact t_e [0,2,3,5,4]
 ·obtain ⟨z37,hz,hm⟩:=bindE hm
  refine t_cutg [0,2,3,4,5] (fun (rK : Gh) => [vL g7 y6,vP b1,vP b15,vI z25,vB y22]) (fun rK => [eO 39 ak z37 rK,eB b15 [vU 1,vN,vI 0,vN,vO,vF,vL rK z37],eI a6 y6 g7,eB b1 [vU 0,vN,vI 0,vN,vO,vF,vO]]) ?_ ?_
  ·replace hm:=hz
   obtain ⟨y38,hy38,hm⟩:=bindE hm
   refine t_r [0,2,3,4,5,30] [vL g7 y6,vP b1,vP b15,vI z25,vB y22,vB y38] [kr fun _ hS => h9 (af:=g7) _ _ _ _ hy38 _ (s0im s0nil (hS.im 1 rfl))] ?_
   refine t_im hm (fun hm => ?c102) (fun hm => ?_)
   case c102 =>
    obtain ⟨ho41,hm⟩:=chkE hm
    obtain ⟨y42,hy42,hm⟩:=bindE hm
    refine t_r [0,2,3,4,5,6] [vL g7 y6,vP b1,vP b15,vI z25,vB y22,vS y42] [ki 1 ho41,kj 1 1 ho41,kc (fK m _ _ hy42)] (t_seq ?_)
    obtain ⟨y45,hy45,hm⟩:=bindE hm
    refine t_r [0,2,3,4,5,6,40] [vL g7 y6,vP b1,vP b15,vI z25,vB y22,vS y42,vB (!y45)] [kc (tf m _ _ hy45)] ?_
    refine t_i2 hm (fun hm => ?_)
    refine t_skip (t_start ?_)
    refine t_b 4 [0,2,3,4,5,43,45] [vL g7 y6,vP b1,vP b15,vI z25,vB y22,vO,vG [vU 4,vS y42,vI 0,vN,vO,vF,vO]] [kb 0 6] ?_
    refine t_m [] [0,1,2] [0,2,3,4,5,43] [vL g7 y6,vP b1,vP b15,vI z25,vB y22,vO] (fun _ _ H49 hd => o_li (T:=ak) (E:=39) (zv:=vG [vU 0,vN,vI 0,vN,vO,vF,vO]) [vU 4,vS y42,vI 0,vN,vO,vF,vO] ([(ay.mk 4 y42 0 (bD.mk [] [] false) [])] : List ay) [gL [Gh.nil,Gh.nil]] H49 hd rfl (InnL.cons (iX SlG.nil SlG.nil) InnL.nil)) fun g50 => ?_
    refine t_nil 39 ak ?_
    obtain ⟨ho55,hm⟩:=chkE hm
    obtain ⟨q56,hq56,hm⟩:=letE hm
    refine t_m [0,1] [2,3,4] [0,2,3,4,5] [vL g7 y6,vP b1,vP b15,vI z25,vB y22] (fun _ _ H53 hd => o_app2 (T:=ak) (zv:=vG [vU 0,vN,vI 0,vN,vO,vF,vO]) (g1:=Gh.nil) (g2:=g50) (l1:=([] : List ay)) (l2:=([(ay.mk 4 y42 0 (bD.mk [] [] false) [])] : List ay)) q56 hq56.symm H53 hd rfl rfl rfl rfl rfl rfl rfl (by kernel_rfl) (by kernel_rfl) rfl rfl ho55) fun g59 => ?_
    refine t_b 7 [0,2,3,4,5,47,48] [vL g7 y6,vP b1,vP b15,vI z25,vB y22,vL g59 q56,vA b15 6] [] ?_
    refine t_m0 [2] [0,1,3,4] [0,2,3,4,5] [vL g7 y6,vP b1,vP b15,vI z25,vB y22] (fun _ _ H61 hd => o_store [vU 1,vN,vI 0,vN,vO,vF,vL g59 q56] H61 hd rfl rfl (by kernel_rfl) rfl rfl rfl) (t_end (t_sel [0,1,3,4] ?_))
    obtain rfl:=someE hm
    refine t_sel [1,0,2,3] ?_
    exact t_eg g59 [0,2,3,4,5]
   refine t_starts ?_
   refine t_b 2 [0,2,3,4,5,50,51] [vL g7 y6,vP b1,vP b15,vI z25,vB y22,vL g7 y6,vI z25] [] ?_
   obtain ⟨y67,hy67,hm⟩:=bindE hm
   intro _ _ H66 hS
   have hd:=hS.hand [1] [0,1,2] rfl rfl
   refine m_stp [52,0,2,3,4,5] (fS [0,2,3,4,5] [vL g7 y6,vP b1,vP b15,vI z25,vB y22]) H66 rfl rfl rfl rfl (o_callx H66 rfl rfl (nZ (af:=g7) m _ _ _ hy67 _ _ hd)) (fun _ => rfl) fun _ _ v H73 hq => ?_
   obtain ⟨g68,g70,rfl,hq⟩:=hq
   replace hS:=hS.join [1] [0,1,2] rfl rfl hq
   refine t_in H73 hS ?_
   refine t_b 6 [0,2,3,4,5,53,54] [vL g7 y6,vP b1,vP b15,vI z25,vB y22,.agg ⟨e4 y67.1 (gL [g68,g70])⟩,vB y67.2] [] ?_
   refine t_m [] [0,1,2,3,4] [0,2,3,4,5,53,54] [vL g7 y6,vP b1,vP b15,vI z25,vB y22,.agg ⟨e4 y67.1 (gL [g68,g70])⟩,vB y67.2] (fun _ _ H75 hd => o_alloc [vU 0,vN,vI 0,vN,vO,vF,vO] (z:=vG [vU 0,vN,vI 0,vN,vO,vF,vO]) hd (by kernel_rfl) rfl) fun b76 => ?_
   refine t_m0 [0] [1,2,3,4,5] [0,2,3,4,5,7,54] [vL g7 y6,vP b1,vP b15,vI z25,vB y22,vP b76,vB y67.2] (fun _ _ H78 hd => o_store (e4 y67.1 (gL [g68,g70])) H78 hd rfl rfl (by kernel_rfl) rfl rfl rfl) ?_
   refine t_b 9 [0,2,3,4,5,7,8] [vL g7 y6,vP b1,vP b15,vI z25,vB y22,vP b76,vB y67.2] [] (t_end (t_seq ?_))
   refine t_r [0,2,3,4,5,7,56] [vL g7 y6,vP b1,vP b15,vI z25,vB y22,vP b76,vB (!y67.2)] [] ?_
   refine t_i2 hm (fun hm => ?_)
   refine t_skip (t_start ?_)
   refine t_b 3 [0,2,3,4,5,59,60] [vL g7 y6,vP b1,vP b15,vI z25,vB y22,vO,.agg ⟨e4 y67.1 (gL [g68,g70])⟩] [kb 3 6,kE 0 7] ?_
   refine t_frz [1,0,2,3,4,5] ?_
   refine t_frz [2,0,1,3,4,5] ?_
   refine t_m [1,0] [0,1,2,3,4,5] [0,2,3,4,5,59] [vL g7 y6,vP b1,vP b15,vI z25,vB y22,vO] (fun _ _ H86 hd => o_li (T:=ak) (E:=39) (zv:=vG [vU 0,vN,vI 0,vN,vO,vF,vO]) (e4 y67.1 (gL [g68,g70])) ([y67.1] : List ay) [gL [g68,g70]] H86 hd rfl (InnL.cons (iX (hd.im 0 rfl) (hd.im 1 rfl)) InnL.nil)) fun g87 => ?_
   refine t_nil 39 ak ?_
   obtain ⟨ho92,hm⟩:=chkE hm
   obtain ⟨q93,hq93,hm⟩:=letE hm
   refine t_m [0,1] [2,3,4,5,6,7] [0,2,3,4,5] [vL g7 y6,vP b1,vP b15,vI z25,vB y22] (fun _ _ H90 hd => o_app2 (T:=ak) (zv:=vG [vU 0,vN,vI 0,vN,vO,vF,vO]) (g1:=Gh.nil) (g2:=g87) (l1:=([] : List ay)) (l2:=([y67.1] : List ay)) q93 hq93.symm H90 hd rfl rfl rfl rfl rfl rfl rfl (by kernel_rfl) (by kernel_rfl) rfl rfl ho92) fun g96 => ?_
   refine t_b 6 [0,2,3,4,5,62,63] [vL g7 y6,vP b1,vP b15,vI z25,vB y22,vL g96 q93,vA b15 6] [] ?_
   refine t_m0 [5] [0,1,2,3,4,6,7] [0,2,3,4,5] [vL g7 y6,vP b1,vP b15,vI z25,vB y22] (fun _ _ H98 hd => o_store [vU 1,vN,vI 0,vN,vO,vF,vL g96 q93] H98 hd rfl rfl (by kernel_rfl) rfl rfl rfl) (t_end (t_sel [0,1,6,7] ?_))
   obtain rfl:=someE hm
   refine t_sel [1,0,2,3] ?_
   exact t_eg g96 [0,2,3,4,5]
  ·intro rK
   obtain ⟨qB,hz,hm⟩:=bindE hm
   refine t_cutg [2,3,5] (fun (pF : Gh) => [vP b1,vP b15,vB y22]) (fun pF => [eO 39 ak qB pF,eB b15 [vU 1,vN,vI 0,vN,vO,vF,vL pF qB],eI a6 y6 g7,eB b1 [vU 0,vN,vI 0,vN,vO,vF,vO]]) ?_ ?_
   ·replace hm:=hz
    obtain ⟨y106,hy106,hm⟩:=bindE hm
    refine t_r [0,2,3,4,5] [vL g7 y6,vP b1,vP b15,vI y106,vB y22] [kr fun _ hS => ep (af:=g7) m _ _ _ hy106 _ (s0im s0nil (hS.im 2 rfl))] (t_block ?_)
    intro _ _ H108 hS
    refine w_loop (fun kk a' w' => ∃ (tD : Int) (sE : List ay) (nb : Gh),li m y6 kk tD sE = some _ ∧ Fr 105 (fS [0,2,3,5,4] [vL g7 y6,vP b1,vP b15,vB y22,vI tD]) a' ∧ SH M X w [eO 39 ak sE nb,eB b15 [vU 1,vN,vI 0,vN,vO,vF,vL nb sE],eI a6 y6 g7,eB b1 [vU 0,vN,vI 0,vN,vO,vF,vO]] w') ⟨_,y106,z37,rK,hm,FrG.keep (ks:=[0,2,3,5,4]) H108 (by kernel_rfl),hS⟩ ?_
    clear hm H108 hS
    rintro kk _ _ ⟨tD,sE,nb,hm,H,hS⟩
    cases kk with
    | zero => exact noneE hm
    | succ kk =>
     rw [li] at hm
     refine t_in H hS (t_seq ?_)
     refine t_r [0,2,3,4,5,71] [vL g7 y6,vP b1,vP b15,vI tD,vB y22,vB (decide (tD < (ln y6)))] [] ?_
     refine t_im hm (fun hm => ?_) (fun hm => ?c160)
     case c160 =>
      refine t_exit ?_
      obtain rfl:=someE hm
      exact t_eg nb [2,3,5]
     refine t_skip (t_seq (t_block (t_seq ?_)))
     obtain ⟨y114,hy114,hm⟩:=bindE hm
     refine t_r [0,2,3,4,5,79] [vL g7 y6,vP b1,vP b15,vI tD,vB y22,vB (!y114)] [kr fun _ hS => fP (af:=g7) m _ _ _ _ hy114 _ (s0im s0nil (hS.im 2 rfl))] ?_
     refine t_i2 hm (fun hm => ?_)
     refine t_skip ?_
     obtain ⟨y117,hy117,hm⟩:=bindE hm
     refine t_r [0,2,3,4,5] [vL g7 y6,vP b1,vP b15,vI y117,vB y22] [kr fun _ hS => ep (af:=g7) m _ _ _ hy117 _ (s0im s0nil (hS.im 2 rfl))] (t_starts ?_)
     refine t_b 2 [0,2,3,4,5,86,87] [vL g7 y6,vP b1,vP b15,vI y117,vB y22,vL g7 y6,vI y117] [] ?_
     obtain ⟨y122,hy122,hm⟩:=bindE hm
     intro _ _ H121 hS
     have hd:=hS.hand [2] [0,1,2,3] rfl rfl
     refine m_stp [88,0,2,3,4,5] (fS [0,2,3,4,5] [vL g7 y6,vP b1,vP b15,vI y117,vB y22]) H121 rfl rfl rfl rfl (o_callx H121 rfl rfl (nZ (af:=g7) m _ _ _ hy122 _ _ hd)) (fun _ => rfl) fun _ _ v H128 hq => ?_
     obtain ⟨pv,g125,rfl,hq⟩:=hq
     replace hS:=hS.join [2] [0,1,2,3] rfl rfl hq
     refine t_in H128 hS ?_
     refine t_b 6 [0,2,3,4,5,89,90] [vL g7 y6,vP b1,vP b15,vI y117,vB y22,.agg ⟨e4 y122.1 (gL [pv,g125])⟩,vB y122.2] [] ?_
     refine t_m [] [0,1,2,3,4,5] [0,2,3,4,5,89,90] [vL g7 y6,vP b1,vP b15,vI y117,vB y22,.agg ⟨e4 y122.1 (gL [pv,g125])⟩,vB y122.2] (fun _ _ H130 hd => o_alloc [vU 0,vN,vI 0,vN,vO,vF,vO] (z:=vG [vU 0,vN,vI 0,vN,vO,vF,vO]) hd (by kernel_rfl) rfl) fun b131 => ?_
     refine t_m0 [0] [1,2,3,4,5,6] [0,2,3,4,5,9,90] [vL g7 y6,vP b1,vP b15,vI y117,vB y22,vP b131,vB y122.2] (fun _ _ H133 hd => o_store (e4 y122.1 (gL [pv,g125])) H133 hd rfl rfl (by kernel_rfl) rfl rfl rfl) ?_
     refine t_b 9 [0,2,3,4,5,9,10] [vL g7 y6,vP b1,vP b15,vI y117,vB y22,vP b131,vB y122.2] [] (t_end (t_seq ?_))
     refine t_r [0,2,3,4,5,9,92] [vL g7 y6,vP b1,vP b15,vI y117,vB y22,vP b131,vB (!y122.2)] [] ?_
     refine t_i2 hm (fun hm => ?_)
     refine t_skip (t_start ?_)
     refine t_b 3 [0,2,3,4,5,95,96] [vL g7 y6,vP b1,vP b15,vI y117,vB y22,vL nb sE,.agg ⟨e4 y122.1 (gL [pv,g125])⟩] [kb 4 6,kE 0 7] ?_
     refine t_frz [1,0,2,3,4,5,6] ?_
     refine t_frz [2,0,1,3,4,5,6] ?_
     refine t_m [1,0] [0,1,2,3,4,5,6] [0,2,3,4,5,95] [vL g7 y6,vP b1,vP b15,vI y117,vB y22,vL nb sE] (fun _ _ H141 hd => o_li (T:=ak) (E:=39) (zv:=vG [vU 0,vN,vI 0,vN,vO,vF,vO]) (e4 y122.1 (gL [pv,g125])) ([y122.1] : List ay) [gL [pv,g125]] H141 hd rfl (InnL.cons (iX (hd.im 0 rfl) (hd.im 1 rfl)) InnL.nil)) fun g142 => ?_
     obtain ⟨ho146,hm⟩:=chkE hm
     obtain ⟨q147,hq147,hm⟩:=letE hm
     refine t_m [4,0] [1,2,3,5,6,7] [0,2,3,4,5] [vL g7 y6,vP b1,vP b15,vI y117,vB y22] (fun _ _ H145 hd => o_app2 (T:=ak) (zv:=vG [vU 0,vN,vI 0,vN,vO,vF,vO]) (g1:=nb) (g2:=g142) (l1:=sE) (l2:=([y122.1] : List ay)) q147 hq147.symm H145 hd rfl rfl rfl rfl rfl rfl rfl (by kernel_rfl) (by kernel_rfl) rfl rfl ho146) fun g150 => ?_
     refine t_b 6 [0,2,3,4,5,98,99] [vL g7 y6,vP b1,vP b15,vI y117,vB y22,vL g150 q147,vA b15 6] [] ?_
     refine t_m0 [5] [0,1,2,3,4,6,7] [0,2,3,4,5] [vL g7 y6,vP b1,vP b15,vI y117,vB y22] (fun _ _ H152 hd => o_store [vU 1,vN,vI 0,vN,vO,vF,vL g150 q147] H152 hd rfl rfl (by kernel_rfl) rfl rfl rfl) (t_end (t_sel [0,1,6,7] ?_))
     obtain ⟨y155,hy155,hm⟩:=bindE hm
     refine t_w [0,2,3,4,5] [vL g7 y6,vP b1,vP b15,vI y155,vB y22] [kr fun _ hS => ep (af:=g7) m _ _ _ hy155 _ (s0im s0nil (hS.im 2 rfl))] (t_sel [1,0,2,3] ?_)
     exact fun _ _ H157 hS => ⟨_,Nat.lt_succ_self _,y155,q147,g150,hm,FrG.keep (ks:=[0,2,3,5,4]) H157 (by kernel_rfl),hS⟩
   ·intro pF
    refine t_sel [0,1,3] (t_seq ?_)
    refine t_r [2,3,100] [vP b1,vP b15,vB y22] [] ?_
    refine t_im hm (fun hm => ?_) (fun hm => ?c181)
    case c181 =>
     refine t_skip (t_starts ?_)
     refine t_b 1 [2,104] [vP b1,vG [vU 1,vN,vI 0,vN,vO,vF,vL pF qB]] [⟨some (vG [vU 1,vN,vI 0,vN,vO,vF,vL pF qB]),rN b15 0 [vU 1,vN,vI 0,vN,vO,vF,vL pF qB],fun _ hS => ((hS.bk 1 rfl).atD rfl)⟩] ?_
     refine t_m0 [2] [0,1] [2] [vP b1] (fun _ _ H177 hd => o_store [vU 1,vN,vI 0,vN,vO,vF,vL pF qB] H177 hd rfl rfl (by kernel_rfl) rfl rfl rfl) (t_end (t_sel [0,1] (t_ret ?_)))
     obtain rfl:=someE hm
     refine t_nil 137 a6 ?_
     exact fun _ _ H179 hS => retR1 H179 rfl (oneRes_agg rfl (hS.bk 1 rfl) Tryz.underlying39 rfl (by kernel_rfl)) ⟨_,rfl,Gh.nil,pF,rfl,(hS.sel [0,2] rfl)⟩
    refine t_starts ?_
    refine t_b 1 [2,101] [vP b1,vG [vU 1,vN,vI 0,vN,vO,vF,vL pF qB]] [⟨some (vG [vU 1,vN,vI 0,vN,vO,vF,vL pF qB]),rN b15 0 [vU 1,vN,vI 0,vN,vO,vF,vL pF qB],fun _ hS => ((hS.bk 1 rfl).atD rfl)⟩] ?_
    refine t_frz [0,1,2] ?_
    refine t_m [0] [0,1,2] [2] [vP b1] (fun _ _ H166 hd => o_li (T:=ak) (E:=39) (zv:=vG [vU 0,vN,vI 0,vN,vO,vF,vO]) [vU 1,vN,vI 0,vN,vO,vF,vL pF qB] ([(ay.mk 1 [] 0 (bD.mk [] [] false) qB)] : List ay) [gL [Gh.nil,pF]] H166 hd rfl (InnL.cons (iX SlG.nil (hd.im 0 rfl)) InnL.nil)) fun g167 => ?_
    refine t_b 3 [2,103] [vP b1,vG [vU 3,vN,vI 0,vN,vO,vF,vK g167 1]] [] ?_
    refine t_m0 [3] [0,1,2] [2] [vP b1] (fun _ _ H172 hd => o_store [vU 3,vN,vI 0,vN,vO,vF,vK g167 1] H172 hd rfl rfl (by kernel_rfl) rfl rfl rfl) (t_end (t_sel [0,1] (t_ret ?_)))
    obtain rfl:=someE hm
    refine t_nil 137 a6 ?_
    exact fun _ _ H174 hS => retR1 H174 rfl (oneRes_agg rfl (hS.bk 1 rfl) Tryz.underlying39 rfl (by kernel_rfl)) ⟨_,rfl,Gh.nil,g167,rfl,(hS.sel [0,2] rfl)⟩
theorem uK {af : Gh} (m : Nat) (v_ : List ae) (r : ay) (hm : oX m v_ = some r) (M : Av) (w : World) (hS : S0 M [eI a6 v_ af] w) : DoesX Tryz.prog 116 ⟨[vL af v_]⟩ w (fun v w' => ∃ (aA : Gh) (cY : Gh),v = .agg ⟨e4 r (gL [aA,cY])⟩ ∧ SH M (fpl [eI a6 v_ af]) w [eO 137 a6 r.az.Value aA,eO 39 ak r.a8 cY] w'):=⟨Tryz.call116 _,vh M m   v_ r hm w hS⟩

def lm (m : Nat) (y24 : List (List ae)) : Nat → Int → (List ay) → Option (List ay)
  | 0,_,_ => none
  | kk + 1,v35,v36 =>
    cond (decide (v35 < (ln y24))) (
    chk (0 ≤ v35 ∧ v35 < ln y24) <|
    Option.bind (oX m (gi y24 v35)) fun y43 =>
    chk (ln v36 + ln ([y43] : List ay) ≤ 137438953472) <|
    lt (v36 ++ ([y43] : List ay)) fun q51 =>
    lm m y24 kk (w64 (v35 + 1)) q51) (
    some v36)
def oU (m : Nat) (v_ : List ae) : Option (ay × Bool) :=
  Option.bind (eg m v_) fun y8 =>
  cond ((ln y8) == 0) (
  none) (
  Option.bind (lI m v_ 18) fun y24 =>
  Option.bind (
  lm m y24 m 0 ([] : List ay)) fun (z31 : List ay) =>
  some ((ay.mk 2 [] 0 (bD.mk [] ([] : List ae) false) z31),decide ((ln y24) ≤ 64)))
theorem vd {af : Gh} (M : Av) (m : Nat) (v_ : List ae) (r : ay × Bool) (hm : oU m v_ = some r) (w : World) (hS : S0 M [eI a6 v_ af] w) : Calls Tryz.prog 67 ⟨[vL af v_]⟩ w (fun e w' => ∃ v,e = .returned v ∧ ∃ (aA : Gh) (cY : Gh),v = .tuple ⟨[.agg ⟨e4 r.1 (gL [aA,cY])⟩,vB r.2]⟩ ∧ SH M (fpl [eI a6 v_ af]) w [eO 137 a6 r.1.az.Value aA,eO 39 ak r.1.a8 cY] w'):=by
 rw [oU] at hm
 have hS0 : SH M (fpl [eI a6 v_ af]) w [eI a6 v_ af] w:=hS
 generalize hX : fpl [eI a6 v_ af] = X at hS0 ⊢
 clear hS hX
 have hS:=hS0
 clear hS0
 refine calls_entryP Tryz.func67 rfl Tryz.ntmps67 rfl fun _ H => ?_
 refine t_in H hS (t_starts ?_)
 refine t_m [] [0] [0] [vL af v_] (fun _ _ H hd => o_alloc [vU 0,vN,vI 0,vN,vO,vF,vO] (z:=vG [vU 0,vN,vI 0,vN,vO,vF,vO]) hd (by kernel_rfl) rfl) fun b1 => ?_
 refine t_b 2 [0,2] [vL af v_,vP b1] [] (t_end (t_seq (t_starts ?_)))
 refine t_b 1 [0,2,7] [vL af v_,vP b1,vL af v_] [] ?_
 obtain ⟨y8,hy8,hm⟩:=bindE hm
 refine t_c [1] [0,1] [0,2] [vL af v_,vP b1] (dD (af:=af) m _ _ hy8) fun g9 => ?_
 refine t_b 4 [0,2,10] [vL af v_,vP b1,vB ((ln y8) == 0)] [] (t_end (t_sel [1,2] ?_))
 refine t_i2 hm (fun hm => ?_)
 refine t_skip (t_starts ?_)
 refine t_b 1 [0,2,12] [vL af v_,vP b1,vG [vU 2,vN,vI 0,vN,vO,vF,vO]] [] ?_
 refine t_m [] [0,1] [0,2,12] [vL af v_,vP b1,vG [vU 2,vN,vI 0,vN,vO,vF,vO]] (fun _ _ H16 hd => o_alloc [vU 0,vN,vI 0,vN,vO,vF,vO] (z:=vG [vU 0,vN,vI 0,vN,vO,vF,vO]) hd (by kernel_rfl) rfl) fun b17 => ?_
 refine t_m0 [0] [1,2] [0,2,4] [vL af v_,vP b1,vP b17] (fun _ _ H19 hd => o_store [vU 2,vN,vI 0,vN,vO,vF,vO] H19 hd rfl rfl (by kernel_rfl) rfl rfl rfl) (t_end (t_starts ?_))
 refine t_b 1 [2,4,13] [vP b1,vP b17,vL af v_] [] ?_
 obtain ⟨y24,hy24,hm⟩:=bindE hm
 refine t_c [2] [0,1,2] [2,4] [vP b1,vP b17] (lB (af:=af) m _ _ _ hy24) fun g25 => ?_
 refine t_b 3 [2,4,5] [vP b1,vP b17,vL g25 y24] [] (t_end (t_sel [0,1,2] ?_))
 obtain ⟨z31,hz,hm⟩:=bindE hm
 refine t_cutg [2,4,5] (fun (g64 : Gh) => [vP b1,vP b17,vL g25 y24]) (fun g64 => [eO 39 ak z31 g64,eO 34 (Ty.sl a6) y24 g25,eB b17 [vU 2,vN,vI 0,vN,vO,vF,vL g64 z31],eB b1 [vU 0,vN,vI 0,vN,vO,vF,vO]]) ?_ ?_
 ·replace hm:=hz
  refine t_r [2,4,5,6] [vP b1,vP b17,vL g25 y24,vI 0] [] (t_block ?_)
  refine t_nil 39 ak ?_
  intro _ _ H33 hS
  refine w_loop (fun kk a' w' => ∃ (v35 : Int) (v36 : List ay) (g37 : Gh),lm m y24 kk v35 v36 = some _ ∧ Fr 35 (fS [2,4,5,6] [vP b1,vP b17,vL g25 y24,vI v35]) a' ∧ SH M X w [eO 39 ak v36 g37,eO 34 (Ty.sl a6) y24 g25,eB b17 [vU 2,vN,vI 0,vN,vO,vF,vL g37 v36],eB b1 [vU 0,vN,vI 0,vN,vO,vF,vO]] w') ⟨_,0,([] : List ay),Gh.nil,hm,FrG.keep (ks:=[2,4,5,6]) H33 (by kernel_rfl),hS⟩ ?_
  clear hm H33 hS
  rintro kk _ _ ⟨v35,v36,g37,hm,H,hS⟩
  cases kk with
  | zero => exact noneE hm
  | succ kk =>
   rw [lm] at hm
   refine t_in H hS (t_seq ?_)
   refine t_r [2,4,5,6,18] [vP b1,vP b17,vL g25 y24,vI v35,vB (decide (v35 < (ln y24)))] [] ?_
   refine t_im hm (fun hm => ?_) (fun hm => ?c62)
   case c62 =>
    refine t_exit ?_
    obtain rfl:=someE hm
    exact t_eg g37 [2,4,5]
   refine t_skip (t_seq (t_block ?_))
   obtain ⟨ho41,hm⟩:=chkE hm
   obtain ⟨y43,hy43,hm⟩:=bindE hm
   obtain ⟨ho50,hm⟩:=chkE hm
   obtain ⟨q51,hq51,hm⟩:=letE hm
   intro _ _ H39 hS
   refine w_dS (base:=(fS [2,4,5,6] [vP b1,vP b17,vL g25 y24,vI v35])) (L:=[eO 39 ak v36 g37,eO 34 (Ty.sl a6) y24 g25,eB b17 [vU 2,vN,vI 0,vN,vO,vF,vL g37 v36],eB b1 [vU 0,vN,vI 0,vN,vO,vF,vO]]) 11 4 (fun yg40 => [vA b17 6,vL g37 v36,vL g25 y24,vI v35,.pointer (some ⟨ab g25.a,ao g25.a + (v35).toNat * 1,none⟩),.slice (g25.s (v35).toNat 0).a ((gi y24 v35).length) (g25.s (v35).toNat 0).c,.agg ⟨e4 y43 (yg40 6)⟩,vK (yg40 7 0) 1,.slice (yg40 8 0).a q51.length (yg40 8 0).c,vA b17 6,undef]) (fun yg40 => [[],[],[],[],[],[eI a6 (gi y24 v35) (g25.s (v35).toNat 0)],[eO 137 a6 y43.az.Value (yg40 6 0),eO 39 ak y43.a8 (yg40 6 1)],[eO 39 ak ([y43] : List ay) (yg40 7 0),eI ak y43.a8 (yg40 6 1),eI a6 y43.az.Value (yg40 6 0)],[eO 39 ak q51 (yg40 8 0)],[],[eB b17 [vU 2,vN,vI 0,vN,vO,vF,.slice (yg40 8 0).a q51.length (yg40 8 0).c]]]) [[11,13],[11,13],[],[],[12],[12],[5],[6],[7,11],[8,13],[8,13]] [[],[],[],[],[],[],[],[6],[11],[],[13]] [[0],[0,1],[2],[3],[2,3,4],[2,3,4,5],[2,3,4,5,6],[2,3,4,5,6,7],[0,1,2,3,4,5,6,7,8],[9],[0,1,2,3,4,5,6,7,8,9,10]] [] (FrG.keep (ks:=[2,4,5,6]) H39 (by kernel_rfl)) (fun _ _ h => by cases h) (by kernel_rfl) hS (by kernel_rfl) rfl rfl (by kernel_rfl) (by kernel_rfl) (by kernel_rfl) (gd_none (by kernel_rfl) _ _) ?hstep_yg40 fun _ _ yg40 H54 hv hS => ?hK_yg40
   case hstep_yg40 =>
    refine ⟨se0,(se (fun _ _ => [⟨some (vL g37 v36),rA b17 6 (vL g37 v36),fun _ hS => ((hS.bk 1 rfl).at1 rfl)⟩])),se0,se0,(se (fun _ _ => [⟨none,fun _ => oka g25.a ∧ 0 ≤ v35 ∧ v35 < ln y24,fun _ hS => ((hS.osl 0 rfl).oki ho41)⟩])),?_,?_,?_,?_,se0,?_,trivial⟩
    ·intro o ho a w yg40 M Hb hv hO hS0
     obtain rfl:=someE ho
     have H:=(Hb).add (hv 4 (by decide) (by decide) 25 rfl)
     have hS:=hS0
     refine Stp.mono (o_evs [(.slice (g25.s (v35).toNat 0).a ((gi y24 v35).length) (g25.s (v35).toNat 0).c)] (.slice (g25.s (v35).toNat 0).a ((gi y24 v35).length) (g25.s (v35).toNat 0).c) (some (fun wz => V.at1 ⟨ab g25.a,ao g25.a + (v35).toNat * 1,none⟩ (.slice (g25.s (v35).toNat 0).a ((gi y24 v35).length) (g25.s (v35).toNat 0).c) wz)) [] H rfl (by kernel_rfl) (fun q e => by cases e; exact ((hS.osl 0 rfl).at1 ho41 0 rfl))) ?_
     rintro v w2 ⟨rfl,hq⟩
     replace hS:=hS.below hq.below
     replace hS:=hS.addIm (sl_inn ((hS.ow 0 rfl).el ho41))
     exact ⟨gL [],fun _ _ => rfl,hS.sel [0,1] rfl⟩
    ·intro o ho a w yg40 M Hb hv hO hS0
     obtain rfl:=someE ho
     have H:=(Hb).add (hv 5 (by decide) (by decide) 26 rfl)
     have hS:=hS0
     have hd:=hS.hand [0] [0] rfl rfl
     refine Stp.mono (o_callx H rfl rfl (uK (af:=(g25.s (v35).toNat 0)) m _ _ hy43 _ _ hd)) ?_
     rintro v w2 hq
     obtain ⟨g44,g46,rfl,hq⟩:=hq
     replace hS:=hS.join [0] [0] rfl rfl hq
     exact ⟨gL [g44,g46],fun _ _ => rfl,hS.sel [0,1,2] rfl⟩
    ·intro o ho a w yg40 M Hb hv hO hS0
     obtain rfl:=someE ho
     have H:=(Hb).add (hv 6 (by decide) (by decide) 27 rfl)
     have hS:=hS0
     replace hS:=SH.frz1 (hS.sel [0,1] rfl)
     replace hS:=SH.frz1 (hS.sel [1,0] rfl)
     have hd:=hS.hand [1,0] [0,1] rfl rfl
     refine Stp.mono (o_li (T:=ak) (E:=39) (zv:=vG [vU 0,vN,vI 0,vN,vO,vF,vO]) (e4 y43 (yg40 6)) ([y43] : List ay) [gL [(yg40 6 0),(yg40 6 1)]] H hd rfl (InnL.cons (iX (hd.im 0 rfl) (hd.im 1 rfl)) InnL.nil)) ?_
     rintro v w2 hq
     obtain ⟨g48,rfl,hq⟩:=hq
     replace hS:=hS.join [1,0] [0,1] rfl rfl hq
     exact ⟨gL [g48],fun _ _ => rfl,hS.sel [0,1,2] rfl⟩
    ·intro o ho a w yg40 M Hb hv hO hS0
     obtain rfl:=someE ho
     have H:=((Hb).add (hv 1 (by decide) (by decide) 22 rfl)).add (hv 7 (by decide) (by decide) 28 rfl)
     have hS:=hS0
     have hd:=hS.hand [3,0] [1,2] rfl rfl
     refine Stp.mono (o_app2 (T:=ak) (zv:=vG [vU 0,vN,vI 0,vN,vO,vF,vO]) (g1:=g37) (g2:=(yg40 7 0)) (l1:=v36) (l2:=([y43] : List ay)) q51 hq51.symm H hd rfl rfl rfl rfl rfl rfl rfl (by kernel_rfl) (by kernel_rfl) rfl rfl ho50) ?_
     rintro v w2 hq
     obtain ⟨g52,rfl,hq⟩:=hq
     replace hS:=hS.join [3,0] [1,2] rfl rfl hq
     exact ⟨gL [g52],fun _ _ => rfl,hS.sel [0,1,2,3] rfl⟩
    ·intro o ho a w yg40 M Hb hv hO hS0
     obtain rfl:=someE ho
     have H:=((Hb).add (hv 8 (by decide) (by decide) 29 rfl)).add (hv 9 (by decide) (by decide) 30 rfl)
     have hS:=hS0
     have hd:=hS.hand [1] [0] rfl rfl
     refine Stp.mono (o_store [vU 2,vN,vI 0,vN,vO,vF,.slice (yg40 8 0).a q51.length (yg40 8 0).c] H hd rfl rfl (by kernel_rfl) rfl rfl rfl) ?_
     rintro v w2 hq
     replace hS:=hS.join [1] [0] rfl rfl hq
     exact ⟨gL [],(fun _ h => by cases h),hS.sel [0,1] rfl⟩
   have H55 : Fr 35 (fS [2,4,5,6] [vP b1,vP b17,vL g25 y24,vI v35]) _:=(FrG.keep (ks:=[2,4,5,6]) H54 (by kernel_rfl))
   replace hS : SH M X w [eI a6 (gi y24 v35) (g25.s (v35).toNat 0),eO 39 ak ([y43] : List ay) (yg40 7 0),eI ak y43.a8 (yg40 6 1),eI a6 y43.az.Value (yg40 6 0),eO 39 ak q51 (yg40 8 0),eB b17 [vU 2,vN,vI 0,vN,vO,vF,.slice (yg40 8 0).a q51.length (yg40 8 0).c],eO 34 (Ty.sl a6) y24 g25,eB b1 [vU 0,vN,vI 0,vN,vO,vF,vO]] _:=hS
   clear hv H54
   generalize yg40 7 0 = g56 at H55 hS
   generalize yg40 6 1 = g57 at H55 hS
   generalize yg40 6 0 = g58 at H55 hS
   generalize yg40 8 0 = g59 at H55 hS
   replace hS:=hS.sel [4,5,6,7] rfl
   refine t_in H55 hS ?_
   refine t_w [2,4,5,6] [vP b1,vP b17,vL g25 y24,vI (w64 (v35 + 1))] [] (t_sel [0,2,1,3] ?_)
   exact fun _ _ H61 hS => ⟨_,Nat.lt_succ_self _,w64 (v35 + 1),q51,g59,hm,FrG.keep (ks:=[2,4,5,6]) H61 (by kernel_rfl),hS⟩
 ·intro g64
  refine t_starts ?_
  refine t_b 4 [2,31,34] [vP b1,vG [vU 2,vN,vI 0,vN,vO,vF,vL g64 z31],vB (decide ((ln y24) ≤ 64))] [⟨some (vG [vU 2,vN,vI 0,vN,vO,vF,vL g64 z31]),rN b17 0 [vU 2,vN,vI 0,vN,vO,vF,vL g64 z31],fun _ hS => ((hS.bk 2 rfl).atD rfl)⟩] ?_
  refine t_m0 [3] [0,1,2] [2,34] [vP b1,vB (decide ((ln y24) ≤ 64))] (fun _ _ H67 hd => o_store [vU 2,vN,vI 0,vN,vO,vF,vL g64 z31] H67 hd rfl rfl (by kernel_rfl) rfl rfl rfl) ?_
  refine t_b 6 [2,3] [vP b1,vB (decide ((ln y24) ≤ 64))] [] (t_end (t_sel [0,1] (t_ret ?_)))
  obtain rfl:=someE hm
  refine t_nil 137 a6 ?_
  exact fun _ _ H71 hS => retR2 H71 rfl (oneRes_agg rfl (hS.bk 1 rfl) Tryz.underlying39 rfl (by kernel_rfl)) rfl ⟨_,rfl,Gh.nil,g64,rfl,(hS.sel [0,2] rfl)⟩
theorem u9 {af : Gh} (m : Nat) (v_ : List ae) (r : ay × Bool) (hm : oU m v_ = some r) (M : Av) (w : World) (hS : S0 M [eI a6 v_ af] w) : DoesX Tryz.prog 67 ⟨[vL af v_]⟩ w (fun v w' => ∃ (aA : Gh) (cY : Gh),v = .tuple ⟨[.agg ⟨e4 r.1 (gL [aA,cY])⟩,vB r.2]⟩ ∧ SH M (fpl [eI a6 v_ af]) w [eO 137 a6 r.1.az.Value aA,eO 39 ak r.1.a8 cY] w'):=⟨Tryz.call67 _,vd M m   v_ r hm w hS⟩

def py (gf : (List ae) → Option (ay × Bool)) : Prop:=∀ (af : Gh) (M : Av) (v_ : List ae) (r : ay × Bool),gf v_ = some r → ∀ w,S0 M [eI a6 v_ af] w → Calls Tryz.prog 117 ⟨[vL af v_]⟩ w (fun e w' => ∃ v,e = .returned v ∧ ∃ (aA : Gh) (cY : Gh),v = .tuple ⟨[.agg ⟨e4 r.1 (gL [aA,cY])⟩,vB r.2]⟩ ∧ SH M (fpl [eI a6 v_ af]) w [eI a6 r.1.az.Value aA,eO 39 ak r.1.a8 cY] w')
def jX (m : Nat) (eC : (List ae) → Option (ay × Bool)) (v_ : List ae) (i : Int) : Option (ay × Bool) :=
  Option.bind (jp v_ i 2) fun y6 =>
  cond y6 (
  some ((ay.mk 8 [] 0 (bD.mk [] ([] : List ae) false) ([] : List ay)),true)) (
  Option.bind (jp v_ i 21) fun y17 =>
  cond (!y17) (
  none) (
  chk (0 ≤ i ∧ i < ln v_) <|
  Option.bind (oP m ((gi v_ i).a8)) fun y24 =>
  cond y24.2 (
  some ((ay.mk 7 [] 0 y24.1 ([] : List ay)),true)) (
  Option.bind (eC ((gi v_ i).a8)) fun y50 =>
  cond y50.2 (
  some (y50.1,true)) (
  none))))
theorem ur {af : Gh} (M : Av) (m : Nat) (eC : (List ae) → Option (ay × Bool)) (mZ : py eC) (v_ : List ae) (i : Int) (r : ay × Bool) (hm : jX m eC v_ i = some r) (w : World) (hS : S0 M [eI a6 v_ af] w) : Calls Tryz.prog 185 ⟨[vL af v_,vI i]⟩ w (fun e w' => ∃ v,e = .returned v ∧ ∃ (aA : Gh) (cY : Gh),v = .tuple ⟨[.agg ⟨e4 r.1 (gL [aA,cY])⟩,vB r.2]⟩ ∧ SH M (fpl [eI a6 v_ af]) w [eI a6 r.1.az.Value aA,eO 39 ak r.1.a8 cY] w'):=by
 rw [jX] at hm
 have hS0 : SH M (fpl [eI a6 v_ af]) w [eI a6 v_ af] w:=hS
 generalize hX : fpl [eI a6 v_ af] = X at hS0 ⊢
 clear hS hX
 have hS:=hS0
 clear hS0
 refine calls_entryP Tryz.func185 rfl Tryz.ntmps185 rfl fun _ H => ?_
 refine t_in H hS (t_starts ?_)
 refine t_m [] [0] [0,1] [vL af v_,vI i] (fun _ _ H hd => o_alloc [vU 0,vN,vI 0,vN,vO,vF,vO] (z:=vG [vU 0,vN,vI 0,vN,vO,vF,vO]) hd (by kernel_rfl) rfl) fun b1 => ?_
 refine t_b 2 [0,1,4] [vL af v_,vI i,vP b1] [] (t_end (t_seq ?_))
 obtain ⟨y6,hy6,hm⟩:=bindE hm
 refine t_r [0,1,4,12] [vL af v_,vI i,vP b1,vB y6] [kr fun _ hS => h9 (af:=af) _ _ _ _ hy6 _ (s0im s0nil (hS.im 1 rfl))] ?_
 refine t_im hm (fun hm => ?c77) (fun hm => ?_)
 case c77 =>
  refine t_starts ?_
  refine t_b 1 [4,13] [vP b1,vG [vU 8,vN,vI 0,vN,vO,vF,vO]] [] ?_
  refine t_m0 [0] [1] [4] [vP b1] (fun _ _ H10 hd => o_store [vU 8,vN,vI 0,vN,vO,vF,vO] H10 hd rfl rfl (by kernel_rfl) rfl rfl rfl) ?_
  refine t_b 3 [4,5] [vP b1,vT] [] (t_end (t_sel [0] (t_ret ?_)))
  obtain rfl:=someE hm
  refine t_nil 137 a6 ?_
  refine t_frz [0,1] ?_
  refine t_nil 39 ak ?_
  exact fun _ _ H14 hS => retR2 H14 rfl (oneRes_agg rfl (hS.bk 2 rfl) Tryz.underlying39 rfl (by kernel_rfl)) rfl ⟨_,rfl,Gh.nil,Gh.nil,rfl,(hS.sel [1,0] rfl)⟩
 refine t_skip (t_seq ?_)
 obtain ⟨y17,hy17,hm⟩:=bindE hm
 refine t_r [0,1,4,17] [vL af v_,vI i,vP b1,vB (!y17)] [kr fun _ hS => h9 (af:=af) _ _ _ _ hy17 _ (s0im s0nil (hS.im 1 rfl))] ?_
 refine t_i2 hm (fun hm => ?_)
 refine t_skip (t_seq (t_starts ?_))
 obtain ⟨ho20,hm⟩:=chkE hm
 refine t_b 5 [0,1,4,24] [vL af v_,vI i,vP b1,.slice (af.s (i).toNat 0).a (((gi v_ i).a8).length) (af.s (i).toNat 0).c] [ki 1 ho20,kj 1 5 ho20] ?_
 intro _ _ H22 hS
 replace hS:=hS.addIm (dX ((hS.im 1 rfl).el ho20))
 obtain ⟨y24,hy24,hm⟩:=bindE hm
 refine t_in H22 hS ?_
 refine t_c [0] [0,1,2] [0,1,4] [vL af v_,vI i,vP b1] (qE (af:=(af.s (i).toNat 0)) m _ _ hy24) fun g25 => ?_
 refine t_b 9 [0,1,4,26,27] [vL af v_,vI i,vP b1,.agg ⟨e11 y24.1 (gL [g25])⟩,vB y24.2] [] ?_
 refine t_m [] [0,1,2,3] [0,1,4,26,27] [vL af v_,vI i,vP b1,.agg ⟨e11 y24.1 (gL [g25])⟩,vB y24.2] (fun _ _ H30 hd => o_alloc [vN,vO,vF] (z:=vG [vN,vO,vF]) hd (by kernel_rfl) rfl) fun b31 => ?_
 refine t_m0 [0] [1,2,3,4] [0,1,4,6,27] [vL af v_,vI i,vP b1,vP b31,vB y24.2] (fun _ _ H33 hd => o_store (e11 y24.1 (gL [g25])) H33 hd rfl rfl (by kernel_rfl) rfl rfl rfl) ?_
 refine t_b 12 [0,1,4,6,7] [vL af v_,vI i,vP b1,vP b31,vB y24.2] [] (t_end (t_sel [0,1,3,4] ?_))
 refine t_r [0,1,4,6,28] [vL af v_,vI i,vP b1,vP b31,vB y24.2] [] ?_
 refine t_im hm (fun hm => ?c75) (fun hm => ?_)
 case c75 =>
  refine t_starts ?_
  refine t_b 2 [4,30] [vP b1,vG [vU 7,vN,vI 0,vS y24.1.bA,vL g25 y24.1.Value,vB y24.1.bK,vO]] [kE 0 3] ?_
  refine t_m0 [2] [0,1,3] [4] [vP b1] (fun _ _ H41 hd => o_store [vU 7,vN,vI 0,vS y24.1.bA,vL g25 y24.1.Value,vB y24.1.bK,vO] H41 hd rfl rfl (by kernel_rfl) rfl rfl rfl) ?_
  refine t_b 4 [4,5] [vP b1,vT] [] (t_end (t_sel [0,2] (t_ret ?_)))
  obtain rfl:=someE hm
  refine t_nil 39 ak ?_
  exact fun _ _ H45 hS => retR2 H45 rfl (oneRes_agg rfl (hS.bk 1 rfl) Tryz.underlying39 rfl (by kernel_rfl)) rfl ⟨_,rfl,g25,Gh.nil,rfl,(hS.sel [2,0] rfl)⟩
 refine t_skip (t_seq (t_starts ?_))
 refine t_b 5 [4,36] [vP b1,.slice (af.s (i).toNat 0).a (((gi v_ i).a8).length) (af.s (i).toNat 0).c] [ki 3 ho20,kj 3 5 ho20] ?_
 intro _ _ H48 hS
 replace hS:=hS.addIm (dX ((hS.im 3 rfl).el ho20))
 obtain ⟨y50,hy50,hm⟩:=bindE hm
 have hd:=hS.hand [0] [0,1,2,3,4] rfl rfl
 refine m_stp [37,4] [(4,[],vP b1)] H48 rfl rfl rfl rfl (o_callx H48 rfl rfl (⟨Tryz.call117 _,mZ ((af.s (i).toNat 0)) _ _ _ hy50 _ hd⟩ : DoesX _ _ _ _ _)) (fun _ => rfl) fun _ _ v H56 hq => ?_
 obtain ⟨g51,g53,rfl,hq⟩:=hq
 replace hS:=hS.join [0] [0,1,2,3,4] rfl rfl hq
 refine t_in H56 hS ?_
 refine t_b 9 [4,38,39] [vP b1,.agg ⟨e4 y50.1 (gL [g51,g53])⟩,vB y50.2] [] ?_
 refine t_m [] [0,1,2,3,4,5,6] [4,38,39] [vP b1,.agg ⟨e4 y50.1 (gL [g51,g53])⟩,vB y50.2] (fun _ _ H58 hd => o_alloc [vU 0,vN,vI 0,vN,vO,vF,vO] (z:=vG [vU 0,vN,vI 0,vN,vO,vF,vO]) hd (by kernel_rfl) rfl) fun b59 => ?_
 refine t_m0 [0] [1,2,3,4,5,6,7] [4,8,39] [vP b1,vP b59,vB y50.2] (fun _ _ H61 hd => o_store (e4 y50.1 (gL [g51,g53])) H61 hd rfl rfl (by kernel_rfl) rfl rfl rfl) ?_
 refine t_b 12 [4,8,9] [vP b1,vP b59,vB y50.2] [] (t_end (t_sel [0,1,2,6] ?_))
 refine t_r [4,8,40] [vP b1,vP b59,vB y50.2] [] ?_
 refine t_im hm (fun hm => ?_) (fun hm => ?c74)
 case c74 =>
  refine t_skip ?_
  intro _ _ H67 hS
  exact noneE hm
 refine t_starts ?_
 refine t_b 1 [4,41] [vP b1,.agg ⟨e4 y50.1 (gL [g51,g53])⟩] [kE 0 7] ?_
 refine t_m0 [3] [0,1,2] [4] [vP b1] (fun _ _ H69 hd => o_store (e4 y50.1 (gL [g51,g53])) H69 hd rfl rfl (by kernel_rfl) rfl rfl rfl) ?_
 refine t_b 3 [4,5] [vP b1,vT] [] (t_end (t_sel [0,2,3] (t_ret ?_)))
 obtain rfl:=someE hm
 exact fun _ _ H73 hS => retR2 H73 rfl (oneRes_agg rfl (hS.bk 0 rfl) Tryz.underlying39 rfl (by kernel_rfl)) rfl ⟨_,rfl,g51,g53,rfl,(hS.sel [1,2] rfl)⟩
theorem mQ {af : Gh} (m : Nat) (eC : (List ae) → Option (ay × Bool)) (mZ : py eC) (v_ : List ae) (i : Int) (r : ay × Bool) (hm : jX m eC v_ i = some r) (M : Av) (w : World) (hS : S0 M [eI a6 v_ af] w) : DoesX Tryz.prog 185 ⟨[vL af v_,vI i]⟩ w (fun v w' => ∃ (aA : Gh) (cY : Gh),v = .tuple ⟨[.agg ⟨e4 r.1 (gL [aA,cY])⟩,vB r.2]⟩ ∧ SH M (fpl [eI a6 v_ af]) w [eI a6 r.1.az.Value aA,eO 39 ak r.1.a8 cY] w'):=⟨Tryz.call185 _,ur M m eC mZ v_ i r hm w hS⟩
def mt (m : Nat) (y8 : List ae) (eC : (List ae) → Option (ay × Bool)) : Nat → Int → (List ay) → Option (List ay)
  | 0,_,_ => none
  | kk + 1,v99,sV =>
    cond (decide (v99 < (ln y8))) (
    Option.bind (f4 m y8 v99) fun y104 =>
    Option.bind (cond (y104 == v99) (some default) (ia m y8 y104 [97,110,100])) fun y107 =>
    Option.bind (cond (cond (y104 == v99) true (!y107)) (some default) (ia m y8 y104 [111,114])) fun y108 =>
    lt (cond (cond (y104 == v99) true (!y107)) true false) fun x109 =>
    cond x109 (
    none) (
    Option.bind (f4 m y8 (w64 (y104 + 1))) fun y112 =>
    Option.bind (jX m eC y8 y112) fun y117 =>
    lt (cond (!y117.2) true (y112 == (w64 (y104 + 1)))) fun x133 =>
    cond x133 (
    none) (
    chk (ln sV + ln ([y117.1] : List ay) ≤ 137438953472) <|
    lt (sV ++ ([y117.1] : List ay)) fun q143 =>
    mt m y8 eC kk (w64 (y112 + 1)) q143))) (
    some sV)
def iQ (m : Nat) : Nat → (List ae) → Option (ay × Bool)
  | 0,_ => none
  | k + 1,v_ =>
    Option.bind (eg m v_) fun y8 =>
    Option.bind (ia m y8 0 [110,111,116]) fun y15 =>
    cond y15 (
    Option.bind (f4 m y8 1) fun y18 =>
    Option.bind (jX m (iQ m k) y8 y18) fun y23 =>
    lt (cond (cond y23.2 (decide (1 < y18)) false) ((w64 (y18 + 1)) == (ln y8)) false) fun x45 =>
    some ((ay.mk 3 [] 0 (bD.mk [] ([] : List ae) false) ([y23.1] : List ay)),x45)) (
    Option.bind (jX m (iQ m k) y8 0) fun y55 =>
    cond (cond (!y55.2) true ((ln y8) == 1)) (
    some (y55.1,y55.2)) (
    Option.bind (f4 m y8 1) fun y92 =>
    Option.bind (ia m y8 y92 [111,114]) fun y93 =>
    cond y93 (
    none) (
    Option.bind (
    mt m y8 (iQ m k) m 1 ([y55.1] : List ay)) fun (z96 : List ay) =>
    some ((ay.mk 1 [] 0 (bD.mk [] ([] : List ae) false) z96),true))))
end Go.Proofs.YtebkjhhhdgbloaaGreatDoor
