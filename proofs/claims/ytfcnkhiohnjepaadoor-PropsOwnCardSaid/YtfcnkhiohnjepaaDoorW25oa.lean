/-
  What the Go functions compute, as Lean functions, and that a call returns just that. Printed by a program.
-/
import Derived.Test.YtfcnkhiohnjepaaDoorRows
import Derived.Test.YtfcnkhiohnjepaaDoorD
set_option linter.unusedVariables false
set_option maxRecDepth 20000
set_option maxHeartbeats 4000000
namespace Go.Proofs.YtfcnkhiohnjepaaDoor
open Go.V Go.RowKit

def gl_strings_asciiSpace : List Int := [0, 0, 0, 0, 0, 0, 0, 0, 0, 1, 1, 1, 1, 1, 0, 0, 0, 0, 0, 0, 0, 0, 0, 0, 0, 0, 0, 0, 0, 0, 0, 0, 1, 0, 0, 0, 0, 0, 0, 0, 0, 0, 0, 0, 0, 0, 0, 0, 0, 0, 0, 0, 0, 0, 0, 0, 0, 0, 0, 0, 0, 0, 0, 0, 0, 0, 0, 0, 0, 0, 0, 0, 0, 0, 0, 0, 0, 0, 0, 0, 0, 0, 0, 0, 0, 0, 0, 0, 0, 0, 0, 0, 0, 0, 0, 0, 0, 0, 0, 0, 0, 0, 0, 0, 0, 0, 0, 0, 0, 0, 0, 0, 0, 0, 0, 0, 0, 0, 0, 0, 0, 0, 0, 0, 0, 0, 0, 0, 0, 0, 0, 0, 0, 0, 0, 0, 0, 0, 0, 0, 0, 0, 0, 0, 0, 0, 0, 0, 0, 0, 0, 0, 0, 0, 0, 0, 0, 0, 0, 0, 0, 0, 0, 0, 0, 0, 0, 0, 0, 0, 0, 0, 0, 0, 0, 0, 0, 0, 0, 0, 0, 0, 0, 0, 0, 0, 0, 0, 0, 0, 0, 0, 0, 0, 0, 0, 0, 0, 0, 0, 0, 0, 0, 0, 0, 0, 0, 0, 0, 0, 0, 0, 0, 0, 0, 0, 0, 0, 0, 0, 0, 0, 0, 0, 0, 0, 0, 0, 0, 0, 0, 0, 0, 0, 0, 0, 0, 0, 0, 0, 0, 0, 0, 0, 0, 0, 0, 0, 0, 0, 0, 0, 0, 0, 0, 0]
structure TColor where
  Red : Int
  Green : Int
  Blue : Int
  Alpha : Int
instance : Inhabited TColor := ⟨⟨default, default, default, default⟩⟩
def tyColor : Ty TColor where
  z := 4
  enc := fun x g => [.int .u8 x.Red, .int .u8 x.Green, .int .u8 x.Blue, .int .u8 x.Alpha]
  inn := fun _ _ _ _ => True
  len := fun _ _ => rfl
  one := fun _ _ => rfl
  kp := fun _ _ _ => trivial
  anti := fun _ _ => trivial
  fresh := fun _ => trivial
structure TVal where
  Kind : Int
  Word : Str
  Num : Int
  Color : TColor
instance : Inhabited TVal := ⟨⟨default, default, default, default⟩⟩
def tyVal : Ty TVal where
  z := 7
  enc := fun x g => [.int .u8 x.Kind, .string ⟨⟨x.Word⟩⟩, .int .i64 x.Num, .int .u8 x.Color.Red, .int .u8 x.Color.Green, .int .u8 x.Color.Blue, .int .u8 x.Color.Alpha]
  inn := fun _ _ _ _ => True
  len := fun _ _ => rfl
  one := fun _ _ => rfl
  kp := fun _ _ _ => trivial
  anti := fun _ _ => trivial
  fresh := fun _ => trivial
def props_word (s : Str) : TVal :=
  (TVal.mk 1 s 0 (TColor.mk 0 0 0 0))
theorem props_word_w  (M : Av) (s : Str) (r : TVal) (hm : props_word s = r) (w : World) (hS : S0 M [] w) : Calls Tryd.prog 31 ⟨[.string ⟨⟨s⟩⟩]⟩ w (fun e w' => ∃ v, e = .returned v ∧ v = .agg ⟨[.int .u8 r.Kind, .string ⟨⟨r.Word⟩⟩, .int .i64 r.Num, .int .u8 r.Color.Red, .int .u8 r.Color.Green, .int .u8 r.Color.Blue, .int .u8 r.Color.Alpha]⟩ ∧ SH M (fpl []) w [] w') := by
 rw [props_word] at hm
 have hS0 : SH M (fpl []) w [] w := hS
 generalize hX : fpl [] = X at hS0 ⊢
 clear hS hX
 have hS := hS0
 clear hS0
 refine calls_entryP Tryd.func31 rfl Tryd.ntmps31 rfl fun _ H => ?_
 refine w_seq ?_
 refine wl_start ?_
 have hd := hS.hand [] [] rfl rfl
 refine m_stp [2, 0] [(0, [], .string ⟨⟨s⟩⟩)] H rfl rfl rfl rfl (o_alloc [.int .u8 0, .string ⟨⟨[]⟩⟩, .int .i64 0, .int .u8 0, .int .u8 0, .int .u8 0, .int .u8 0] (z := .agg ⟨[.int .u8 0, .string ⟨⟨[]⟩⟩, .int .i64 0, .int .u8 0, .int .u8 0, .int .u8 0, .int .u8 0]⟩) hd (by kernel_rfl) rfl) (fun _ => rfl) fun _ wd2 v H3 hq => ?_
 clear H hd
 obtain ⟨b1, rfl, hq⟩ := hq
 replace hS : SH M X w [Ent.blk b1 [.int .u8 0, .string ⟨⟨[]⟩⟩, .int .i64 0, .int .u8 0, .int .u8 0, .int .u8 0, .int .u8 0]] _ := hS.join [] [] rfl rfl hq
 clear hq
 refine wl_end rfl ?_
 refine w_seq ?_
 refine wl_start ?_
 refine wl_batch 0 2 [] [2, 4] [(2, [], .pointer (some ⟨b1, 0, none⟩)), (4, [], .agg ⟨[.int .u8 1, .string ⟨⟨s⟩⟩, .int .i64 0, .int .u8 0, .int .u8 0, .int .u8 0, .int .u8 0]⟩)] [] H3 (by decide) (by kernel_rfl) trivial fun _ wd4 H5 hb => ?_
 clear H3
 replace hS := hS.below hb
 clear hb
 have hd := hS.hand [0] [] rfl rfl
 refine m_stp0 [2] [(2, [], .pointer (some ⟨b1, 0, none⟩))] H5 rfl rfl rfl (o_store [.int .u8 1, .string ⟨⟨s⟩⟩, .int .i64 0, .int .u8 0, .int .u8 0, .int .u8 0, .int .u8 0] H5 hd rfl rfl (by kernel_rfl) rfl rfl rfl) rfl fun _ wd6 H7 hq => ?_
 clear H5 hd
 obtain ⟨_, hq⟩ := hq
 replace hS : SH M X w [Ent.blk b1 [.int .u8 1, .string ⟨⟨s⟩⟩, .int .i64 0, .int .u8 0, .int .u8 0, .int .u8 0, .int .u8 0]] _ := hS.join [0] [] rfl rfl hq
 clear hq
 refine wl_end rfl ?_
 refine w_ret ?_
 subst hm
 exact retR1 H7 rfl (oneRes_agg rfl (hS.bk 0 rfl) Tryd.underlying25 rfl (by kernel_rfl)) ⟨_, rfl, rfl, (hS.sel [] rfl)⟩
theorem props_word_ok  (s : Str) : Ret Tryd.prog 31 ⟨[.string ⟨⟨s⟩⟩]⟩ (.agg ⟨[.int .u8 (props_word s).Kind, .string ⟨⟨(props_word s).Word⟩⟩, .int .i64 (props_word s).Num, .int .u8 (props_word s).Color.Red, .int .u8 (props_word s).Color.Green, .int .u8 (props_word s).Color.Blue, .int .u8 (props_word s).Color.Alpha]⟩) := retP_of (Tryd.call31 _) (fun w h => props_word_w F0   s _ rfl w h)

structure TProp where
  Name : Str
  Inherited : Bool
  Initial : TVal
  Words : List Str
  Kinds : List Int
  Least : Bool
instance : Inhabited TProp := ⟨⟨default, default, default, default, default, default⟩⟩
def tyProp : Ty TProp where
  z := 12
  enc := fun x g => [.string ⟨⟨x.Name⟩⟩, .bool x.Inherited, .int .u8 x.Initial.Kind, .string ⟨⟨x.Initial.Word⟩⟩, .int .i64 x.Initial.Num, .int .u8 x.Initial.Color.Red, .int .u8 x.Initial.Color.Green, .int .u8 x.Initial.Color.Blue, .int .u8 x.Initial.Color.Alpha, .slice (g 0).a x.Words.length (g 0).c, .slice (g 1).a x.Kinds.length (g 1).c, .bool x.Least]
  inn := fun M w x g => SlG tS M w x.Words (g 0) ∧ SlG (tI .u8) M w x.Kinds (g 1) ∧ True
  len := fun _ _ => rfl
  one := fun _ _ => rfl
  kp := fun h k hX => ⟨h.1.kp k hX, h.2.1.kp k hX, trivial⟩
  anti := fun h hM => ⟨h.1.anti hM, h.2.1.anti hM, trivial⟩
  fresh := fun h => ⟨h.1.fresh, h.2.1.fresh, trivial⟩
theorem tyProp_i0 {M : Av} {w : World} {x : TProp} {g : Nat → Gh} (h : tyProp.inn M w x g) : SlG tS M w x.Words (g 0) := (show SlG tS M w x.Words (g 0) ∧ SlG (tI .u8) M w x.Kinds (g 1) ∧ True from h).1
theorem tyProp_i1 {M : Av} {w : World} {x : TProp} {g : Nat → Gh} (h : tyProp.inn M w x g) : SlG (tI .u8) M w x.Kinds (g 1) := (show SlG tS M w x.Words (g 0) ∧ SlG (tI .u8) M w x.Kinds (g 1) ∧ True from h).2.1
theorem tyProp_mk {M : Av} {w : World} {x : TProp} {g : Nat → Gh} (h0 : SlG tS M w x.Words (g 0)) (h1 : SlG (tI .u8) M w x.Kinds (g 1)) : tyProp.inn M w x g := show SlG tS M w x.Words (g 0) ∧ SlG (tI .u8) M w x.Kinds (g 1) ∧ True from ⟨h0, h1, trivial⟩
def props_color (name_ : Str) (inherited : Bool) (first : TVal) : TProp :=
  (TProp.mk name_ inherited first ([] : List Str) ([7, 8] : List Int) false)
theorem props_color_w  (M : Av) (name_ : Str) (inherited : Bool) (first : TVal) (r : TProp) (hm : props_color name_ inherited first = r) (w : World) (hS : S0 M [] w) : Calls Tryd.prog 32 ⟨[.string ⟨⟨name_⟩⟩, .bool inherited, .agg ⟨[.int .u8 first.Kind, .string ⟨⟨first.Word⟩⟩, .int .i64 first.Num, .int .u8 first.Color.Red, .int .u8 first.Color.Green, .int .u8 first.Color.Blue, .int .u8 first.Color.Alpha]⟩]⟩ w (fun e w' => ∃ v, e = .returned v ∧ ∃ (g901 : Gh) (g903 : Gh), v = .agg ⟨[.string ⟨⟨r.Name⟩⟩, .bool r.Inherited, .int .u8 r.Initial.Kind, .string ⟨⟨r.Initial.Word⟩⟩, .int .i64 r.Initial.Num, .int .u8 r.Initial.Color.Red, .int .u8 r.Initial.Color.Green, .int .u8 r.Initial.Color.Blue, .int .u8 r.Initial.Color.Alpha, .slice g901.a r.Words.length g901.c, .slice g903.a r.Kinds.length g903.c, .bool r.Least]⟩ ∧ SH M (fpl []) w [Ent.own 9 tS r.Words g901, Ent.own 5 (tI .u8) r.Kinds g903] w') := by
 rw [props_color] at hm
 have hS0 : SH M (fpl []) w [] w := hS
 generalize hX : fpl [] = X at hS0 ⊢
 clear hS hX
 have hS := hS0
 clear hS0
 refine calls_entryP Tryd.func32 rfl Tryd.ntmps32 rfl fun _ H => ?_
 refine w_seq ?_
 refine wl_start ?_
 have hd := hS.hand [] [] rfl rfl
 refine m_stp [5, 0, 1] [(0, [], .string ⟨⟨name_⟩⟩), (1, [], .bool inherited)] H rfl rfl rfl rfl (o_box [.int .u8 first.Kind, .string ⟨⟨first.Word⟩⟩, .int .i64 first.Num, .int .u8 first.Color.Red, .int .u8 first.Color.Green, .int .u8 first.Color.Blue, .int .u8 first.Color.Alpha] H hd rfl rfl) (fun _ => rfl) fun _ wd2 v H3 hq => ?_
 clear H hd
 obtain ⟨b1, rfl, hq⟩ := hq
 replace hS : SH M X w [Ent.blk b1 [.int .u8 first.Kind, .string ⟨⟨first.Word⟩⟩, .int .i64 first.Num, .int .u8 first.Color.Red, .int .u8 first.Color.Green, .int .u8 first.Color.Blue, .int .u8 first.Color.Alpha]] _ := hS.join [] [] rfl rfl hq
 clear hq
 have hd := hS.hand [] [0] rfl rfl
 refine m_stp [6, 0, 1, 5] [(0, [], .string ⟨⟨name_⟩⟩), (1, [], .bool inherited), (5, [], .pointer (some ⟨b1, 0, none⟩))] H3 rfl rfl rfl rfl (o_alloc [.string ⟨⟨[]⟩⟩, .bool false, .int .u8 0, .string ⟨⟨[]⟩⟩, .int .i64 0, .int .u8 0, .int .u8 0, .int .u8 0, .int .u8 0, .slice none 0 0, .slice none 0 0, .bool false] (z := .agg ⟨[.string ⟨⟨[]⟩⟩, .bool false, .int .u8 0, .string ⟨⟨[]⟩⟩, .int .i64 0, .int .u8 0, .int .u8 0, .int .u8 0, .int .u8 0, .slice none 0 0, .slice none 0 0, .bool false]⟩) hd (by kernel_rfl) rfl) (fun _ => rfl) fun _ wd5 v H6 hq => ?_
 clear H3 hd
 obtain ⟨b4, rfl, hq⟩ := hq
 replace hS : SH M X w [Ent.blk b4 [.string ⟨⟨[]⟩⟩, .bool false, .int .u8 0, .string ⟨⟨[]⟩⟩, .int .i64 0, .int .u8 0, .int .u8 0, .int .u8 0, .int .u8 0, .slice none 0 0, .slice none 0 0, .bool false], Ent.blk b1 [.int .u8 first.Kind, .string ⟨⟨first.Word⟩⟩, .int .i64 first.Num, .int .u8 first.Color.Red, .int .u8 first.Color.Green, .int .u8 first.Color.Blue, .int .u8 first.Color.Alpha]] _ := hS.join [] [0] rfl rfl hq
 clear hq
 refine wl_end rfl ?_
 refine w_seq ?_
 refine wl_start ?_
 refine wl_batch 0 3 [(.agg ⟨[.int .u8 first.Kind, .string ⟨⟨first.Word⟩⟩, .int .i64 first.Num, .int .u8 first.Color.Red, .int .u8 first.Color.Green, .int .u8 first.Color.Blue, .int .u8 first.Color.Alpha]⟩)] [6, 7, 8, 9] [(6, [], .pointer (some ⟨b4, 0, none⟩)), (7, [], .string ⟨⟨name_⟩⟩), (8, [], .bool inherited), (9, [], .agg ⟨[.int .u8 first.Kind, .string ⟨⟨first.Word⟩⟩, .int .i64 first.Num, .int .u8 first.Color.Red, .int .u8 first.Color.Green, .int .u8 first.Color.Blue, .int .u8 first.Color.Alpha]⟩)] [fun wz => V.atN b1 0 [.int .u8 first.Kind, .string ⟨⟨first.Word⟩⟩, .int .i64 first.Num, .int .u8 first.Color.Red, .int .u8 first.Color.Green, .int .u8 first.Color.Blue, .int .u8 first.Color.Alpha] 0 wz] H6 (by decide) (by kernel_rfl) ⟨((hS.bk 1 rfl).atD rfl), trivial⟩ fun _ wd7 H8 hb => ?_
 clear H6
 replace hS := hS.below hb
 clear hb
 have hd := hS.hand [] [0, 1] rfl rfl
 refine m_stp [10, 6, 7, 8, 9] [(6, [], .pointer (some ⟨b4, 0, none⟩)), (7, [], .string ⟨⟨name_⟩⟩), (8, [], .bool inherited), (9, [], .agg ⟨[.int .u8 first.Kind, .string ⟨⟨first.Word⟩⟩, .int .i64 first.Num, .int .u8 first.Color.Red, .int .u8 first.Color.Green, .int .u8 first.Color.Blue, .int .u8 first.Color.Alpha]⟩)] H8 rfl rfl rfl rfl (o_lit (T := (tI .u8)) (E := 5) (zv := .int .u8 0) [.int .u8 7, .int .u8 8] ([7, 8] : List Int) [gL [], gL []] _ H8 hd rfl (by kernel_rfl) (by kernel_rfl) (by kernel_rfl) (by kernel_rfl) (by kernel_rfl) (by kernel_rfl) (by kernel_rfl) rfl (InnL.cons trivial (InnL.cons trivial InnL.nil))) (fun _ => rfl) fun _ wd11 v H12 hq => ?_
 clear H8 hd
 obtain ⟨g9, rfl, hq⟩ := hq
 replace hS : SH M X w [Ent.own 5 (tI .u8) ([7, 8] : List Int) g9, Ent.blk b4 [.string ⟨⟨[]⟩⟩, .bool false, .int .u8 0, .string ⟨⟨[]⟩⟩, .int .i64 0, .int .u8 0, .int .u8 0, .int .u8 0, .int .u8 0, .slice none 0 0, .slice none 0 0, .bool false], Ent.blk b1 [.int .u8 first.Kind, .string ⟨⟨first.Word⟩⟩, .int .i64 first.Num, .int .u8 first.Color.Red, .int .u8 first.Color.Green, .int .u8 first.Color.Blue, .int .u8 first.Color.Alpha]] _ := hS.join [] [0, 1] rfl rfl hq
 clear hq
 refine wl_batch 4 5 [] [6, 11] [(6, [], .pointer (some ⟨b4, 0, none⟩)), (11, [], .agg ⟨[.string ⟨⟨name_⟩⟩, .bool inherited, .int .u8 first.Kind, .string ⟨⟨first.Word⟩⟩, .int .i64 first.Num, .int .u8 first.Color.Red, .int .u8 first.Color.Green, .int .u8 first.Color.Blue, .int .u8 first.Color.Alpha, .slice none 0 0, .slice g9.a 2 g9.c, .bool false]⟩)] [] H12 (by decide) (by kernel_rfl) trivial fun _ wd13 H14 hb => ?_
 clear H12
 replace hS := hS.below hb
 clear hb
 have hd := hS.hand [1] [0, 2] rfl rfl
 refine m_stp0 [6] [(6, [], .pointer (some ⟨b4, 0, none⟩))] H14 rfl rfl rfl (o_store [.string ⟨⟨name_⟩⟩, .bool inherited, .int .u8 first.Kind, .string ⟨⟨first.Word⟩⟩, .int .i64 first.Num, .int .u8 first.Color.Red, .int .u8 first.Color.Green, .int .u8 first.Color.Blue, .int .u8 first.Color.Alpha, .slice none 0 0, .slice g9.a 2 g9.c, .bool false] H14 hd rfl rfl (by kernel_rfl) rfl rfl rfl) rfl fun _ wd15 H16 hq => ?_
 clear H14 hd
 obtain ⟨_, hq⟩ := hq
 replace hS : SH M X w [Ent.blk b4 [.string ⟨⟨name_⟩⟩, .bool inherited, .int .u8 first.Kind, .string ⟨⟨first.Word⟩⟩, .int .i64 first.Num, .int .u8 first.Color.Red, .int .u8 first.Color.Green, .int .u8 first.Color.Blue, .int .u8 first.Color.Alpha, .slice none 0 0, .slice g9.a 2 g9.c, .bool false], Ent.own 5 (tI .u8) ([7, 8] : List Int) g9, Ent.blk b1 [.int .u8 first.Kind, .string ⟨⟨first.Word⟩⟩, .int .i64 first.Num, .int .u8 first.Color.Red, .int .u8 first.Color.Green, .int .u8 first.Color.Blue, .int .u8 first.Color.Alpha]] _ := hS.join [1] [0, 2] rfl rfl hq
 clear hq
 refine wl_end rfl ?_
 replace hS : SH M X w [Ent.blk b4 [.string ⟨⟨name_⟩⟩, .bool inherited, .int .u8 first.Kind, .string ⟨⟨first.Word⟩⟩, .int .i64 first.Num, .int .u8 first.Color.Red, .int .u8 first.Color.Green, .int .u8 first.Color.Blue, .int .u8 first.Color.Alpha, .slice none 0 0, .slice g9.a 2 g9.c, .bool false], Ent.own 5 (tI .u8) ([7, 8] : List Int) g9] _ := hS.sel [0, 1] rfl
 refine w_ret ?_
 subst hm
 replace hS : SH M X w [Ent.own 9 tS ([] : List Str) (.nil), Ent.blk b4 [.string ⟨⟨name_⟩⟩, .bool inherited, .int .u8 first.Kind, .string ⟨⟨first.Word⟩⟩, .int .i64 first.Num, .int .u8 first.Color.Red, .int .u8 first.Color.Green, .int .u8 first.Color.Blue, .int .u8 first.Color.Alpha, .slice none 0 0, .slice g9.a 2 g9.c, .bool false], Ent.own 5 (tI .u8) ([7, 8] : List Int) g9] _ := hS.addNil 9 tS
 exact retR1 H16 rfl (oneRes_agg rfl (hS.bk 1 rfl) Tryd.underlying51 rfl (by kernel_rfl)) ⟨_, rfl, Gh.nil, g9, rfl, (hS.sel [0, 2] rfl)⟩
theorem props_color_ok  (name_ : Str) (inherited : Bool) (first : TVal) (r : TProp) (hm : props_color name_ inherited first = r) (M : Av) (w : World) (hS : S0 M [] w) : DoesX Tryd.prog 32 ⟨[.string ⟨⟨name_⟩⟩, .bool inherited, .agg ⟨[.int .u8 first.Kind, .string ⟨⟨first.Word⟩⟩, .int .i64 first.Num, .int .u8 first.Color.Red, .int .u8 first.Color.Green, .int .u8 first.Color.Blue, .int .u8 first.Color.Alpha]⟩]⟩ w (fun v w' => ∃ (g901 : Gh) (g903 : Gh), v = .agg ⟨[.string ⟨⟨r.Name⟩⟩, .bool r.Inherited, .int .u8 r.Initial.Kind, .string ⟨⟨r.Initial.Word⟩⟩, .int .i64 r.Initial.Num, .int .u8 r.Initial.Color.Red, .int .u8 r.Initial.Color.Green, .int .u8 r.Initial.Color.Blue, .int .u8 r.Initial.Color.Alpha, .slice g901.a r.Words.length g901.c, .slice g903.a r.Kinds.length g903.c, .bool r.Least]⟩ ∧ SH M (fpl []) w [Ent.own 9 tS r.Words g901, Ent.own 5 (tI .u8) r.Kinds g903] w') := ⟨Tryd.call32 _, props_color_w M   name_ inherited first r hm w hS⟩

abbrev gE0 : Ent := Ent.im (tI .u8) gl_strings_asciiSpace (Gh.mk (some ⟨0, 0, none⟩) 256 fun _ _ => .nil)
structure Tstrings_span where
  start : Int
  end_ : Int
instance : Inhabited Tstrings_span := ⟨⟨default, default⟩⟩
def tystrings_span : Ty Tstrings_span where
  z := 2
  enc := fun x g => [.int .i64 x.start, .int .i64 x.end_]
  inn := fun _ _ _ _ => True
  len := fun _ _ => rfl
  one := fun _ _ => rfl
  kp := fun _ _ _ => trivial
  anti := fun _ _ => trivial
  fresh := fun _ => trivial
def strings_Fields_L1 (m : Nat) (s : Str) : Nat → Int → Int → Int → Int → Option (Int × Int)
  | 0, _, _, _, _ => none
  | kk + 1, v12, v13, v14, v15 =>
    cond (decide (v15 < (ln s))) (
    chk (0 ≤ v15 ∧ v15 < ln s) <|
    chk (0 ≤ (bat s v15) ∧ (bat s v15) < (256 : Int)) <|
    lt (w64 (gi gl_strings_asciiSpace (bat s v15))) fun x24 =>
    lt (ibit .and .i64 v13 (ibit .xor .i64 (-1) x24)) fun x27 =>
    strings_Fields_L1 m s kk (w64 (v12 + x27)) x24 (ibit .or .u8 v14 (bat s v15)) (w64 (v15 + 1))) (
    some (v12, v14))
def strings_Fields_L2 (m : Nat) (s : Str) : Nat → Int → Option (Int)
  | 0, _ => none
  | kk + 1, v55 =>
    chk ((decide (v55 < (ln s))) = true → 0 ≤ v55 ∧ v55 < ln s) <|
    chk ((decide (v55 < (ln s))) = true → 0 ≤ (bat s v55) ∧ (bat s v55) < (256 : Int)) <|
    lt (cond (decide (v55 < (ln s))) ((gi gl_strings_asciiSpace (bat s v55)) != 0) false) fun x58 =>
    cond x58 (
    strings_Fields_L2 m s kk (w64 (v55 + 1))) (
    some v55)
def strings_Fields_L4 (m : Nat) (s : Str) : Nat → Int → Option (Int)
  | 0, _ => none
  | kk + 1, v95 =>
    chk ((decide (v95 < (ln s))) = true → 0 ≤ v95 ∧ v95 < ln s) <|
    chk ((decide (v95 < (ln s))) = true → 0 ≤ (bat s v95) ∧ (bat s v95) < (256 : Int)) <|
    lt (cond (decide (v95 < (ln s))) ((gi gl_strings_asciiSpace (bat s v95)) != 0) false) fun x98 =>
    cond x98 (
    strings_Fields_L4 m s kk (w64 (v95 + 1))) (
    some v95)
def strings_Fields_L3 (m : Nat) (s : Str) : Nat → (List Str) → Int → Int → Int → Option (Int × Int × (List Str))
  | 0, _, _, _, _ => none
  | kk + 1, v68, v70, v71, v72 =>
    cond (decide (v72 < (ln s))) (
    chk (0 ≤ v72 ∧ v72 < ln s) <|
    chk (0 ≤ (bat s v72) ∧ (bat s v72) < (256 : Int)) <|
    lt ((gi gl_strings_asciiSpace (bat s v72)) == 0) fun x77 =>
    cond x77 (
    strings_Fields_L3 m s kk v68 v70 v71 (w64 (v72 + 1))) (
    chk (0 ≤ v71 ∧ v71 ≤ v72 ∧ v72 ≤ ln s) <|
    chk (0 ≤ v70 ∧ v70 < ln v68) <|
    lt (setl v68 v70 (sub s v71 v72)) fun q89 =>
    Option.bind (
    strings_Fields_L4 m s m (w64 (v72 + 1))) fun (z94 : Int) =>
    strings_Fields_L3 m s kk q89 (w64 (v70 + 1)) z94 z94)) (
    some (v70, v71, v68))
def strings_Fields (m : Nat) (s : Str) : Option (List Str) :=
  Option.bind (
  strings_Fields_L1 m s m 0 1 0 0) fun (z9 : Int × Int) =>
  cond (decide (128 ≤ z9.2)) (
  none) (
  chk (0 ≤ z9.1 ∧ z9.1 ≤ z9.1 ∧ z9.1 ≤ 1099511627776) <|
  lt (List.replicate (z9.1).toNat ([] : Str)) fun q41 =>
  Option.bind (
  strings_Fields_L2 m s m 0) fun (z54 : Int) =>
  Option.bind (
  strings_Fields_L3 m s m q41 0 z54 z54) fun (z67 : Int × Int × (List Str)) =>
  Option.bind (
  cond (decide (z67.2.1 < (ln s))) (
  chk (0 ≤ z67.2.1 ∧ z67.2.1 ≤ ln s) <|
  chk (0 ≤ z67.1 ∧ z67.1 < ln z67.2.2) <|
  lt (setl z67.2.2 z67.1 (sub s z67.2.1 (ln s))) fun q122 =>
  some q122) (
  some z67.2.2)) fun (z112 : List Str) =>
  some z112)
theorem strings_Fields_w  (M : Av) (m : Nat) (s : Str) (r : List Str) (hm : strings_Fields m s = some r) (w : World) (hS : S0 M [gE0] w) : Calls Tryd.prog 40 ⟨[.string ⟨⟨s⟩⟩]⟩ w (fun e w' => ∃ v, e = .returned v ∧ ∃ (g901 : Gh), v = .slice g901.a r.length g901.c ∧ SH M (fpl [gE0]) w [Ent.own 9 tS r g901] w') := by
 rw [strings_Fields] at hm
 have hS0 : SH M (fpl [gE0]) w [gE0] w := hS
 generalize hX : fpl [gE0] = X at hS0 ⊢
 clear hS hX
 have hS := hS0
 clear hS0
 refine calls_entryP Tryd.func40 rfl Tryd.ntmps40 rfl fun _ H => ?_
 refine s_reg [] [0] [(0, [], .string ⟨⟨s⟩⟩)] [] H (by kernel_rfl) trivial fun _ wd1 H2 hb => ?_
 clear H
 replace hS := hS.below hb
 clear hb
 refine s_reg [] [0, 3] [(0, [], .string ⟨⟨s⟩⟩), (3, [], .int .i64 0)] [] H2 (by kernel_rfl) trivial fun _ wd3 H4 hb => ?_
 clear H2
 replace hS := hS.below hb
 clear hb
 refine s_reg [] [0, 3, 4] [(0, [], .string ⟨⟨s⟩⟩), (3, [], .int .i64 0), (4, [], .int .i64 1)] [] H4 (by kernel_rfl) trivial fun _ wd5 H6 hb => ?_
 clear H4
 replace hS := hS.below hb
 clear hb
 refine s_reg [] [0, 3, 4, 5] [(0, [], .string ⟨⟨s⟩⟩), (3, [], .int .i64 0), (4, [], .int .i64 1), (5, [], .int .u8 0)] [] H6 (by kernel_rfl) trivial fun _ wd7 H8 hb => ?_
 clear H6
 replace hS := hS.below hb
 clear hb
 obtain ⟨z9, hz, hm⟩ := bindE hm
 refine w_cut (fun a' w' => Fr 106 [(0, [], .string ⟨⟨s⟩⟩), (3, [], .int .i64 z9.1), (5, [], .int .u8 z9.2)] a' ∧ SH M X w [gE0] w') ?_ ?_
 ·replace hm := hz
  refine s_reg [] [0, 3, 4, 5, 6] [(0, [], .string ⟨⟨s⟩⟩), (3, [], .int .i64 0), (4, [], .int .i64 1), (5, [], .int .u8 0), (6, [], .int .i64 0)] [] H8 (by kernel_rfl) trivial fun _ wd10 H11 hb => ?_
  clear H8
  replace hS := hS.below hb
  clear hb
  refine w_block ?_
  refine w_loop (fun kk a' w' => ∃ (v12 : Int) (v13 : Int) (v14 : Int) (v15 : Int), strings_Fields_L1 m s kk v12 v13 v14 v15 = some _ ∧ Fr 106 [(0, [], .string ⟨⟨s⟩⟩), (3, [], .int .i64 v12), (4, [], .int .i64 v13), (5, [], .int .u8 v14), (6, [], .int .i64 v15)] a' ∧ SH M X w [gE0] w') ⟨_, 0, 1, 0, 0, hm, FrG.keep (ks := [0, 3, 4, 5, 6]) H11 (by kernel_rfl), hS⟩ ?_
  clear hm H11 hS
  rintro kk _ wd35 ⟨v12, v13, v14, v15, hm, H, hS⟩
  cases kk with
  | zero => exact noneE hm
  | succ kk =>
   rw [strings_Fields_L1] at hm
   refine w_seq ?_
   refine s_reg [] [0, 3, 4, 5, 6, 16] [(0, [], .string ⟨⟨s⟩⟩), (3, [], .int .i64 v12), (4, [], .int .i64 v13), (5, [], .int .u8 v14), (6, [], .int .i64 v15), (16, [], .bool (decide (v15 < (ln s))))] [] H (by kernel_rfl) trivial fun _ wd16 H17 hb => ?_
   clear H
   replace hS := hS.below hb
   clear hb
   refine w_if H17 rfl (fun hc => ?_) (fun hc => ?c34)
   case c34 =>
    replace hm := bF hc hm
    refine w_exit rfl ?_
    obtain rfl := someE hm
    exact ⟨FrG.keep (ks := [0, 3, 5]) H17 (by kernel_rfl), hS⟩
   replace hm := bT hc hm
   refine w_skip ?_
   refine w_seq ?_
   refine w_block ?_
   obtain ⟨ho18, hm⟩ := chkE hm
   refine s_reg [] [0, 3, 4, 5, 6, 7] [(0, [], .string ⟨⟨s⟩⟩), (3, [], .int .i64 v12), (4, [], .int .i64 v13), (5, [], .int .u8 v14), (6, [], .int .i64 v15), (7, [], .int .u8 (bat s v15))] [fun _ => 0 ≤ v15 ∧ v15 < ln s] H17 (by kernel_rfl) ⟨ho18, trivial⟩ fun _ wd19 H20 hb => ?_
   clear H17
   replace hS := hS.below hb
   clear hb
   refine s_reg [] [0, 3, 4, 5, 6, 7] [(0, [], .string ⟨⟨s⟩⟩), (3, [], .int .i64 v12), (4, [], .int .i64 v13), (5, [], .int .u8 (ibit .or .u8 v14 (bat s v15))), (6, [], .int .i64 v15), (7, [], .int .u8 (bat s v15))] [] H20 (by kernel_rfl) trivial fun _ wd21 H22 hb => ?_
   clear H20
   replace hS := hS.below hb
   clear hb
   obtain ⟨ho23, hm⟩ := chkE hm
   obtain ⟨x24, hx24, hm⟩ := letE hm
   refine s_reg [(.int .u8 (gi gl_strings_asciiSpace (bat s v15)))] [0, 3, 4, 5, 6, 8] [(0, [], .string ⟨⟨s⟩⟩), (3, [], .int .i64 v12), (4, [], .int .i64 v13), (5, [], .int .u8 (ibit .or .u8 v14 (bat s v15))), (6, [], .int .i64 v15), (8, [], .int .i64 x24)] [fun _ => 0 ≤ (bat s v15) ∧ (bat s v15) < (256 : Int), fun wz => V.at1 ⟨0, 0 + ((bat s v15)).toNat * 1, none⟩ (.int .u8 (gi gl_strings_asciiSpace (bat s v15))) wz] H22 (by subst hx24; kernel_rfl) ⟨ho23, ((hS.im 0 rfl).at1 ho23 0 rfl), trivial⟩ fun _ wd25 H26 hb => ?_
   clear H22
   replace hS := hS.below hb
   clear hb
   obtain ⟨x27, hx27, hm⟩ := letE hm
   refine s_reg [] [0, 3, 5, 6, 8] [(0, [], .string ⟨⟨s⟩⟩), (3, [], .int .i64 (w64 (v12 + x27))), (5, [], .int .u8 (ibit .or .u8 v14 (bat s v15))), (6, [], .int .i64 v15), (8, [], .int .i64 x24)] [] H26 (by subst hx27; kernel_rfl) trivial fun _ wd28 H29 hb => ?_
   clear H26
   replace hS := hS.below hb
   clear hb
   refine w_reg [] [0, 3, 4, 5, 6] [(0, [], .string ⟨⟨s⟩⟩), (3, [], .int .i64 (w64 (v12 + x27))), (4, [], .int .i64 x24), (5, [], .int .u8 (ibit .or .u8 v14 (bat s v15))), (6, [], .int .i64 v15)] [] H29 (by kernel_rfl) trivial fun _ wd30 H31 hb => ?_
   clear H29
   replace hS := hS.below hb
   clear hb
   refine w_reg [] [0, 3, 4, 5, 6] [(0, [], .string ⟨⟨s⟩⟩), (3, [], .int .i64 (w64 (v12 + x27))), (4, [], .int .i64 x24), (5, [], .int .u8 (ibit .or .u8 v14 (bat s v15))), (6, [], .int .i64 (w64 (v15 + 1)))] [] H31 (by kernel_rfl) trivial fun _ wd32 H33 hb => ?_
   clear H31
   replace hS := hS.below hb
   clear hb
   exact ⟨_, Nat.lt_succ_self _, w64 (v12 + x27), x24, ibit .or .u8 v14 (bat s v15), w64 (v15 + 1), hm, FrG.keep (ks := [0, 3, 4, 5, 6]) H33 (by kernel_rfl), hS⟩
 ·rintro _ wd131 ⟨H, hS⟩
  refine w_seq ?_
  refine s_reg [] [0, 3, 37] [(0, [], .string ⟨⟨s⟩⟩), (3, [], .int .i64 z9.1), (37, [], .bool (decide (128 ≤ z9.2)))] [] H (by kernel_rfl) trivial fun _ wd36 H37 hb => ?_
  clear H
  replace hS := hS.below hb
  clear hb
  refine w_if H37 rfl (fun hc => ?c130) (fun hc => ?_)
  case c130 =>
   replace hm := bT hc hm
   exact noneE hm
  replace hm := bF hc hm
  refine w_skip ?_
  refine w_seq ?_
  refine wl_start ?_
  refine wl_batch 0 1 [] [0, 40] [(0, [], .string ⟨⟨s⟩⟩), (40, [], .int .i64 z9.1)] [] H37 (by decide) (by kernel_rfl) trivial fun _ wd38 H39 hb => ?_
  clear H37
  replace hS := hS.below hb
  clear hb
  obtain ⟨ho40, hm⟩ := chkE hm
  obtain ⟨q41, hq41, hm⟩ := letE hm
  have hd := hS.hand [] [0] rfl rfl
  refine m_stp [41, 0] [(0, [], .string ⟨⟨s⟩⟩)] H39 rfl rfl rfl rfl (o_make (T := tS) (E := 9) (zv := .string ⟨⟨[]⟩⟩) ([] : Str) H39 hd rfl rfl (by kernel_rfl) (by kernel_rfl) rfl rfl (fun _ _ => trivial) ho40) (fun _ => rfl) fun _ wd42 v H43 hq => ?_
  clear H39 hd
  obtain ⟨g44, rfl, hq⟩ := hq
  rw [← hq41] at hq
  rw [← hq41] at H43
  replace hS : SH M X w [Ent.own 9 tS q41 g44, gE0] _ := hS.join [] [0] rfl rfl hq
  clear hq
  refine wl_batch 2 3 [] [0, 9] [(0, [], .string ⟨⟨s⟩⟩), (9, [], .slice g44.a q41.length g44.c)] [] H43 (by decide) (by kernel_rfl) trivial fun _ wd46 H47 hb => ?_
  clear H43
  replace hS := hS.below hb
  clear hb
  refine wl_end rfl ?_
  refine s_reg [] [0, 9, 10] [(0, [], .string ⟨⟨s⟩⟩), (9, [], .slice g44.a q41.length g44.c), (10, [], .int .i64 0)] [] H47 (by kernel_rfl) trivial fun _ wd48 H49 hb => ?_
  clear H47
  replace hS := hS.below hb
  clear hb
  refine s_reg [] [0, 9, 10] [(0, [], .string ⟨⟨s⟩⟩), (9, [], .slice g44.a q41.length g44.c), (10, [], .int .i64 0)] [] H49 (by kernel_rfl) trivial fun _ wd50 H51 hb => ?_
  clear H49
  replace hS := hS.below hb
  clear hb
  refine s_reg [] [0, 9, 10, 12] [(0, [], .string ⟨⟨s⟩⟩), (9, [], .slice g44.a q41.length g44.c), (10, [], .int .i64 0), (12, [], .int .i64 0)] [] H51 (by kernel_rfl) trivial fun _ wd52 H53 hb => ?_
  clear H51
  replace hS := hS.below hb
  clear hb
  obtain ⟨z54, hz, hm⟩ := bindE hm
  refine w_cut (fun a' w' => Fr 106 [(0, [], .string ⟨⟨s⟩⟩), (9, [], .slice g44.a q41.length g44.c), (10, [], .int .i64 0), (12, [], .int .i64 z54)] a' ∧ SH M X w [Ent.own 9 tS q41 g44, gE0] w') ?_ ?_
  ·replace hm := hz
   refine w_block ?_
   refine w_loop (fun kk a' w' => ∃ (v55 : Int), strings_Fields_L2 m s kk v55 = some _ ∧ Fr 106 [(0, [], .string ⟨⟨s⟩⟩), (9, [], .slice g44.a q41.length g44.c), (10, [], .int .i64 0), (12, [], .int .i64 v55)] a' ∧ SH M X w [Ent.own 9 tS q41 g44, gE0] w') ⟨_, 0, hm, FrG.keep (ks := [0, 9, 10, 12]) H53 (by kernel_rfl), hS⟩ ?_
   clear hm H53 hS
   rintro kk _ wd64 ⟨v55, hm, H, hS⟩
   cases kk with
   | zero => exact noneE hm
   | succ kk =>
    rw [strings_Fields_L2] at hm
    refine w_seq ?_
    obtain ⟨ho56, hm⟩ := chkE hm
    obtain ⟨ho57, hm⟩ := chkE hm
    obtain ⟨x58, hx58, hm⟩ := letE hm
    refine s_reg [(.int .u8 (gi gl_strings_asciiSpace (bat s v55)))] [0, 9, 10, 12, 53] [(0, [], .string ⟨⟨s⟩⟩), (9, [], .slice g44.a q41.length g44.c), (10, [], .int .i64 0), (12, [], .int .i64 v55), (53, [], .bool x58)] [fun _ => ((decide (v55 < (ln s))) = true ∧ True → 0 ≤ v55 ∧ v55 < ln s), fun _ => ((decide (v55 < (ln s))) = true ∧ True → 0 ≤ (bat s v55) ∧ (bat s v55) < (256 : Int)), fun wz => ((decide (v55 < (ln s))) = true ∧ True → V.at1 ⟨0, 0 + ((bat s v55)).toNat * 1, none⟩ (.int .u8 (gi gl_strings_asciiSpace (bat s v55))) wz)] H (by subst hx58; kernel_rfl) ⟨fun hg => (ho56 hg.1), fun hg => (ho57 hg.1), fun hg => (hS.im 1 rfl).at1 (ho57 hg.1) 0 rfl, trivial⟩ fun _ wd59 H60 hb => ?_
    clear H
    replace hS := hS.below hb
    clear hb
    refine w_if H60 rfl (fun hc => ?_) (fun hc => ?c63)
    case c63 =>
     replace hm := bF hc hm
     refine w_exit rfl ?_
     obtain rfl := someE hm
     exact ⟨FrG.keep (ks := [0, 9, 10, 12]) H60 (by kernel_rfl), hS⟩
    replace hm := bT hc hm
    refine w_skip ?_
    refine w_block ?_
    refine w_reg [] [0, 9, 10, 12] [(0, [], .string ⟨⟨s⟩⟩), (9, [], .slice g44.a q41.length g44.c), (10, [], .int .i64 0), (12, [], .int .i64 (w64 (v55 + 1)))] [] H60 (by kernel_rfl) trivial fun _ wd61 H62 hb => ?_
    clear H60
    replace hS := hS.below hb
    clear hb
    exact ⟨_, Nat.lt_succ_self _, w64 (v55 + 1), hm, FrG.keep (ks := [0, 9, 10, 12]) H62 (by kernel_rfl), hS⟩
  ·rintro _ wd129 ⟨H, hS⟩
   refine s_reg [] [0, 9, 10, 11, 12] [(0, [], .string ⟨⟨s⟩⟩), (9, [], .slice g44.a q41.length g44.c), (10, [], .int .i64 0), (11, [], .int .i64 z54), (12, [], .int .i64 z54)] [] H (by kernel_rfl) trivial fun _ wd65 H66 hb => ?_
   clear H
   replace hS := hS.below hb
   clear hb
   obtain ⟨z67, hz, hm⟩ := bindE hm
   refine w_cut (fun a' w' => ∃ (g111 : Gh), Fr 106 [(0, [], .string ⟨⟨s⟩⟩), (9, [], .slice g111.a z67.2.2.length g111.c), (10, [], .int .i64 z67.1), (11, [], .int .i64 z67.2.1)] a' ∧ SH M X w [Ent.own 9 tS z67.2.2 g111, gE0] w') ?_ ?_
   ·replace hm := hz
    refine w_block ?_
    refine w_loop (fun kk a' w' => ∃ (v68 : List Str) (v70 : Int) (v71 : Int) (v72 : Int) (g69 : Gh), strings_Fields_L3 m s kk v68 v70 v71 v72 = some _ ∧ Fr 106 [(0, [], .string ⟨⟨s⟩⟩), (9, [], .slice g69.a v68.length g69.c), (10, [], .int .i64 v70), (11, [], .int .i64 v71), (12, [], .int .i64 v72)] a' ∧ SH M X w [Ent.own 9 tS v68 g69, gE0] w') ⟨_, q41, 0, z54, z54, g44, hm, FrG.keep (ks := [0, 9, 10, 11, 12]) H66 (by kernel_rfl), hS⟩ ?_
    clear hm H66 hS
    rintro kk _ wd110 ⟨v68, v70, v71, v72, g69, hm, H, hS⟩
    cases kk with
    | zero => exact noneE hm
    | succ kk =>
     rw [strings_Fields_L3] at hm
     refine w_seq ?_
     refine s_reg [] [0, 9, 10, 11, 12, 60] [(0, [], .string ⟨⟨s⟩⟩), (9, [], .slice g69.a v68.length g69.c), (10, [], .int .i64 v70), (11, [], .int .i64 v71), (12, [], .int .i64 v72), (60, [], .bool (decide (v72 < (ln s))))] [] H (by kernel_rfl) trivial fun _ wd73 H74 hb => ?_
     clear H
     replace hS := hS.below hb
     clear hb
     refine w_if H74 rfl (fun hc => ?_) (fun hc => ?c109)
     case c109 =>
      replace hm := bF hc hm
      refine w_exit rfl ?_
      obtain rfl := someE hm
      exact ⟨g69, FrG.keep (ks := [0, 9, 10, 11]) H74 (by kernel_rfl), hS⟩
     replace hm := bT hc hm
     refine w_skip ?_
     refine w_block ?_
     refine w_seq ?_
     obtain ⟨ho75, hm⟩ := chkE hm
     obtain ⟨ho76, hm⟩ := chkE hm
     obtain ⟨x77, hx77, hm⟩ := letE hm
     refine s_reg [(.int .u8 (gi gl_strings_asciiSpace (bat s v72)))] [0, 9, 10, 11, 12, 66] [(0, [], .string ⟨⟨s⟩⟩), (9, [], .slice g69.a v68.length g69.c), (10, [], .int .i64 v70), (11, [], .int .i64 v71), (12, [], .int .i64 v72), (66, [], .bool x77)] [fun _ => 0 ≤ v72 ∧ v72 < ln s, fun _ => 0 ≤ (bat s v72) ∧ (bat s v72) < (256 : Int), fun wz => V.at1 ⟨0, 0 + ((bat s v72)).toNat * 1, none⟩ (.int .u8 (gi gl_strings_asciiSpace (bat s v72))) wz] H74 (by subst hx77; kernel_rfl) ⟨ho75, ho76, ((hS.im 1 rfl).at1 ho76 0 rfl), trivial⟩ fun _ wd78 H79 hb => ?_
     clear H74
     replace hS := hS.below hb
     clear hb
     refine w_if H79 rfl (fun hc => ?c108) (fun hc => ?_)
     case c108 =>
      replace hm := bT hc hm
      refine s_reg [] [0, 9, 10, 11, 12] [(0, [], .string ⟨⟨s⟩⟩), (9, [], .slice g69.a v68.length g69.c), (10, [], .int .i64 v70), (11, [], .int .i64 v71), (12, [], .int .i64 (w64 (v72 + 1)))] [] H79 (by kernel_rfl) trivial fun _ wd80 H81 hb => ?_
      clear H79
      replace hS := hS.below hb
      clear hb
      refine w_exit rfl ?_
      exact ⟨_, Nat.lt_succ_self _, v68, v70, v71, w64 (v72 + 1), g69, hm, FrG.keep (ks := [0, 9, 10, 11, 12]) H81 (by kernel_rfl), hS⟩
     replace hm := bF hc hm
     refine w_skip ?_
     refine w_seq ?_
     refine wl_start ?_
     obtain ⟨ho82, hm⟩ := chkE hm
     obtain ⟨ho83, hm⟩ := chkE hm
     refine wl_batch 0 7 [] [0, 9, 10, 12, 74, 75] [(0, [], .string ⟨⟨s⟩⟩), (9, [], .slice g69.a v68.length g69.c), (10, [], .int .i64 v70), (12, [], .int .i64 v72), (74, [], .string ⟨⟨sub s v71 v72⟩⟩), (75, [], .pointer (some ⟨ab g69.a, ao g69.a + (v70).toNat * 1, none⟩))] [fun _ => 0 ≤ v71 ∧ v71 ≤ v72 ∧ v72 ≤ ln s, fun _ => oka g69.a ∧ 0 ≤ v70 ∧ v70 < ln v68] H79 (by decide) (by kernel_rfl) ⟨ho82, ((hS.osl 0 rfl).oki ho83), trivial⟩ fun _ wd84 H85 hb => ?_
     clear H79
     replace hS := hS.below hb
     clear hb
     have hd := hS.hand [0] [1] rfl rfl
     refine m_stp0 [0, 9, 10, 12] [(0, [], .string ⟨⟨s⟩⟩), (9, [], .slice g69.a v68.length g69.c), (10, [], .int .i64 v70), (12, [], .int .i64 v72)] H85 rfl rfl rfl (o_estore (T := tS) (g := g69) (q := v68) (ix := v70) (off := 0) (sub s v71 v72) (gL []) H85 hd rfl rfl rfl rfl (by kernel_rfl) rfl rfl ho83 rfl trivial rfl) rfl fun _ wd86 H87 hq => ?_
     clear H85 hd
     obtain ⟨_, hq⟩ := hq
     obtain ⟨s88, hq⟩ := hq
     obtain ⟨q89, hq89, hm⟩ := letE hm
     rw [← hq89] at hq
     have hn : v68.length = q89.length := by rw [hq89, setl_len]
     first | rw [hn] at H87 | skip
     first | rw [hn] at hS | skip
     clear hn
     replace hS : SH M X w [Ent.own 9 tS q89 (Gh.mk g69.a g69.c s88), gE0] _ := hS.join [0] [1] rfl rfl hq
     clear hq
     refine wl_end rfl ?_
     refine s_reg [] [0, 9, 10, 12] [(0, [], .string ⟨⟨s⟩⟩), (9, [], .slice (Gh.mk g69.a g69.c s88).a q89.length (Gh.mk g69.a g69.c s88).c), (10, [], .int .i64 (w64 (v70 + 1))), (12, [], .int .i64 v72)] [] H87 (by kernel_rfl) trivial fun _ wd90 H91 hb => ?_
     clear H87
     replace hS := hS.below hb
     clear hb
     refine s_reg [] [0, 9, 10, 12] [(0, [], .string ⟨⟨s⟩⟩), (9, [], .slice (Gh.mk g69.a g69.c s88).a q89.length (Gh.mk g69.a g69.c s88).c), (10, [], .int .i64 (w64 (v70 + 1))), (12, [], .int .i64 (w64 (v72 + 1)))] [] H91 (by kernel_rfl) trivial fun _ wd92 H93 hb => ?_
     clear H91
     replace hS := hS.below hb
     clear hb
     obtain ⟨z94, hz, hm⟩ := bindE hm
     refine w_cut (fun a' w' => Fr 106 [(0, [], .string ⟨⟨s⟩⟩), (9, [], .slice (Gh.mk g69.a g69.c s88).a q89.length (Gh.mk g69.a g69.c s88).c), (10, [], .int .i64 (w64 (v70 + 1))), (12, [], .int .i64 z94)] a' ∧ SH M X w [Ent.own 9 tS q89 (Gh.mk g69.a g69.c s88), gE0] w') ?_ ?_
     ·replace hm := hz
      refine w_block ?_
      refine w_loop (fun kk a' w' => ∃ (v95 : Int), strings_Fields_L4 m s kk v95 = some _ ∧ Fr 106 [(0, [], .string ⟨⟨s⟩⟩), (9, [], .slice (Gh.mk g69.a g69.c s88).a q89.length (Gh.mk g69.a g69.c s88).c), (10, [], .int .i64 (w64 (v70 + 1))), (12, [], .int .i64 v95)] a' ∧ SH M X w [Ent.own 9 tS q89 (Gh.mk g69.a g69.c s88), gE0] w') ⟨_, w64 (v72 + 1), hm, FrG.keep (ks := [0, 9, 10, 12]) H93 (by kernel_rfl), hS⟩ ?_
      clear hm H93 hS
      rintro kk _ wd104 ⟨v95, hm, H, hS⟩
      cases kk with
      | zero => exact noneE hm
      | succ kk =>
       rw [strings_Fields_L4] at hm
       refine w_seq ?_
       obtain ⟨ho96, hm⟩ := chkE hm
       obtain ⟨ho97, hm⟩ := chkE hm
       obtain ⟨x98, hx98, hm⟩ := letE hm
       refine s_reg [(.int .u8 (gi gl_strings_asciiSpace (bat s v95)))] [0, 9, 10, 12, 91] [(0, [], .string ⟨⟨s⟩⟩), (9, [], .slice (Gh.mk g69.a g69.c s88).a q89.length (Gh.mk g69.a g69.c s88).c), (10, [], .int .i64 (w64 (v70 + 1))), (12, [], .int .i64 v95), (91, [], .bool x98)] [fun _ => ((decide (v95 < (ln s))) = true ∧ True → 0 ≤ v95 ∧ v95 < ln s), fun _ => ((decide (v95 < (ln s))) = true ∧ True → 0 ≤ (bat s v95) ∧ (bat s v95) < (256 : Int)), fun wz => ((decide (v95 < (ln s))) = true ∧ True → V.at1 ⟨0, 0 + ((bat s v95)).toNat * 1, none⟩ (.int .u8 (gi gl_strings_asciiSpace (bat s v95))) wz)] H (by subst hx98; kernel_rfl) ⟨fun hg => (ho96 hg.1), fun hg => (ho97 hg.1), fun hg => (hS.im 1 rfl).at1 (ho97 hg.1) 0 rfl, trivial⟩ fun _ wd99 H100 hb => ?_
       clear H
       replace hS := hS.below hb
       clear hb
       refine w_if H100 rfl (fun hc => ?_) (fun hc => ?c103)
       case c103 =>
        replace hm := bF hc hm
        refine w_exit rfl ?_
        obtain rfl := someE hm
        exact ⟨FrG.keep (ks := [0, 9, 10, 12]) H100 (by kernel_rfl), hS⟩
       replace hm := bT hc hm
       refine w_skip ?_
       refine w_block ?_
       refine w_reg [] [0, 9, 10, 12] [(0, [], .string ⟨⟨s⟩⟩), (9, [], .slice (Gh.mk g69.a g69.c s88).a q89.length (Gh.mk g69.a g69.c s88).c), (10, [], .int .i64 (w64 (v70 + 1))), (12, [], .int .i64 (w64 (v95 + 1)))] [] H100 (by kernel_rfl) trivial fun _ wd101 H102 hb => ?_
       clear H100
       replace hS := hS.below hb
       clear hb
       exact ⟨_, Nat.lt_succ_self _, w64 (v95 + 1), hm, FrG.keep (ks := [0, 9, 10, 12]) H102 (by kernel_rfl), hS⟩
     ·rintro _ wd107 ⟨H, hS⟩
      refine w_reg [] [0, 9, 10, 11, 12] [(0, [], .string ⟨⟨s⟩⟩), (9, [], .slice (Gh.mk g69.a g69.c s88).a q89.length (Gh.mk g69.a g69.c s88).c), (10, [], .int .i64 (w64 (v70 + 1))), (11, [], .int .i64 z94), (12, [], .int .i64 z94)] [] H (by kernel_rfl) trivial fun _ wd105 H106 hb => ?_
      clear H
      replace hS := hS.below hb
      clear hb
      exact ⟨_, Nat.lt_succ_self _, q89, w64 (v70 + 1), z94, z94, (Gh.mk g69.a g69.c s88), hm, FrG.keep (ks := [0, 9, 10, 11, 12]) H106 (by kernel_rfl), hS⟩
   ·rintro _ wd128 ⟨g111, H, hS⟩
    obtain ⟨z112, hz, hm⟩ := bindE hm
    refine w_cut (fun a' w' => ∃ (g124 : Gh), Fr 106 [(9, [], .slice g124.a z112.length g124.c)] a' ∧ SH M X w [Ent.own 9 tS z112 g124, gE0] w') ?_ ?_
    ·replace hm := hz
     refine s_reg [] [0, 9, 10, 11, 98] [(0, [], .string ⟨⟨s⟩⟩), (9, [], .slice g111.a z67.2.2.length g111.c), (10, [], .int .i64 z67.1), (11, [], .int .i64 z67.2.1), (98, [], .bool (decide (z67.2.1 < (ln s))))] [] H (by kernel_rfl) trivial fun _ wd113 H114 hb => ?_
     clear H
     replace hS := hS.below hb
     clear hb
     refine w_if H114 rfl (fun hc => ?_) (fun hc => ?c123)
     case c123 =>
      replace hm := bF hc hm
      refine w_skip ?_
      obtain rfl := someE hm
      exact ⟨g111, FrG.keep (ks := [9]) H114 (by kernel_rfl), hS⟩
     replace hm := bT hc hm
     refine wl_start ?_
     obtain ⟨ho115, hm⟩ := chkE hm
     obtain ⟨ho116, hm⟩ := chkE hm
     refine wl_batch 0 6 [] [9, 103, 104] [(9, [], .slice g111.a z67.2.2.length g111.c), (103, [], .string ⟨⟨sub s z67.2.1 (ln s)⟩⟩), (104, [], .pointer (some ⟨ab g111.a, ao g111.a + (z67.1).toNat * 1, none⟩))] [fun _ => 0 ≤ z67.2.1 ∧ z67.2.1 ≤ ln s, fun _ => oka g111.a ∧ 0 ≤ z67.1 ∧ z67.1 < ln z67.2.2] H114 (by decide) (by kernel_rfl) ⟨ho115, ((hS.osl 0 rfl).oki ho116), trivial⟩ fun _ wd117 H118 hb => ?_
     clear H114
     replace hS := hS.below hb
     clear hb
     have hd := hS.hand [0] [1] rfl rfl
     refine m_stp0 [9] [(9, [], .slice g111.a z67.2.2.length g111.c)] H118 rfl rfl rfl (o_estore (T := tS) (g := g111) (q := z67.2.2) (ix := z67.1) (off := 0) (sub s z67.2.1 (ln s)) (gL []) H118 hd rfl rfl rfl rfl (by kernel_rfl) rfl rfl ho116 rfl trivial rfl) rfl fun _ wd119 H120 hq => ?_
     clear H118 hd
     obtain ⟨_, hq⟩ := hq
     obtain ⟨s121, hq⟩ := hq
     obtain ⟨q122, hq122, hm⟩ := letE hm
     rw [← hq122] at hq
     have hn : z67.2.2.length = q122.length := by rw [hq122, setl_len]
     first | rw [hn] at H120 | skip
     first | rw [hn] at hS | skip
     clear hn
     replace hS : SH M X w [Ent.own 9 tS q122 (Gh.mk g111.a g111.c s121), gE0] _ := hS.join [0] [1] rfl rfl hq
     clear hq
     refine wl_end rfl ?_
     obtain rfl := someE hm
     exact ⟨(Gh.mk g111.a g111.c s121), FrG.keep (ks := [9]) H120 (by kernel_rfl), hS⟩
    ·rintro _ wd127 ⟨g124, H, hS⟩
     refine s_reg [] [2] [(2, [], .slice g124.a z112.length g124.c)] [] H (by kernel_rfl) trivial fun _ wd125 H126 hb => ?_
     clear H
     replace hS := hS.below hb
     clear hb
     refine w_ret ?_
     obtain rfl := someE hm
     exact retR1 H126 rfl rfl ⟨_, rfl, g124, rfl, (hS.sel [0] rfl)⟩
theorem strings_Fields_ok  (m : Nat) (s : Str) (r : List Str) (hm : strings_Fields m s = some r) (M : Av) (w : World) (hS : S0 M [gE0] w) : DoesX Tryd.prog 40 ⟨[.string ⟨⟨s⟩⟩]⟩ w (fun v w' => ∃ (g901 : Gh), v = .slice g901.a r.length g901.c ∧ SH M (fpl [gE0]) w [Ent.own 9 tS r g901] w') := ⟨Tryd.call40 _, strings_Fields_w M m   s r hm w hS⟩

def props_words (m : Nat) (name_ : Str) (inherited : Bool) (first : Str) (all_ : Str) : Option (TProp) :=
  lt (props_word first) fun y4 =>
  Option.bind (strings_Fields m all_) fun y7 =>
  some (TProp.mk name_ inherited y4 y7 ([] : List Int) false)
theorem props_words_w  (M : Av) (m : Nat) (name_ : Str) (inherited : Bool) (first : Str) (all_ : Str) (r : TProp) (hm : props_words m name_ inherited first all_ = some r) (w : World) (hS : S0 M [gE0] w) : Calls Tryd.prog 33 ⟨[.string ⟨⟨name_⟩⟩, .bool inherited, .string ⟨⟨first⟩⟩, .string ⟨⟨all_⟩⟩]⟩ w (fun e w' => ∃ v, e = .returned v ∧ ∃ (g901 : Gh) (g903 : Gh), v = .agg ⟨[.string ⟨⟨r.Name⟩⟩, .bool r.Inherited, .int .u8 r.Initial.Kind, .string ⟨⟨r.Initial.Word⟩⟩, .int .i64 r.Initial.Num, .int .u8 r.Initial.Color.Red, .int .u8 r.Initial.Color.Green, .int .u8 r.Initial.Color.Blue, .int .u8 r.Initial.Color.Alpha, .slice g901.a r.Words.length g901.c, .slice g903.a r.Kinds.length g903.c, .bool r.Least]⟩ ∧ SH M (fpl [gE0]) w [Ent.own 9 tS r.Words g901, Ent.own 5 (tI .u8) r.Kinds g903] w') := by
 rw [props_words] at hm
 have hS0 : SH M (fpl [gE0]) w [gE0] w := hS
 generalize hX : fpl [gE0] = X at hS0 ⊢
 clear hS hX
 have hS := hS0
 clear hS0
 refine calls_entryP Tryd.func33 rfl Tryd.ntmps33 rfl fun _ H => ?_
 refine w_seq ?_
 refine wl_start ?_
 have hd := hS.hand [] [0] rfl rfl
 refine m_stp [8, 0, 1, 2, 3] [(0, [], .string ⟨⟨name_⟩⟩), (1, [], .bool inherited), (2, [], .string ⟨⟨first⟩⟩), (3, [], .string ⟨⟨all_⟩⟩)] H rfl rfl rfl rfl (o_alloc [.string ⟨⟨[]⟩⟩, .bool false, .int .u8 0, .string ⟨⟨[]⟩⟩, .int .i64 0, .int .u8 0, .int .u8 0, .int .u8 0, .int .u8 0, .slice none 0 0, .slice none 0 0, .bool false] (z := .agg ⟨[.string ⟨⟨[]⟩⟩, .bool false, .int .u8 0, .string ⟨⟨[]⟩⟩, .int .i64 0, .int .u8 0, .int .u8 0, .int .u8 0, .int .u8 0, .slice none 0 0, .slice none 0 0, .bool false]⟩) hd (by kernel_rfl) rfl) (fun _ => rfl) fun _ wd2 v H3 hq => ?_
 clear H hd
 obtain ⟨b1, rfl, hq⟩ := hq
 replace hS : SH M X w [Ent.blk b1 [.string ⟨⟨[]⟩⟩, .bool false, .int .u8 0, .string ⟨⟨[]⟩⟩, .int .i64 0, .int .u8 0, .int .u8 0, .int .u8 0, .int .u8 0, .slice none 0 0, .slice none 0 0, .bool false], gE0] _ := hS.join [] [0] rfl rfl hq
 clear hq
 refine wl_end rfl ?_
 refine w_seq ?_
 refine wl_start ?_
 obtain ⟨y4, hy4, hm⟩ := letE hm
 refine wl_batch 0 5 [(.agg ⟨[.int .u8 y4.Kind, .string ⟨⟨y4.Word⟩⟩, .int .i64 y4.Num, .int .u8 y4.Color.Red, .int .u8 y4.Color.Green, .int .u8 y4.Color.Blue, .int .u8 y4.Color.Alpha]⟩)] [8, 9, 10, 12, 13] [(8, [], .pointer (some ⟨b1, 0, none⟩)), (9, [], .string ⟨⟨name_⟩⟩), (10, [], .bool inherited), (12, [], .agg ⟨[.int .u8 y4.Kind, .string ⟨⟨y4.Word⟩⟩, .int .i64 y4.Num, .int .u8 y4.Color.Red, .int .u8 y4.Color.Green, .int .u8 y4.Color.Blue, .int .u8 y4.Color.Alpha]⟩), (13, [], .string ⟨⟨all_⟩⟩)] [fun wz => RetB Tryd.prog 31 ⟨[.string ⟨⟨first⟩⟩]⟩ (.agg ⟨[.int .u8 y4.Kind, .string ⟨⟨y4.Word⟩⟩, .int .i64 y4.Num, .int .u8 y4.Color.Red, .int .u8 y4.Color.Green, .int .u8 y4.Color.Blue, .int .u8 y4.Color.Alpha]⟩) wz] H3 (by decide) (by subst hy4; kernel_rfl) ⟨((by rw [hy4]; exact (props_word_ok _).b)), trivial⟩ fun _ wd5 H6 hb => ?_
 clear H3
 replace hS := hS.below hb
 clear hb
 obtain ⟨y7, hy7, hm⟩ := bindE hm
 have hd := hS.hand [1] [0, 1] rfl rfl
 refine m_stp [14, 8, 9, 10, 12] [(8, [], .pointer (some ⟨b1, 0, none⟩)), (9, [], .string ⟨⟨name_⟩⟩), (10, [], .bool inherited), (12, [], .agg ⟨[.int .u8 y4.Kind, .string ⟨⟨y4.Word⟩⟩, .int .i64 y4.Num, .int .u8 y4.Color.Red, .int .u8 y4.Color.Green, .int .u8 y4.Color.Blue, .int .u8 y4.Color.Alpha]⟩)] H6 rfl rfl rfl rfl (o_callx H6 rfl rfl (strings_Fields_ok m _ _ hy7 _ _ hd)) (fun _ => rfl) fun _ wd10 v H11 hq => ?_
 clear H6 hd
 obtain ⟨g8, rfl, hq⟩ := hq
 replace hS : SH M X w [Ent.own 9 tS y7 g8, Ent.blk b1 [.string ⟨⟨[]⟩⟩, .bool false, .int .u8 0, .string ⟨⟨[]⟩⟩, .int .i64 0, .int .u8 0, .int .u8 0, .int .u8 0, .int .u8 0, .slice none 0 0, .slice none 0 0, .bool false], gE0] _ := hS.join [1] [0, 1] rfl rfl hq
 clear hq
 refine wl_batch 6 7 [] [8, 15] [(8, [], .pointer (some ⟨b1, 0, none⟩)), (15, [], .agg ⟨[.string ⟨⟨name_⟩⟩, .bool inherited, .int .u8 y4.Kind, .string ⟨⟨y4.Word⟩⟩, .int .i64 y4.Num, .int .u8 y4.Color.Red, .int .u8 y4.Color.Green, .int .u8 y4.Color.Blue, .int .u8 y4.Color.Alpha, .slice g8.a y7.length g8.c, .slice none 0 0, .bool false]⟩)] [] H11 (by decide) (by kernel_rfl) trivial fun _ wd12 H13 hb => ?_
 clear H11
 replace hS := hS.below hb
 clear hb
 have hd := hS.hand [1] [0, 2] rfl rfl
 refine m_stp0 [8] [(8, [], .pointer (some ⟨b1, 0, none⟩))] H13 rfl rfl rfl (o_store [.string ⟨⟨name_⟩⟩, .bool inherited, .int .u8 y4.Kind, .string ⟨⟨y4.Word⟩⟩, .int .i64 y4.Num, .int .u8 y4.Color.Red, .int .u8 y4.Color.Green, .int .u8 y4.Color.Blue, .int .u8 y4.Color.Alpha, .slice g8.a y7.length g8.c, .slice none 0 0, .bool false] H13 hd rfl rfl (by kernel_rfl) rfl rfl rfl) rfl fun _ wd14 H15 hq => ?_
 clear H13 hd
 obtain ⟨_, hq⟩ := hq
 replace hS : SH M X w [Ent.blk b1 [.string ⟨⟨name_⟩⟩, .bool inherited, .int .u8 y4.Kind, .string ⟨⟨y4.Word⟩⟩, .int .i64 y4.Num, .int .u8 y4.Color.Red, .int .u8 y4.Color.Green, .int .u8 y4.Color.Blue, .int .u8 y4.Color.Alpha, .slice g8.a y7.length g8.c, .slice none 0 0, .bool false], Ent.own 9 tS y7 g8, gE0] _ := hS.join [1] [0, 2] rfl rfl hq
 clear hq
 refine wl_end rfl ?_
 refine w_ret ?_
 obtain rfl := someE hm
 replace hS : SH M X w [Ent.own 5 (tI .u8) ([] : List Int) (.nil), Ent.blk b1 [.string ⟨⟨name_⟩⟩, .bool inherited, .int .u8 y4.Kind, .string ⟨⟨y4.Word⟩⟩, .int .i64 y4.Num, .int .u8 y4.Color.Red, .int .u8 y4.Color.Green, .int .u8 y4.Color.Blue, .int .u8 y4.Color.Alpha, .slice g8.a y7.length g8.c, .slice none 0 0, .bool false], Ent.own 9 tS y7 g8, gE0] _ := hS.addNil 5 (tI .u8)
 exact retR1 H15 rfl (oneRes_agg rfl (hS.bk 1 rfl) Tryd.underlying51 rfl (by kernel_rfl)) ⟨_, rfl, g8, Gh.nil, rfl, (hS.sel [2, 0] rfl)⟩
theorem props_words_ok  (m : Nat) (name_ : Str) (inherited : Bool) (first : Str) (all_ : Str) (r : TProp) (hm : props_words m name_ inherited first all_ = some r) (M : Av) (w : World) (hS : S0 M [gE0] w) : DoesX Tryd.prog 33 ⟨[.string ⟨⟨name_⟩⟩, .bool inherited, .string ⟨⟨first⟩⟩, .string ⟨⟨all_⟩⟩]⟩ w (fun v w' => ∃ (g901 : Gh) (g903 : Gh), v = .agg ⟨[.string ⟨⟨r.Name⟩⟩, .bool r.Inherited, .int .u8 r.Initial.Kind, .string ⟨⟨r.Initial.Word⟩⟩, .int .i64 r.Initial.Num, .int .u8 r.Initial.Color.Red, .int .u8 r.Initial.Color.Green, .int .u8 r.Initial.Color.Blue, .int .u8 r.Initial.Color.Alpha, .slice g901.a r.Words.length g901.c, .slice g903.a r.Kinds.length g903.c, .bool r.Least]⟩ ∧ SH M (fpl [gE0]) w [Ent.own 9 tS r.Words g901, Ent.own 5 (tI .u8) r.Kinds g903] w') := ⟨Tryd.call33 _, props_words_w M m   name_ inherited first all_ r hm w hS⟩

def props_length (m : Nat) (name_ : Str) (inherited : Bool) (first : TVal) (all_ : Str) (least : Bool) (more : List Int) : Option (TProp) :=
  Option.bind (strings_Fields m all_) fun y8 =>
  chk (ln ([2, 3, 4] : List Int) + ln more ≤ 1099511627776) <|
  lt (([2, 3, 4] : List Int) ++ more) fun q14 =>
  some (TProp.mk name_ inherited first y8 q14 least)
theorem props_length_w {g_more : Gh} (M : Av) (m : Nat) (name_ : Str) (inherited : Bool) (first : TVal) (all_ : Str) (least : Bool) (more : List Int) (r : TProp) (hm : props_length m name_ inherited first all_ least more = some r) (w : World) (hS : S0 M [Ent.im (tI .u8) more g_more, gE0] w) : Calls Tryd.prog 34 ⟨[.string ⟨⟨name_⟩⟩, .bool inherited, .agg ⟨[.int .u8 first.Kind, .string ⟨⟨first.Word⟩⟩, .int .i64 first.Num, .int .u8 first.Color.Red, .int .u8 first.Color.Green, .int .u8 first.Color.Blue, .int .u8 first.Color.Alpha]⟩, .string ⟨⟨all_⟩⟩, .bool least, .slice g_more.a more.length g_more.c]⟩ w (fun e w' => ∃ v, e = .returned v ∧ ∃ (g901 : Gh) (g903 : Gh), v = .agg ⟨[.string ⟨⟨r.Name⟩⟩, .bool r.Inherited, .int .u8 r.Initial.Kind, .string ⟨⟨r.Initial.Word⟩⟩, .int .i64 r.Initial.Num, .int .u8 r.Initial.Color.Red, .int .u8 r.Initial.Color.Green, .int .u8 r.Initial.Color.Blue, .int .u8 r.Initial.Color.Alpha, .slice g901.a r.Words.length g901.c, .slice g903.a r.Kinds.length g903.c, .bool r.Least]⟩ ∧ SH M (fpl [Ent.im (tI .u8) more g_more, gE0]) w [Ent.own 9 tS r.Words g901, Ent.own 5 (tI .u8) r.Kinds g903] w') := by
 rw [props_length] at hm
 have hS0 : SH M (fpl [Ent.im (tI .u8) more g_more, gE0]) w [Ent.im (tI .u8) more g_more, gE0] w := hS
 generalize hX : fpl [Ent.im (tI .u8) more g_more, gE0] = X at hS0 ⊢
 clear hS hX
 have hS := hS0
 clear hS0
 refine calls_entryP Tryd.func34 rfl Tryd.ntmps34 rfl fun _ H => ?_
 refine w_seq ?_
 refine wl_start ?_
 have hd := hS.hand [] [0, 1] rfl rfl
 refine m_stp [8, 0, 1, 3, 4, 5] [(0, [], .string ⟨⟨name_⟩⟩), (1, [], .bool inherited), (3, [], .string ⟨⟨all_⟩⟩), (4, [], .bool least), (5, [], .slice g_more.a more.length g_more.c)] H rfl rfl rfl rfl (o_box [.int .u8 first.Kind, .string ⟨⟨first.Word⟩⟩, .int .i64 first.Num, .int .u8 first.Color.Red, .int .u8 first.Color.Green, .int .u8 first.Color.Blue, .int .u8 first.Color.Alpha] H hd rfl rfl) (fun _ => rfl) fun _ wd2 v H3 hq => ?_
 clear H hd
 obtain ⟨b1, rfl, hq⟩ := hq
 replace hS : SH M X w [Ent.blk b1 [.int .u8 first.Kind, .string ⟨⟨first.Word⟩⟩, .int .i64 first.Num, .int .u8 first.Color.Red, .int .u8 first.Color.Green, .int .u8 first.Color.Blue, .int .u8 first.Color.Alpha], Ent.im (tI .u8) more g_more, gE0] _ := hS.join [] [0, 1] rfl rfl hq
 clear hq
 have hd := hS.hand [] [0, 1, 2] rfl rfl
 refine m_stp [12, 0, 1, 3, 4, 5, 8] [(0, [], .string ⟨⟨name_⟩⟩), (1, [], .bool inherited), (3, [], .string ⟨⟨all_⟩⟩), (4, [], .bool least), (5, [], .slice g_more.a more.length g_more.c), (8, [], .pointer (some ⟨b1, 0, none⟩))] H3 rfl rfl rfl rfl (o_alloc [.string ⟨⟨[]⟩⟩, .bool false, .int .u8 0, .string ⟨⟨[]⟩⟩, .int .i64 0, .int .u8 0, .int .u8 0, .int .u8 0, .int .u8 0, .slice none 0 0, .slice none 0 0, .bool false] (z := .agg ⟨[.string ⟨⟨[]⟩⟩, .bool false, .int .u8 0, .string ⟨⟨[]⟩⟩, .int .i64 0, .int .u8 0, .int .u8 0, .int .u8 0, .int .u8 0, .slice none 0 0, .slice none 0 0, .bool false]⟩) hd (by kernel_rfl) rfl) (fun _ => rfl) fun _ wd5 v H6 hq => ?_
 clear H3 hd
 obtain ⟨b4, rfl, hq⟩ := hq
 replace hS : SH M X w [Ent.blk b4 [.string ⟨⟨[]⟩⟩, .bool false, .int .u8 0, .string ⟨⟨[]⟩⟩, .int .i64 0, .int .u8 0, .int .u8 0, .int .u8 0, .int .u8 0, .slice none 0 0, .slice none 0 0, .bool false], Ent.blk b1 [.int .u8 first.Kind, .string ⟨⟨first.Word⟩⟩, .int .i64 first.Num, .int .u8 first.Color.Red, .int .u8 first.Color.Green, .int .u8 first.Color.Blue, .int .u8 first.Color.Alpha], Ent.im (tI .u8) more g_more, gE0] _ := hS.join [] [0, 1, 2] rfl rfl hq
 clear hq
 refine wl_end rfl ?_
 obtain ⟨y8, hy8, hm⟩ := bindE hm
 obtain ⟨ho13, hm⟩ := chkE hm
 obtain ⟨q14, hq14, hm⟩ := letE hm
 refine s_drawS (base := [(0, [], .string ⟨⟨name_⟩⟩), (1, [], .bool inherited), (3, [], .string ⟨⟨all_⟩⟩), (4, [], .bool least), (5, [], .slice g_more.a more.length g_more.c), (8, [], .pointer (some ⟨b1, 0, none⟩)), (12, [], .pointer (some ⟨b4, 0, none⟩))]) (L := [Ent.blk b4 [.string ⟨⟨[]⟩⟩, .bool false, .int .u8 0, .string ⟨⟨[]⟩⟩, .int .i64 0, .int .u8 0, .int .u8 0, .int .u8 0, .int .u8 0, .slice none 0 0, .slice none 0 0, .bool false], Ent.blk b1 [.int .u8 first.Kind, .string ⟨⟨first.Word⟩⟩, .int .i64 first.Num, .int .u8 first.Color.Red, .int .u8 first.Color.Green, .int .u8 first.Color.Blue, .int .u8 first.Color.Alpha], Ent.im (tI .u8) more g_more, gE0]) 11 4 (fun yg7 => [.string ⟨⟨name_⟩⟩, .bool inherited, .agg ⟨[.int .u8 first.Kind, .string ⟨⟨first.Word⟩⟩, .int .i64 first.Num, .int .u8 first.Color.Red, .int .u8 first.Color.Green, .int .u8 first.Color.Blue, .int .u8 first.Color.Alpha]⟩, .string ⟨⟨all_⟩⟩, .slice (yg7 4 0).a y8.length (yg7 4 0).c, .slice (yg7 5 0).a 3 (yg7 5 0).c, .slice g_more.a more.length g_more.c, .slice (yg7 7 0).a q14.length (yg7 7 0).c, .bool least, .agg ⟨[.string ⟨⟨name_⟩⟩, .bool inherited, .int .u8 first.Kind, .string ⟨⟨first.Word⟩⟩, .int .i64 first.Num, .int .u8 first.Color.Red, .int .u8 first.Color.Green, .int .u8 first.Color.Blue, .int .u8 first.Color.Alpha, .slice (yg7 4 0).a y8.length (yg7 4 0).c, .slice (yg7 7 0).a q14.length (yg7 7 0).c, .bool least]⟩, undef]) (fun yg7 => [[], [], [], [], [Ent.own 9 tS y8 (yg7 4 0)], [Ent.own 5 (tI .u8) ([2, 3, 4] : List Int) (yg7 5 0)], [], [Ent.own 5 (tI .u8) q14 (yg7 7 0)], [], [], [Ent.blk b4 [.string ⟨⟨name_⟩⟩, .bool inherited, .int .u8 first.Kind, .string ⟨⟨first.Word⟩⟩, .int .i64 first.Num, .int .u8 first.Color.Red, .int .u8 first.Color.Green, .int .u8 first.Color.Blue, .int .u8 first.Color.Alpha, .slice (yg7 4 0).a y8.length (yg7 4 0).c, .slice (yg7 7 0).a q14.length (yg7 7 0).c, .bool least]]]) [[], [], [12], [], [14], [], [], [5, 13], [], [4, 7], [4, 7, 11]] [[], [], [], [], [], [], [], [5], [], [], [11]] [[0], [1], [2], [3], [3, 4], [5], [6], [5, 6, 7], [8], [0, 1, 2, 3, 4, 5, 6, 7, 8, 9], [0, 1, 2, 3, 4, 5, 6, 7, 8, 9, 10]] [] (FrG.keep (ks := [0, 1, 3, 4, 5, 8, 12]) H6 (by kernel_rfl)) (fun _ _ h => by cases h) (by kernel_rfl) hS (by kernel_rfl) rfl rfl (by kernel_rfl) (by kernel_rfl) (by kernel_rfl) (gd_none (by kernel_rfl) _ _) ?hloc_yg7 ?hstep_yg7 fun _ wd16 yg7 H17 hv hS => ?hK_yg7
 case hloc_yg7 => exact ⟨(fun _ _ _ _ => ⟨rfl, rfl⟩), (fun _ _ _ _ => ⟨rfl, rfl⟩), (fun _ _ _ _ => ⟨rfl, rfl⟩), (fun _ _ _ _ => ⟨rfl, rfl⟩), (fun _ i g hi => lcG [4] (fun yg7 => (.slice (yg7 4 0).a y8.length (yg7 4 0).c, [Ent.own 9 tS y8 (yg7 4 0)])) hi rfl), (fun _ i g hi => lcG [5] (fun yg7 => (.slice (yg7 5 0).a 3 (yg7 5 0).c, [Ent.own 5 (tI .u8) ([2, 3, 4] : List Int) (yg7 5 0)])) hi rfl), (fun _ _ _ _ => ⟨rfl, rfl⟩), (fun _ i g hi => lcG [7] (fun yg7 => (.slice (yg7 7 0).a q14.length (yg7 7 0).c, [Ent.own 5 (tI .u8) q14 (yg7 7 0)])) hi rfl), (fun _ _ _ _ => ⟨rfl, rfl⟩), (fun _ i g hi => lcG [4, 7] (fun yg7 => (.agg ⟨[.string ⟨⟨name_⟩⟩, .bool inherited, .int .u8 first.Kind, .string ⟨⟨first.Word⟩⟩, .int .i64 first.Num, .int .u8 first.Color.Red, .int .u8 first.Color.Green, .int .u8 first.Color.Blue, .int .u8 first.Color.Alpha, .slice (yg7 4 0).a y8.length (yg7 4 0).c, .slice (yg7 7 0).a q14.length (yg7 7 0).c, .bool least]⟩, [])) hi rfl), (fun _ i g hi => lcG [4, 7] (fun yg7 => (undef, [Ent.blk b4 [.string ⟨⟨name_⟩⟩, .bool inherited, .int .u8 first.Kind, .string ⟨⟨first.Word⟩⟩, .int .i64 first.Num, .int .u8 first.Color.Red, .int .u8 first.Color.Green, .int .u8 first.Color.Blue, .int .u8 first.Color.Alpha, .slice (yg7 4 0).a y8.length (yg7 4 0).c, .slice (yg7 7 0).a q14.length (yg7 7 0).c, .bool least]])) hi rfl), trivial⟩
 case hstep_yg7 =>
  refine ⟨?_, ?_, ?_, ?_, ?_, ?_, ?_, ?_, ?_, ?_, ?_, trivial⟩
  ·intro o ho a w yg7 M Hb hv hO hS
   obtain rfl := Option.some.inj ho
   exact Stp.mono (o_evs [] (.string ⟨⟨name_⟩⟩) none [] Hb rfl (by kernel_rfl) (fun q e => by cases e)) fun _ _ hq => ⟨gL [], fun _ _ => hq.1, (hS.below hq.2.below).sel [] rfl⟩
  ·intro o ho a w yg7 M Hb hv hO hS
   obtain rfl := Option.some.inj ho
   exact Stp.mono (o_evs [] (.bool inherited) none [] Hb rfl (by kernel_rfl) (fun q e => by cases e)) fun _ _ hq => ⟨gL [], fun _ _ => hq.1, (hS.below hq.2.below).sel [] rfl⟩
  ·intro o ho a w yg7 M Hb hv hO hS
   obtain rfl := Option.some.inj ho
   exact Stp.mono (o_evs [(.agg ⟨[.int .u8 first.Kind, .string ⟨⟨first.Word⟩⟩, .int .i64 first.Num, .int .u8 first.Color.Red, .int .u8 first.Color.Green, .int .u8 first.Color.Blue, .int .u8 first.Color.Alpha]⟩)] (.agg ⟨[.int .u8 first.Kind, .string ⟨⟨first.Word⟩⟩, .int .i64 first.Num, .int .u8 first.Color.Red, .int .u8 first.Color.Green, .int .u8 first.Color.Blue, .int .u8 first.Color.Alpha]⟩) (some (fun wz => V.atN b1 0 [.int .u8 first.Kind, .string ⟨⟨first.Word⟩⟩, .int .i64 first.Num, .int .u8 first.Color.Red, .int .u8 first.Color.Green, .int .u8 first.Color.Blue, .int .u8 first.Color.Alpha] 0 wz)) [] Hb rfl (by kernel_rfl) (fun q e => by cases e; exact ((hS.bk 0 rfl).atD rfl))) fun _ _ hq => ⟨gL [], fun _ _ => hq.1, (hS.below hq.2.below).sel [0] rfl⟩
  ·intro o ho a w yg7 M Hb hv hO hS
   obtain rfl := Option.some.inj ho
   exact Stp.mono (o_evs [] (.string ⟨⟨all_⟩⟩) none [] Hb rfl (by kernel_rfl) (fun q e => by cases e)) fun _ _ hq => ⟨gL [], fun _ _ => hq.1, (hS.below hq.2.below).sel [] rfl⟩
  ·intro o ho a w yg7 M Hb hv hO hS0
   obtain rfl := Option.some.inj ho
   have H : Fr 23 ([(16, [], .string ⟨⟨all_⟩⟩)] ++ [(0, [], .string ⟨⟨name_⟩⟩), (1, [], .bool inherited), (3, [], .string ⟨⟨all_⟩⟩), (4, [], .bool least), (5, [], .slice g_more.a more.length g_more.c), (8, [], .pointer (some ⟨b1, 0, none⟩)), (12, [], .pointer (some ⟨b4, 0, none⟩))]) _ := (Hb).add (hv 3 (by decide) (by decide) 16 rfl)
   obtain ⟨X, hX⟩ : ∃ X, X = fpl [gE0] := ⟨_, rfl⟩
   have hS : SH M X w [gE0] w := by rw [hX]; exact hS0
   have hd := hS.hand [0] [0] rfl rfl
   refine Stp.mono (o_callx H rfl rfl (strings_Fields_ok m _ _ hy8 _ _ hd)) ?_
   rintro v w2 hq
   obtain ⟨g9, rfl, hq⟩ := hq
   replace hS : SH M X w [Ent.own 9 tS y8 g9, gE0] _ := hS.join [0] [0] rfl rfl hq
   clear hq
   rw [hX] at hS
   exact ⟨gL [g9], fun _ _ => rfl, hS.sel [0, 1] rfl⟩
  ·intro o ho a w yg7 M Hb hv hO hS0
   obtain rfl := Option.some.inj ho
   have H : Fr 23 ([] ++ [(0, [], .string ⟨⟨name_⟩⟩), (1, [], .bool inherited), (3, [], .string ⟨⟨all_⟩⟩), (4, [], .bool least), (5, [], .slice g_more.a more.length g_more.c), (8, [], .pointer (some ⟨b1, 0, none⟩)), (12, [], .pointer (some ⟨b4, 0, none⟩))]) _ := Hb
   obtain ⟨X, hX⟩ : ∃ X, X = fpl [] := ⟨_, rfl⟩
   have hS : SH M X w [] w := by rw [hX]; exact hS0
   have hd := hS.hand [] [] rfl rfl
   refine Stp.mono (o_lit (T := (tI .u8)) (E := 5) (zv := .int .u8 0) [.int .u8 2, .int .u8 3, .int .u8 4] ([2, 3, 4] : List Int) [gL [], gL [], gL []] _ H hd rfl (by kernel_rfl) (by kernel_rfl) (by kernel_rfl) (by kernel_rfl) (by kernel_rfl) (by kernel_rfl) (by kernel_rfl) rfl (InnL.cons trivial (InnL.cons trivial (InnL.cons trivial InnL.nil)))) ?_
   rintro v w2 hq
   obtain ⟨g11, rfl, hq⟩ := hq
   replace hS : SH M X w [Ent.own 5 (tI .u8) ([2, 3, 4] : List Int) g11] _ := hS.join [] [] rfl rfl hq
   clear hq
   rw [hX] at hS
   exact ⟨gL [g11], fun _ _ => rfl, hS.sel [0] rfl⟩
  ·intro o ho a w yg7 M Hb hv hO hS
   obtain rfl := Option.some.inj ho
   exact Stp.mono (o_evs [] (.slice g_more.a more.length g_more.c) none [] Hb rfl (by kernel_rfl) (fun q e => by cases e)) fun _ _ hq => ⟨gL [], fun _ _ => hq.1, (hS.below hq.2.below).sel [] rfl⟩
  ·intro o ho a w yg7 M Hb hv hO hS0
   obtain rfl := Option.some.inj ho
   have H : Fr 23 ([(19, [], .slice g_more.a more.length g_more.c), (18, [], .slice (yg7 5 0).a 3 (yg7 5 0).c)] ++ [(0, [], .string ⟨⟨name_⟩⟩), (1, [], .bool inherited), (3, [], .string ⟨⟨all_⟩⟩), (4, [], .bool least), (5, [], .slice g_more.a more.length g_more.c), (8, [], .pointer (some ⟨b1, 0, none⟩)), (12, [], .pointer (some ⟨b4, 0, none⟩))]) _ := ((Hb).add (hv 5 (by decide) (by decide) 18 rfl)).add (hv 6 (by decide) (by decide) 19 rfl)
   obtain ⟨X, hX⟩ : ∃ X, X = fpl [Ent.own 5 (tI .u8) ([2, 3, 4] : List Int) (yg7 5 0), Ent.im (tI .u8) more g_more] := ⟨_, rfl⟩
   have hS : SH M X w [Ent.own 5 (tI .u8) ([2, 3, 4] : List Int) (yg7 5 0), Ent.im (tI .u8) more g_more] w := by rw [hX]; exact hS0
   have hd := hS.hand [0, 1] [1] rfl rfl
   refine Stp.mono (o_app (T := (tI .u8)) (zv := .int .u8 0) (g1 := (yg7 5 0)) (g2 := g_more) (l1 := ([2, 3, 4] : List Int)) (l2 := more) q14 hq14.symm H hd rfl rfl rfl rfl rfl rfl rfl (by kernel_rfl) (by kernel_rfl) rfl rfl ho13) ?_
   rintro v w2 hq
   obtain ⟨g15, rfl, hq⟩ := hq
   replace hS : SH M X w [Ent.own 5 (tI .u8) q14 g15, Ent.im (tI .u8) more g_more] _ := hS.join [0, 1] [1] rfl rfl hq
   clear hq
   rw [hX] at hS
   exact ⟨gL [g15], fun _ _ => rfl, hS.sel [0, 1] rfl⟩
  ·intro o ho a w yg7 M Hb hv hO hS
   obtain rfl := Option.some.inj ho
   exact Stp.mono (o_evs [] (.bool least) none [] Hb rfl (by kernel_rfl) (fun q e => by cases e)) fun _ _ hq => ⟨gL [], fun _ _ => hq.1, (hS.below hq.2.below).sel [] rfl⟩
  ·intro o ho a w yg7 M Hb hv hO hS
   obtain rfl := Option.some.inj ho
   exact Stp.mono (o_evs [] (.agg ⟨[.string ⟨⟨name_⟩⟩, .bool inherited, .int .u8 first.Kind, .string ⟨⟨first.Word⟩⟩, .int .i64 first.Num, .int .u8 first.Color.Red, .int .u8 first.Color.Green, .int .u8 first.Color.Blue, .int .u8 first.Color.Alpha, .slice (yg7 4 0).a y8.length (yg7 4 0).c, .slice (yg7 7 0).a q14.length (yg7 7 0).c, .bool least]⟩) none [] (((((((Hb).add (hv 0 (by decide) (by decide) 13 rfl)).add (hv 1 (by decide) (by decide) 14 rfl)).add (hv 2 (by decide) (by decide) 15 rfl)).add (hv 4 (by decide) (by decide) 17 rfl)).add (hv 7 (by decide) (by decide) 20 rfl)).add (hv 8 (by decide) (by decide) 21 rfl)) rfl (by kernel_rfl) (fun q e => by cases e)) fun _ _ hq => ⟨gL [], fun _ _ => hq.1, (hS.below hq.2.below).sel [0, 1] rfl⟩
  ·intro o ho a w yg7 M Hb hv hO hS0
   obtain rfl := Option.some.inj ho
   have H : Fr 23 ([(22, [], .agg ⟨[.string ⟨⟨name_⟩⟩, .bool inherited, .int .u8 first.Kind, .string ⟨⟨first.Word⟩⟩, .int .i64 first.Num, .int .u8 first.Color.Red, .int .u8 first.Color.Green, .int .u8 first.Color.Blue, .int .u8 first.Color.Alpha, .slice (yg7 4 0).a y8.length (yg7 4 0).c, .slice (yg7 7 0).a q14.length (yg7 7 0).c, .bool least]⟩)] ++ [(0, [], .string ⟨⟨name_⟩⟩), (1, [], .bool inherited), (3, [], .string ⟨⟨all_⟩⟩), (4, [], .bool least), (5, [], .slice g_more.a more.length g_more.c), (8, [], .pointer (some ⟨b1, 0, none⟩)), (12, [], .pointer (some ⟨b4, 0, none⟩))]) _ := (Hb).add (hv 9 (by decide) (by decide) 22 rfl)
   obtain ⟨X, hX⟩ : ∃ X, X = fpl [Ent.own 9 tS y8 (yg7 4 0), Ent.own 5 (tI .u8) q14 (yg7 7 0), Ent.blk b4 [.string ⟨⟨[]⟩⟩, .bool false, .int .u8 0, .string ⟨⟨[]⟩⟩, .int .i64 0, .int .u8 0, .int .u8 0, .int .u8 0, .int .u8 0, .slice none 0 0, .slice none 0 0, .bool false]] := ⟨_, rfl⟩
   have hS : SH M X w [Ent.own 9 tS y8 (yg7 4 0), Ent.own 5 (tI .u8) q14 (yg7 7 0), Ent.blk b4 [.string ⟨⟨[]⟩⟩, .bool false, .int .u8 0, .string ⟨⟨[]⟩⟩, .int .i64 0, .int .u8 0, .int .u8 0, .int .u8 0, .int .u8 0, .slice none 0 0, .slice none 0 0, .bool false]] w := by rw [hX]; exact hS0
   have hd := hS.hand [2] [0, 1] rfl rfl
   refine Stp.mono (o_store [.string ⟨⟨name_⟩⟩, .bool inherited, .int .u8 first.Kind, .string ⟨⟨first.Word⟩⟩, .int .i64 first.Num, .int .u8 first.Color.Red, .int .u8 first.Color.Green, .int .u8 first.Color.Blue, .int .u8 first.Color.Alpha, .slice (yg7 4 0).a y8.length (yg7 4 0).c, .slice (yg7 7 0).a q14.length (yg7 7 0).c, .bool least] H hd rfl rfl (by kernel_rfl) rfl rfl rfl) ?_
   rintro v w2 hq
   replace hS : SH M X w [Ent.blk b4 [.string ⟨⟨name_⟩⟩, .bool inherited, .int .u8 first.Kind, .string ⟨⟨first.Word⟩⟩, .int .i64 first.Num, .int .u8 first.Color.Red, .int .u8 first.Color.Green, .int .u8 first.Color.Blue, .int .u8 first.Color.Alpha, .slice (yg7 4 0).a y8.length (yg7 4 0).c, .slice (yg7 7 0).a q14.length (yg7 7 0).c, .bool least], Ent.own 9 tS y8 (yg7 4 0), Ent.own 5 (tI .u8) q14 (yg7 7 0)] _ := hS.join [2] [0, 1] rfl rfl hq
   clear hq
   rw [hX] at hS
   exact ⟨gL [], (fun _ h => by cases h), hS.sel [0, 1, 2] rfl⟩
 have H18 : Fr 23 [(12, [], .pointer (some ⟨b4, 0, none⟩))] _ := (FrG.keep (ks := [12]) H17 (by kernel_rfl))
 replace hS : SH M X w [Ent.own 9 tS y8 (yg7 4 0), Ent.own 5 (tI .u8) q14 (yg7 7 0), Ent.blk b4 [.string ⟨⟨name_⟩⟩, .bool inherited, .int .u8 first.Kind, .string ⟨⟨first.Word⟩⟩, .int .i64 first.Num, .int .u8 first.Color.Red, .int .u8 first.Color.Green, .int .u8 first.Color.Blue, .int .u8 first.Color.Alpha, .slice (yg7 4 0).a y8.length (yg7 4 0).c, .slice (yg7 7 0).a q14.length (yg7 7 0).c, .bool least], Ent.blk b1 [.int .u8 first.Kind, .string ⟨⟨first.Word⟩⟩, .int .i64 first.Num, .int .u8 first.Color.Red, .int .u8 first.Color.Green, .int .u8 first.Color.Blue, .int .u8 first.Color.Alpha], Ent.im (tI .u8) more g_more, gE0] _ := hS
 clear hv H17
 generalize yg7 4 0 = g19 at H18 hS
 generalize yg7 7 0 = g20 at H18 hS
 replace hS : SH M X w [Ent.own 9 tS y8 g19, Ent.own 5 (tI .u8) q14 g20, Ent.blk b4 [.string ⟨⟨name_⟩⟩, .bool inherited, .int .u8 first.Kind, .string ⟨⟨first.Word⟩⟩, .int .i64 first.Num, .int .u8 first.Color.Red, .int .u8 first.Color.Green, .int .u8 first.Color.Blue, .int .u8 first.Color.Alpha, .slice g19.a y8.length g19.c, .slice g20.a q14.length g20.c, .bool least], gE0] _ := hS.sel [0, 1, 2, 5] rfl
 refine w_ret ?_
 obtain rfl := someE hm
 exact retR1 H18 rfl (oneRes_agg rfl (hS.bk 2 rfl) Tryd.underlying51 rfl (by kernel_rfl)) ⟨_, rfl, g19, g20, rfl, (hS.sel [0, 1] rfl)⟩
theorem props_length_ok {g_more : Gh} (m : Nat) (name_ : Str) (inherited : Bool) (first : TVal) (all_ : Str) (least : Bool) (more : List Int) (r : TProp) (hm : props_length m name_ inherited first all_ least more = some r) (M : Av) (w : World) (hS : S0 M [Ent.im (tI .u8) more g_more, gE0] w) : DoesX Tryd.prog 34 ⟨[.string ⟨⟨name_⟩⟩, .bool inherited, .agg ⟨[.int .u8 first.Kind, .string ⟨⟨first.Word⟩⟩, .int .i64 first.Num, .int .u8 first.Color.Red, .int .u8 first.Color.Green, .int .u8 first.Color.Blue, .int .u8 first.Color.Alpha]⟩, .string ⟨⟨all_⟩⟩, .bool least, .slice g_more.a more.length g_more.c]⟩ w (fun v w' => ∃ (g901 : Gh) (g903 : Gh), v = .agg ⟨[.string ⟨⟨r.Name⟩⟩, .bool r.Inherited, .int .u8 r.Initial.Kind, .string ⟨⟨r.Initial.Word⟩⟩, .int .i64 r.Initial.Num, .int .u8 r.Initial.Color.Red, .int .u8 r.Initial.Color.Green, .int .u8 r.Initial.Color.Blue, .int .u8 r.Initial.Color.Alpha, .slice g901.a r.Words.length g901.c, .slice g903.a r.Kinds.length g903.c, .bool r.Least]⟩ ∧ SH M (fpl [Ent.im (tI .u8) more g_more, gE0]) w [Ent.own 9 tS r.Words g901, Ent.own 5 (tI .u8) r.Kinds g903] w') := ⟨Tryd.call34 _, props_length_w M m   name_ inherited first all_ least more r hm w hS⟩

def props_Table_L1 (m : Nat)  : Nat → (List TProp) → Int → Option (List TProp)
  | 0, _, _ => none
  | kk + 1, v88, v90 =>
    cond (decide (v90 < 4)) (
    chk (0 ≤ v90 ∧ v90 < ln ([[116, 111, 112], [114, 105, 103, 104, 116], [98, 111, 116, 116, 111, 109], [108, 101, 102, 116]] : List Str)) <|
    lt ((gi ([[116, 111, 112], [114, 105, 103, 104, 116], [98, 111, 116, 116, 111, 109], [108, 101, 102, 116]] : List Str) v90)) fun x94 =>
    chk (ln [109, 97, 114, 103, 105, 110, 45] + ln x94 ≤ 9223372036854775807) <|
    Option.bind (props_length m ([109, 97, 114, 103, 105, 110, 45] ++ x94) false (TVal.mk 2 [] 0 (TColor.mk 0 0 0 0)) [97, 117, 116, 111] false []) fun y101 =>
    chk (ln v88 + ln ([y101] : List TProp) ≤ 1099511627776) <|
    lt (v88 ++ ([y101] : List TProp)) fun q113 =>
    props_Table_L1 m  kk q113 (w64 (v90 + 1))) (
    some v88)
def props_Table (m : Nat)  : Option (List TProp) :=
  lt (props_word [97, 117, 116, 111]) fun y3 =>
  lt (props_color [99, 111, 108, 111, 114] true (TVal.mk 7 [] 0 (TColor.mk 0 0 0 255))) fun y17 =>
  lt (props_color [98, 97, 99, 107, 103, 114, 111, 117, 110, 100, 45, 99, 111, 108, 111, 114] false (TVal.mk 7 [] 0 (TColor.mk 0 0 0 0))) fun y22 =>
  lt (props_color [98, 111, 114, 100, 101, 114, 45, 99, 111, 108, 111, 114] false (TVal.mk 8 [] 0 (TColor.mk 0 0 0 0))) fun y27 =>
  lt (props_color [111, 117, 116, 108, 105, 110, 101, 45, 99, 111, 108, 111, 114] false (TVal.mk 8 [] 0 (TColor.mk 0 0 0 0))) fun y32 =>
  Option.bind (props_words m [100, 105, 115, 112, 108, 97, 121] false [105, 110, 108, 105, 110, 101] [98, 108, 111, 99, 107, 32, 102, 108, 101, 120, 32, 105, 110, 108, 105, 110, 101, 32, 105, 110, 108, 105, 110, 101, 45, 98, 108, 111, 99, 107, 32, 110, 111, 110, 101]) fun y37 =>
  Option.bind (props_words m [118, 105, 115, 105, 98, 105, 108, 105, 116, 121] true [118, 105, 115, 105, 98, 108, 101] [99, 111, 108, 108, 97, 112, 115, 101, 32, 104, 105, 100, 100, 101, 110, 32, 118, 105, 115, 105, 98, 108, 101]) fun y42 =>
  Option.bind (props_length m [119, 105, 100, 116, 104] false y3 [97, 117, 116, 111] true []) fun y48 =>
  Option.bind (props_length m [104, 101, 105, 103, 104, 116] false y3 [97, 117, 116, 111] true []) fun y54 =>
  Option.bind (
  props_Table_L1 m  m ([y17, y22, y27, y32, y37, y42, y48, y54] : List TProp) 0) fun (z81 : List TProp) =>
  Option.bind (props_length m [102, 111, 110, 116, 45, 115, 105, 122, 101] true (TVal.mk 2 [] 16000 (TColor.mk 0 0 0 0)) [] true []) fun y126 =>
  lt (props_word [110, 111, 114, 109, 97, 108]) fun y131 =>
  Option.bind (props_length m [108, 105, 110, 101, 45, 104, 101, 105, 103, 104, 116] true y131 [110, 111, 114, 109, 97, 108] true ([5] : List Int)) fun y134 =>
  Option.bind (props_words m [116, 101, 120, 116, 45, 97, 108, 105, 103, 110] true [108, 101, 102, 116] [99, 101, 110, 116, 101, 114, 32, 106, 117, 115, 116, 105, 102, 121, 32, 108, 101, 102, 116, 32, 114, 105, 103, 104, 116]) fun y139 =>
  chk (ln z81 + ln ([y126, y134, y139, (TProp.mk [111, 112, 97, 99, 105, 116, 121] false (TVal.mk 5 [] 1000 (TColor.mk 0 0 0 0)) [] ([5] : List Int) false), (TProp.mk [122, 45, 105, 110, 100, 101, 120] false y3 ([[97, 117, 116, 111]] : List Str) ([6] : List Int) false), (TProp.mk [111, 114, 100, 101, 114] false (TVal.mk 6 [] 0 (TColor.mk 0 0 0 0)) [] ([6] : List Int) false)] : List TProp) ≤ 1099511627776) <|
  lt (z81 ++ ([y126, y134, y139, (TProp.mk [111, 112, 97, 99, 105, 116, 121] false (TVal.mk 5 [] 1000 (TColor.mk 0 0 0 0)) [] ([5] : List Int) false), (TProp.mk [122, 45, 105, 110, 100, 101, 120] false y3 ([[97, 117, 116, 111]] : List Str) ([6] : List Int) false), (TProp.mk [111, 114, 100, 101, 114] false (TVal.mk 6 [] 0 (TColor.mk 0 0 0 0)) [] ([6] : List Int) false)] : List TProp)) fun q155 =>
  some q155
theorem props_Table_w  (M : Av) (m : Nat)  (r : List TProp) (hm : props_Table m = some r) (w : World) (hS : S0 M [gE0] w) : Calls Tryd.prog 22 ⟨[]⟩ w (fun e w' => ∃ v, e = .returned v ∧ ∃ (g901 : Gh), v = .slice g901.a r.length g901.c ∧ SH M (fpl [gE0]) w [Ent.own 51 tyProp r g901] w') := by
 rw [props_Table] at hm
 have hS0 : SH M (fpl [gE0]) w [gE0] w := hS
 generalize hX : fpl [gE0] = X at hS0 ⊢
 clear hS hX
 have hS := hS0
 clear hS0
 refine calls_entryP Tryd.func22 rfl Tryd.ntmps22 rfl fun _ H => ?_
 refine s_reg [] [] [] [] H (by kernel_rfl) trivial fun _ wd1 H2 hb => ?_
 clear H
 replace hS := hS.below hb
 clear hb
 refine w_seq ?_
 refine wl_start ?_
 obtain ⟨y3, hy3, hm⟩ := letE hm
 refine wl_batch 0 2 [(.agg ⟨[.int .u8 y3.Kind, .string ⟨⟨y3.Word⟩⟩, .int .i64 y3.Num, .int .u8 y3.Color.Red, .int .u8 y3.Color.Green, .int .u8 y3.Color.Blue, .int .u8 y3.Color.Alpha]⟩)] [6, 7] [(6, [], .agg ⟨[.int .u8 y3.Kind, .string ⟨⟨y3.Word⟩⟩, .int .i64 y3.Num, .int .u8 y3.Color.Red, .int .u8 y3.Color.Green, .int .u8 y3.Color.Blue, .int .u8 y3.Color.Alpha]⟩), (7, [], .agg ⟨[.int .u8 2, .string ⟨⟨[]⟩⟩, .int .i64 0, .int .u8 0, .int .u8 0, .int .u8 0, .int .u8 0]⟩)] [fun wz => RetB Tryd.prog 31 ⟨[.string ⟨⟨[97, 117, 116, 111]⟩⟩]⟩ (.agg ⟨[.int .u8 y3.Kind, .string ⟨⟨y3.Word⟩⟩, .int .i64 y3.Num, .int .u8 y3.Color.Red, .int .u8 y3.Color.Green, .int .u8 y3.Color.Blue, .int .u8 y3.Color.Alpha]⟩) wz] H2 (by decide) (by subst hy3; kernel_rfl) ⟨((by rw [hy3]; exact (props_word_ok _).b)), trivial⟩ fun _ wd4 H5 hb => ?_
 clear H2
 replace hS := hS.below hb
 clear hb
 have hd := hS.hand [] [0] rfl rfl
 refine m_stp [1, 6, 7] [(6, [], .agg ⟨[.int .u8 y3.Kind, .string ⟨⟨y3.Word⟩⟩, .int .i64 y3.Num, .int .u8 y3.Color.Red, .int .u8 y3.Color.Green, .int .u8 y3.Color.Blue, .int .u8 y3.Color.Alpha]⟩), (7, [], .agg ⟨[.int .u8 2, .string ⟨⟨[]⟩⟩, .int .i64 0, .int .u8 0, .int .u8 0, .int .u8 0, .int .u8 0]⟩)] H5 rfl rfl rfl rfl (o_alloc [.int .u8 0, .string ⟨⟨[]⟩⟩, .int .i64 0, .int .u8 0, .int .u8 0, .int .u8 0, .int .u8 0] (z := .agg ⟨[.int .u8 0, .string ⟨⟨[]⟩⟩, .int .i64 0, .int .u8 0, .int .u8 0, .int .u8 0, .int .u8 0]⟩) hd (by kernel_rfl) rfl) (fun _ => rfl) fun _ wd7 v H8 hq => ?_
 clear H5 hd
 obtain ⟨b6, rfl, hq⟩ := hq
 replace hS : SH M X w [Ent.blk b6 [.int .u8 0, .string ⟨⟨[]⟩⟩, .int .i64 0, .int .u8 0, .int .u8 0, .int .u8 0, .int .u8 0], gE0] _ := hS.join [] [0] rfl rfl hq
 clear hq
 have hd := hS.hand [] [0, 1] rfl rfl
 refine m_stp [2, 1, 6, 7] [(1, [], .pointer (some ⟨b6, 0, none⟩)), (6, [], .agg ⟨[.int .u8 y3.Kind, .string ⟨⟨y3.Word⟩⟩, .int .i64 y3.Num, .int .u8 y3.Color.Red, .int .u8 y3.Color.Green, .int .u8 y3.Color.Blue, .int .u8 y3.Color.Alpha]⟩), (7, [], .agg ⟨[.int .u8 2, .string ⟨⟨[]⟩⟩, .int .i64 0, .int .u8 0, .int .u8 0, .int .u8 0, .int .u8 0]⟩)] H8 rfl rfl rfl rfl (o_alloc [.int .u8 0, .string ⟨⟨[]⟩⟩, .int .i64 0, .int .u8 0, .int .u8 0, .int .u8 0, .int .u8 0] (z := .agg ⟨[.int .u8 0, .string ⟨⟨[]⟩⟩, .int .i64 0, .int .u8 0, .int .u8 0, .int .u8 0, .int .u8 0]⟩) hd (by kernel_rfl) rfl) (fun _ => rfl) fun _ wd10 v H11 hq => ?_
 clear H8 hd
 obtain ⟨b9, rfl, hq⟩ := hq
 replace hS : SH M X w [Ent.blk b9 [.int .u8 0, .string ⟨⟨[]⟩⟩, .int .i64 0, .int .u8 0, .int .u8 0, .int .u8 0, .int .u8 0], Ent.blk b6 [.int .u8 0, .string ⟨⟨[]⟩⟩, .int .i64 0, .int .u8 0, .int .u8 0, .int .u8 0, .int .u8 0], gE0] _ := hS.join [] [0, 1] rfl rfl hq
 clear hq
 have hd := hS.hand [1] [0, 2] rfl rfl
 refine m_stp0 [1, 2, 7] [(1, [], .pointer (some ⟨b6, 0, none⟩)), (2, [], .pointer (some ⟨b9, 0, none⟩)), (7, [], .agg ⟨[.int .u8 2, .string ⟨⟨[]⟩⟩, .int .i64 0, .int .u8 0, .int .u8 0, .int .u8 0, .int .u8 0]⟩)] H11 rfl rfl rfl (o_store [.int .u8 y3.Kind, .string ⟨⟨y3.Word⟩⟩, .int .i64 y3.Num, .int .u8 y3.Color.Red, .int .u8 y3.Color.Green, .int .u8 y3.Color.Blue, .int .u8 y3.Color.Alpha] H11 hd rfl rfl (by kernel_rfl) rfl rfl rfl) rfl fun _ wd12 H13 hq => ?_
 clear H11 hd
 obtain ⟨_, hq⟩ := hq
 replace hS : SH M X w [Ent.blk b6 [.int .u8 y3.Kind, .string ⟨⟨y3.Word⟩⟩, .int .i64 y3.Num, .int .u8 y3.Color.Red, .int .u8 y3.Color.Green, .int .u8 y3.Color.Blue, .int .u8 y3.Color.Alpha], Ent.blk b9 [.int .u8 0, .string ⟨⟨[]⟩⟩, .int .i64 0, .int .u8 0, .int .u8 0, .int .u8 0, .int .u8 0], gE0] _ := hS.join [1] [0, 2] rfl rfl hq
 clear hq
 have hd := hS.hand [1] [0, 2] rfl rfl
 refine m_stp0 [1, 2] [(1, [], .pointer (some ⟨b6, 0, none⟩)), (2, [], .pointer (some ⟨b9, 0, none⟩))] H13 rfl rfl rfl (o_store [.int .u8 2, .string ⟨⟨[]⟩⟩, .int .i64 0, .int .u8 0, .int .u8 0, .int .u8 0, .int .u8 0] H13 hd rfl rfl (by kernel_rfl) rfl rfl rfl) rfl fun _ wd14 H15 hq => ?_
 clear H13 hd
 obtain ⟨_, hq⟩ := hq
 replace hS : SH M X w [Ent.blk b9 [.int .u8 2, .string ⟨⟨[]⟩⟩, .int .i64 0, .int .u8 0, .int .u8 0, .int .u8 0, .int .u8 0], Ent.blk b6 [.int .u8 y3.Kind, .string ⟨⟨y3.Word⟩⟩, .int .i64 y3.Num, .int .u8 y3.Color.Red, .int .u8 y3.Color.Green, .int .u8 y3.Color.Blue, .int .u8 y3.Color.Alpha], gE0] _ := hS.join [1] [0, 2] rfl rfl hq
 clear hq
 refine wl_end rfl ?_
 obtain ⟨y17, hy17, hm⟩ := letE hm
 obtain ⟨y22, hy22, hm⟩ := letE hm
 obtain ⟨y27, hy27, hm⟩ := letE hm
 obtain ⟨y32, hy32, hm⟩ := letE hm
 obtain ⟨y37, hy37, hm⟩ := bindE hm
 obtain ⟨y42, hy42, hm⟩ := bindE hm
 obtain ⟨y48, hy48, hm⟩ := bindE hm
 obtain ⟨y54, hy54, hm⟩ := bindE hm
 refine s_drawS (base := [(1, [], .pointer (some ⟨b6, 0, none⟩)), (2, [], .pointer (some ⟨b9, 0, none⟩))]) (L := [Ent.blk b9 [.int .u8 2, .string ⟨⟨[]⟩⟩, .int .i64 0, .int .u8 0, .int .u8 0, .int .u8 0, .int .u8 0], Ent.blk b6 [.int .u8 y3.Kind, .string ⟨⟨y3.Word⟩⟩, .int .i64 y3.Num, .int .u8 y3.Color.Red, .int .u8 y3.Color.Green, .int .u8 y3.Color.Blue, .int .u8 y3.Color.Alpha], gE0]) 17 3 (fun yg16 => [.agg ⟨[.int .u8 0, .int .u8 0, .int .u8 0, .int .u8 255]⟩, .agg ⟨[.int .u8 7, .string ⟨⟨[]⟩⟩, .int .i64 0, .int .u8 0, .int .u8 0, .int .u8 0, .int .u8 255]⟩, .agg ⟨[.string ⟨⟨y17.Name⟩⟩, .bool y17.Inherited, .int .u8 y17.Initial.Kind, .string ⟨⟨y17.Initial.Word⟩⟩, .int .i64 y17.Initial.Num, .int .u8 y17.Initial.Color.Red, .int .u8 y17.Initial.Color.Green, .int .u8 y17.Initial.Color.Blue, .int .u8 y17.Initial.Color.Alpha, .slice (yg16 2 0).a y17.Words.length (yg16 2 0).c, .slice (yg16 2 1).a y17.Kinds.length (yg16 2 1).c, .bool y17.Least]⟩, .agg ⟨[.int .u8 7, .string ⟨⟨[]⟩⟩, .int .i64 0, .int .u8 0, .int .u8 0, .int .u8 0, .int .u8 0]⟩, .agg ⟨[.string ⟨⟨y22.Name⟩⟩, .bool y22.Inherited, .int .u8 y22.Initial.Kind, .string ⟨⟨y22.Initial.Word⟩⟩, .int .i64 y22.Initial.Num, .int .u8 y22.Initial.Color.Red, .int .u8 y22.Initial.Color.Green, .int .u8 y22.Initial.Color.Blue, .int .u8 y22.Initial.Color.Alpha, .slice (yg16 4 0).a y22.Words.length (yg16 4 0).c, .slice (yg16 4 1).a y22.Kinds.length (yg16 4 1).c, .bool y22.Least]⟩, .agg ⟨[.int .u8 8, .string ⟨⟨[]⟩⟩, .int .i64 0, .int .u8 0, .int .u8 0, .int .u8 0, .int .u8 0]⟩, .agg ⟨[.string ⟨⟨y27.Name⟩⟩, .bool y27.Inherited, .int .u8 y27.Initial.Kind, .string ⟨⟨y27.Initial.Word⟩⟩, .int .i64 y27.Initial.Num, .int .u8 y27.Initial.Color.Red, .int .u8 y27.Initial.Color.Green, .int .u8 y27.Initial.Color.Blue, .int .u8 y27.Initial.Color.Alpha, .slice (yg16 6 0).a y27.Words.length (yg16 6 0).c, .slice (yg16 6 1).a y27.Kinds.length (yg16 6 1).c, .bool y27.Least]⟩, .agg ⟨[.int .u8 8, .string ⟨⟨[]⟩⟩, .int .i64 0, .int .u8 0, .int .u8 0, .int .u8 0, .int .u8 0]⟩, .agg ⟨[.string ⟨⟨y32.Name⟩⟩, .bool y32.Inherited, .int .u8 y32.Initial.Kind, .string ⟨⟨y32.Initial.Word⟩⟩, .int .i64 y32.Initial.Num, .int .u8 y32.Initial.Color.Red, .int .u8 y32.Initial.Color.Green, .int .u8 y32.Initial.Color.Blue, .int .u8 y32.Initial.Color.Alpha, .slice (yg16 8 0).a y32.Words.length (yg16 8 0).c, .slice (yg16 8 1).a y32.Kinds.length (yg16 8 1).c, .bool y32.Least]⟩, .agg ⟨[.string ⟨⟨y37.Name⟩⟩, .bool y37.Inherited, .int .u8 y37.Initial.Kind, .string ⟨⟨y37.Initial.Word⟩⟩, .int .i64 y37.Initial.Num, .int .u8 y37.Initial.Color.Red, .int .u8 y37.Initial.Color.Green, .int .u8 y37.Initial.Color.Blue, .int .u8 y37.Initial.Color.Alpha, .slice (yg16 9 0).a y37.Words.length (yg16 9 0).c, .slice (yg16 9 1).a y37.Kinds.length (yg16 9 1).c, .bool y37.Least]⟩, .agg ⟨[.string ⟨⟨y42.Name⟩⟩, .bool y42.Inherited, .int .u8 y42.Initial.Kind, .string ⟨⟨y42.Initial.Word⟩⟩, .int .i64 y42.Initial.Num, .int .u8 y42.Initial.Color.Red, .int .u8 y42.Initial.Color.Green, .int .u8 y42.Initial.Color.Blue, .int .u8 y42.Initial.Color.Alpha, .slice (yg16 10 0).a y42.Words.length (yg16 10 0).c, .slice (yg16 10 1).a y42.Kinds.length (yg16 10 1).c, .bool y42.Least]⟩, .agg ⟨[.int .u8 y3.Kind, .string ⟨⟨y3.Word⟩⟩, .int .i64 y3.Num, .int .u8 y3.Color.Red, .int .u8 y3.Color.Green, .int .u8 y3.Color.Blue, .int .u8 y3.Color.Alpha]⟩, .agg ⟨[.string ⟨⟨y48.Name⟩⟩, .bool y48.Inherited, .int .u8 y48.Initial.Kind, .string ⟨⟨y48.Initial.Word⟩⟩, .int .i64 y48.Initial.Num, .int .u8 y48.Initial.Color.Red, .int .u8 y48.Initial.Color.Green, .int .u8 y48.Initial.Color.Blue, .int .u8 y48.Initial.Color.Alpha, .slice (yg16 12 0).a y48.Words.length (yg16 12 0).c, .slice (yg16 12 1).a y48.Kinds.length (yg16 12 1).c, .bool y48.Least]⟩, .agg ⟨[.int .u8 y3.Kind, .string ⟨⟨y3.Word⟩⟩, .int .i64 y3.Num, .int .u8 y3.Color.Red, .int .u8 y3.Color.Green, .int .u8 y3.Color.Blue, .int .u8 y3.Color.Alpha]⟩, .agg ⟨[.string ⟨⟨y54.Name⟩⟩, .bool y54.Inherited, .int .u8 y54.Initial.Kind, .string ⟨⟨y54.Initial.Word⟩⟩, .int .i64 y54.Initial.Num, .int .u8 y54.Initial.Color.Red, .int .u8 y54.Initial.Color.Green, .int .u8 y54.Initial.Color.Blue, .int .u8 y54.Initial.Color.Alpha, .slice (yg16 14 0).a y54.Words.length (yg16 14 0).c, .slice (yg16 14 1).a y54.Kinds.length (yg16 14 1).c, .bool y54.Least]⟩, .slice (yg16 15 0).a 8 (yg16 15 0).c, .slice (yg16 15 0).a 8 (yg16 15 0).c]) (fun yg16 => [[], [], [Ent.own 9 tS y17.Words (yg16 2 0), Ent.own 5 (tI .u8) y17.Kinds (yg16 2 1)], [], [Ent.own 9 tS y22.Words (yg16 4 0), Ent.own 5 (tI .u8) y22.Kinds (yg16 4 1)], [], [Ent.own 9 tS y27.Words (yg16 6 0), Ent.own 5 (tI .u8) y27.Kinds (yg16 6 1)], [], [Ent.own 9 tS y32.Words (yg16 8 0), Ent.own 5 (tI .u8) y32.Kinds (yg16 8 1)], [Ent.own 9 tS y37.Words (yg16 9 0), Ent.own 5 (tI .u8) y37.Kinds (yg16 9 1)], [Ent.own 9 tS y42.Words (yg16 10 0), Ent.own 5 (tI .u8) y42.Kinds (yg16 10 1)], [], [Ent.own 9 tS y48.Words (yg16 12 0), Ent.own 5 (tI .u8) y48.Kinds (yg16 12 1), Ent.im (tI .u8) ([] : List Int) (.nil)], [], [Ent.own 9 tS y54.Words (yg16 14 0), Ent.own 5 (tI .u8) y54.Kinds (yg16 14 1), Ent.im (tI .u8) ([] : List Int) (.nil)], [Ent.own 51 tyProp ([y17, y22, y27, y32, y37, y42, y48, y54] : List TProp) (yg16 15 0), Ent.im (tI .u8) y54.Kinds (yg16 14 1), Ent.im tS y54.Words (yg16 14 0), Ent.im (tI .u8) y48.Kinds (yg16 12 1), Ent.im tS y48.Words (yg16 12 0), Ent.im (tI .u8) y42.Kinds (yg16 10 1), Ent.im tS y42.Words (yg16 10 0), Ent.im (tI .u8) y37.Kinds (yg16 9 1), Ent.im tS y37.Words (yg16 9 0), Ent.im (tI .u8) y32.Kinds (yg16 8 1), Ent.im tS y32.Words (yg16 8 0), Ent.im (tI .u8) y27.Kinds (yg16 6 1), Ent.im tS y27.Words (yg16 6 0), Ent.im (tI .u8) y22.Kinds (yg16 4 1), Ent.im tS y22.Words (yg16 4 0), Ent.im (tI .u8) y17.Kinds (yg16 2 1), Ent.im tS y17.Words (yg16 2 0), Ent.im (tI .u8) ([] : List Int) (.nil), Ent.im (tI .u8) ([] : List Int) (.nil)], []]) [[], [], [], [], [], [], [], [], [], [19], [19], [18], [19], [18], [19], [2, 4, 6, 8, 9, 10, 12, 14], [15]] [[], [], [], [], [], [], [], [], [], [], [], [], [], [], [], [2, 4, 6, 8, 9, 10, 12, 14], []] [[0], [0, 1], [0, 1, 2], [3], [3, 4], [5], [5, 6], [7], [7, 8], [9], [10], [11], [11, 12], [13], [13, 14], [0, 1, 2, 3, 4, 5, 6, 7, 8, 9, 10, 11, 12, 13, 14, 15], [0, 1, 2, 3, 4, 5, 6, 7, 8, 9, 10, 11, 12, 13, 14, 15, 16]] [] (FrG.keep (ks := [1, 2]) H15 (by kernel_rfl)) (fun _ _ h => by cases h) (by kernel_rfl) hS (by kernel_rfl) rfl rfl (by kernel_rfl) (by kernel_rfl) (by kernel_rfl) (gd_none (by kernel_rfl) _ _) ?hloc_yg16 ?hstep_yg16 fun _ wd61 yg16 H62 hv hS => ?hK_yg16
 case hloc_yg16 => exact ⟨(fun _ _ _ _ => ⟨rfl, rfl⟩), (fun _ _ _ _ => ⟨rfl, rfl⟩), (fun _ i g hi => lcG [2] (fun yg16 => (.agg ⟨[.string ⟨⟨y17.Name⟩⟩, .bool y17.Inherited, .int .u8 y17.Initial.Kind, .string ⟨⟨y17.Initial.Word⟩⟩, .int .i64 y17.Initial.Num, .int .u8 y17.Initial.Color.Red, .int .u8 y17.Initial.Color.Green, .int .u8 y17.Initial.Color.Blue, .int .u8 y17.Initial.Color.Alpha, .slice (yg16 2 0).a y17.Words.length (yg16 2 0).c, .slice (yg16 2 1).a y17.Kinds.length (yg16 2 1).c, .bool y17.Least]⟩, [Ent.own 9 tS y17.Words (yg16 2 0), Ent.own 5 (tI .u8) y17.Kinds (yg16 2 1)])) hi rfl), (fun _ _ _ _ => ⟨rfl, rfl⟩), (fun _ i g hi => lcG [4] (fun yg16 => (.agg ⟨[.string ⟨⟨y22.Name⟩⟩, .bool y22.Inherited, .int .u8 y22.Initial.Kind, .string ⟨⟨y22.Initial.Word⟩⟩, .int .i64 y22.Initial.Num, .int .u8 y22.Initial.Color.Red, .int .u8 y22.Initial.Color.Green, .int .u8 y22.Initial.Color.Blue, .int .u8 y22.Initial.Color.Alpha, .slice (yg16 4 0).a y22.Words.length (yg16 4 0).c, .slice (yg16 4 1).a y22.Kinds.length (yg16 4 1).c, .bool y22.Least]⟩, [Ent.own 9 tS y22.Words (yg16 4 0), Ent.own 5 (tI .u8) y22.Kinds (yg16 4 1)])) hi rfl), (fun _ _ _ _ => ⟨rfl, rfl⟩), (fun _ i g hi => lcG [6] (fun yg16 => (.agg ⟨[.string ⟨⟨y27.Name⟩⟩, .bool y27.Inherited, .int .u8 y27.Initial.Kind, .string ⟨⟨y27.Initial.Word⟩⟩, .int .i64 y27.Initial.Num, .int .u8 y27.Initial.Color.Red, .int .u8 y27.Initial.Color.Green, .int .u8 y27.Initial.Color.Blue, .int .u8 y27.Initial.Color.Alpha, .slice (yg16 6 0).a y27.Words.length (yg16 6 0).c, .slice (yg16 6 1).a y27.Kinds.length (yg16 6 1).c, .bool y27.Least]⟩, [Ent.own 9 tS y27.Words (yg16 6 0), Ent.own 5 (tI .u8) y27.Kinds (yg16 6 1)])) hi rfl), (fun _ _ _ _ => ⟨rfl, rfl⟩), (fun _ i g hi => lcG [8] (fun yg16 => (.agg ⟨[.string ⟨⟨y32.Name⟩⟩, .bool y32.Inherited, .int .u8 y32.Initial.Kind, .string ⟨⟨y32.Initial.Word⟩⟩, .int .i64 y32.Initial.Num, .int .u8 y32.Initial.Color.Red, .int .u8 y32.Initial.Color.Green, .int .u8 y32.Initial.Color.Blue, .int .u8 y32.Initial.Color.Alpha, .slice (yg16 8 0).a y32.Words.length (yg16 8 0).c, .slice (yg16 8 1).a y32.Kinds.length (yg16 8 1).c, .bool y32.Least]⟩, [Ent.own 9 tS y32.Words (yg16 8 0), Ent.own 5 (tI .u8) y32.Kinds (yg16 8 1)])) hi rfl), (fun _ i g hi => lcG [9] (fun yg16 => (.agg ⟨[.string ⟨⟨y37.Name⟩⟩, .bool y37.Inherited, .int .u8 y37.Initial.Kind, .string ⟨⟨y37.Initial.Word⟩⟩, .int .i64 y37.Initial.Num, .int .u8 y37.Initial.Color.Red, .int .u8 y37.Initial.Color.Green, .int .u8 y37.Initial.Color.Blue, .int .u8 y37.Initial.Color.Alpha, .slice (yg16 9 0).a y37.Words.length (yg16 9 0).c, .slice (yg16 9 1).a y37.Kinds.length (yg16 9 1).c, .bool y37.Least]⟩, [Ent.own 9 tS y37.Words (yg16 9 0), Ent.own 5 (tI .u8) y37.Kinds (yg16 9 1)])) hi rfl), (fun _ i g hi => lcG [10] (fun yg16 => (.agg ⟨[.string ⟨⟨y42.Name⟩⟩, .bool y42.Inherited, .int .u8 y42.Initial.Kind, .string ⟨⟨y42.Initial.Word⟩⟩, .int .i64 y42.Initial.Num, .int .u8 y42.Initial.Color.Red, .int .u8 y42.Initial.Color.Green, .int .u8 y42.Initial.Color.Blue, .int .u8 y42.Initial.Color.Alpha, .slice (yg16 10 0).a y42.Words.length (yg16 10 0).c, .slice (yg16 10 1).a y42.Kinds.length (yg16 10 1).c, .bool y42.Least]⟩, [Ent.own 9 tS y42.Words (yg16 10 0), Ent.own 5 (tI .u8) y42.Kinds (yg16 10 1)])) hi rfl), (fun _ _ _ _ => ⟨rfl, rfl⟩), (fun _ i g hi => lcG [12] (fun yg16 => (.agg ⟨[.string ⟨⟨y48.Name⟩⟩, .bool y48.Inherited, .int .u8 y48.Initial.Kind, .string ⟨⟨y48.Initial.Word⟩⟩, .int .i64 y48.Initial.Num, .int .u8 y48.Initial.Color.Red, .int .u8 y48.Initial.Color.Green, .int .u8 y48.Initial.Color.Blue, .int .u8 y48.Initial.Color.Alpha, .slice (yg16 12 0).a y48.Words.length (yg16 12 0).c, .slice (yg16 12 1).a y48.Kinds.length (yg16 12 1).c, .bool y48.Least]⟩, [Ent.own 9 tS y48.Words (yg16 12 0), Ent.own 5 (tI .u8) y48.Kinds (yg16 12 1), Ent.im (tI .u8) ([] : List Int) (.nil)])) hi rfl), (fun _ _ _ _ => ⟨rfl, rfl⟩), (fun _ i g hi => lcG [14] (fun yg16 => (.agg ⟨[.string ⟨⟨y54.Name⟩⟩, .bool y54.Inherited, .int .u8 y54.Initial.Kind, .string ⟨⟨y54.Initial.Word⟩⟩, .int .i64 y54.Initial.Num, .int .u8 y54.Initial.Color.Red, .int .u8 y54.Initial.Color.Green, .int .u8 y54.Initial.Color.Blue, .int .u8 y54.Initial.Color.Alpha, .slice (yg16 14 0).a y54.Words.length (yg16 14 0).c, .slice (yg16 14 1).a y54.Kinds.length (yg16 14 1).c, .bool y54.Least]⟩, [Ent.own 9 tS y54.Words (yg16 14 0), Ent.own 5 (tI .u8) y54.Kinds (yg16 14 1), Ent.im (tI .u8) ([] : List Int) (.nil)])) hi rfl), (fun _ i g hi => lcG [2, 4, 6, 8, 9, 10, 12, 14, 15] (fun yg16 => (.slice (yg16 15 0).a 8 (yg16 15 0).c, [Ent.own 51 tyProp ([y17, y22, y27, y32, y37, y42, y48, y54] : List TProp) (yg16 15 0), Ent.im (tI .u8) y54.Kinds (yg16 14 1), Ent.im tS y54.Words (yg16 14 0), Ent.im (tI .u8) y48.Kinds (yg16 12 1), Ent.im tS y48.Words (yg16 12 0), Ent.im (tI .u8) y42.Kinds (yg16 10 1), Ent.im tS y42.Words (yg16 10 0), Ent.im (tI .u8) y37.Kinds (yg16 9 1), Ent.im tS y37.Words (yg16 9 0), Ent.im (tI .u8) y32.Kinds (yg16 8 1), Ent.im tS y32.Words (yg16 8 0), Ent.im (tI .u8) y27.Kinds (yg16 6 1), Ent.im tS y27.Words (yg16 6 0), Ent.im (tI .u8) y22.Kinds (yg16 4 1), Ent.im tS y22.Words (yg16 4 0), Ent.im (tI .u8) y17.Kinds (yg16 2 1), Ent.im tS y17.Words (yg16 2 0), Ent.im (tI .u8) ([] : List Int) (.nil), Ent.im (tI .u8) ([] : List Int) (.nil)])) hi rfl), (fun _ i g hi => lcG [15] (fun yg16 => (.slice (yg16 15 0).a 8 (yg16 15 0).c, [])) hi rfl), trivial⟩
 case hstep_yg16 =>
  refine ⟨?_, ?_, ?_, ?_, ?_, ?_, ?_, ?_, ?_, ?_, ?_, ?_, ?_, ?_, ?_, ?_, ?_, trivial⟩
  ·intro o ho a w yg16 M Hb hv hO hS
   obtain rfl := Option.some.inj ho
   exact Stp.mono (o_evs [] (.agg ⟨[.int .u8 0, .int .u8 0, .int .u8 0, .int .u8 255]⟩) none [] Hb rfl (by kernel_rfl) (fun q e => by cases e)) fun _ _ hq => ⟨gL [], fun _ _ => hq.1, (hS.below hq.2.below).sel [] rfl⟩
  ·intro o ho a w yg16 M Hb hv hO hS
   obtain rfl := Option.some.inj ho
   exact Stp.mono (o_evs [] (.agg ⟨[.int .u8 7, .string ⟨⟨[]⟩⟩, .int .i64 0, .int .u8 0, .int .u8 0, .int .u8 0, .int .u8 255]⟩) none [] ((Hb).add (hv 0 (by decide) (by decide) 8 rfl)) rfl (by kernel_rfl) (fun q e => by cases e)) fun _ _ hq => ⟨gL [], fun _ _ => hq.1, (hS.below hq.2.below).sel [] rfl⟩
  ·intro o ho a w yg16 M Hb hv hO hS0
   obtain rfl := Option.some.inj ho
   have H : Fr 57 ([(9, [], .agg ⟨[.int .u8 7, .string ⟨⟨[]⟩⟩, .int .i64 0, .int .u8 0, .int .u8 0, .int .u8 0, .int .u8 255]⟩)] ++ [(1, [], .pointer (some ⟨b6, 0, none⟩)), (2, [], .pointer (some ⟨b9, 0, none⟩))]) _ := (Hb).add (hv 1 (by decide) (by decide) 9 rfl)
   obtain ⟨X, hX⟩ : ∃ X, X = fpl [] := ⟨_, rfl⟩
   have hS : SH M X w [] w := by rw [hX]; exact hS0
   have hd := hS.hand [] [] rfl rfl
   refine Stp.mono (o_callx H rfl rfl (props_color_ok _ _ _ _ hy17.symm _ _ hd)) ?_
   rintro v w2 hq
   obtain ⟨g18, g20, rfl, hq⟩ := hq
   replace hS : SH M X w [Ent.own 9 tS y17.Words g18, Ent.own 5 (tI .u8) y17.Kinds g20] _ := hS.join [] [] rfl rfl hq
   clear hq
   rw [hX] at hS
   exact ⟨gL [g18, g20], fun _ _ => rfl, hS.sel [0, 1] rfl⟩
  ·intro o ho a w yg16 M Hb hv hO hS
   obtain rfl := Option.some.inj ho
   exact Stp.mono (o_evs [] (.agg ⟨[.int .u8 7, .string ⟨⟨[]⟩⟩, .int .i64 0, .int .u8 0, .int .u8 0, .int .u8 0, .int .u8 0]⟩) none [] Hb rfl (by kernel_rfl) (fun q e => by cases e)) fun _ _ hq => ⟨gL [], fun _ _ => hq.1, (hS.below hq.2.below).sel [] rfl⟩
  ·intro o ho a w yg16 M Hb hv hO hS0
   obtain rfl := Option.some.inj ho
   have H : Fr 57 ([(11, [], .agg ⟨[.int .u8 7, .string ⟨⟨[]⟩⟩, .int .i64 0, .int .u8 0, .int .u8 0, .int .u8 0, .int .u8 0]⟩)] ++ [(1, [], .pointer (some ⟨b6, 0, none⟩)), (2, [], .pointer (some ⟨b9, 0, none⟩))]) _ := (Hb).add (hv 3 (by decide) (by decide) 11 rfl)
   obtain ⟨X, hX⟩ : ∃ X, X = fpl [] := ⟨_, rfl⟩
   have hS : SH M X w [] w := by rw [hX]; exact hS0
   have hd := hS.hand [] [] rfl rfl
   refine Stp.mono (o_callx H rfl rfl (props_color_ok _ _ _ _ hy22.symm _ _ hd)) ?_
   rintro v w2 hq
   obtain ⟨g23, g25, rfl, hq⟩ := hq
   replace hS : SH M X w [Ent.own 9 tS y22.Words g23, Ent.own 5 (tI .u8) y22.Kinds g25] _ := hS.join [] [] rfl rfl hq
   clear hq
   rw [hX] at hS
   exact ⟨gL [g23, g25], fun _ _ => rfl, hS.sel [0, 1] rfl⟩
  ·intro o ho a w yg16 M Hb hv hO hS
   obtain rfl := Option.some.inj ho
   exact Stp.mono (o_evs [] (.agg ⟨[.int .u8 8, .string ⟨⟨[]⟩⟩, .int .i64 0, .int .u8 0, .int .u8 0, .int .u8 0, .int .u8 0]⟩) none [] Hb rfl (by kernel_rfl) (fun q e => by cases e)) fun _ _ hq => ⟨gL [], fun _ _ => hq.1, (hS.below hq.2.below).sel [] rfl⟩
  ·intro o ho a w yg16 M Hb hv hO hS0
   obtain rfl := Option.some.inj ho
   have H : Fr 57 ([(13, [], .agg ⟨[.int .u8 8, .string ⟨⟨[]⟩⟩, .int .i64 0, .int .u8 0, .int .u8 0, .int .u8 0, .int .u8 0]⟩)] ++ [(1, [], .pointer (some ⟨b6, 0, none⟩)), (2, [], .pointer (some ⟨b9, 0, none⟩))]) _ := (Hb).add (hv 5 (by decide) (by decide) 13 rfl)
   obtain ⟨X, hX⟩ : ∃ X, X = fpl [] := ⟨_, rfl⟩
   have hS : SH M X w [] w := by rw [hX]; exact hS0
   have hd := hS.hand [] [] rfl rfl
   refine Stp.mono (o_callx H rfl rfl (props_color_ok _ _ _ _ hy27.symm _ _ hd)) ?_
   rintro v w2 hq
   obtain ⟨g28, g30, rfl, hq⟩ := hq
   replace hS : SH M X w [Ent.own 9 tS y27.Words g28, Ent.own 5 (tI .u8) y27.Kinds g30] _ := hS.join [] [] rfl rfl hq
   clear hq
   rw [hX] at hS
   exact ⟨gL [g28, g30], fun _ _ => rfl, hS.sel [0, 1] rfl⟩
  ·intro o ho a w yg16 M Hb hv hO hS
   obtain rfl := Option.some.inj ho
   exact Stp.mono (o_evs [] (.agg ⟨[.int .u8 8, .string ⟨⟨[]⟩⟩, .int .i64 0, .int .u8 0, .int .u8 0, .int .u8 0, .int .u8 0]⟩) none [] Hb rfl (by kernel_rfl) (fun q e => by cases e)) fun _ _ hq => ⟨gL [], fun _ _ => hq.1, (hS.below hq.2.below).sel [] rfl⟩
  ·intro o ho a w yg16 M Hb hv hO hS0
   obtain rfl := Option.some.inj ho
   have H : Fr 57 ([(15, [], .agg ⟨[.int .u8 8, .string ⟨⟨[]⟩⟩, .int .i64 0, .int .u8 0, .int .u8 0, .int .u8 0, .int .u8 0]⟩)] ++ [(1, [], .pointer (some ⟨b6, 0, none⟩)), (2, [], .pointer (some ⟨b9, 0, none⟩))]) _ := (Hb).add (hv 7 (by decide) (by decide) 15 rfl)
   obtain ⟨X, hX⟩ : ∃ X, X = fpl [] := ⟨_, rfl⟩
   have hS : SH M X w [] w := by rw [hX]; exact hS0
   have hd := hS.hand [] [] rfl rfl
   refine Stp.mono (o_callx H rfl rfl (props_color_ok _ _ _ _ hy32.symm _ _ hd)) ?_
   rintro v w2 hq
   obtain ⟨g33, g35, rfl, hq⟩ := hq
   replace hS : SH M X w [Ent.own 9 tS y32.Words g33, Ent.own 5 (tI .u8) y32.Kinds g35] _ := hS.join [] [] rfl rfl hq
   clear hq
   rw [hX] at hS
   exact ⟨gL [g33, g35], fun _ _ => rfl, hS.sel [0, 1] rfl⟩
  ·intro o ho a w yg16 M Hb hv hO hS0
   obtain rfl := Option.some.inj ho
   have H : Fr 57 ([] ++ [(1, [], .pointer (some ⟨b6, 0, none⟩)), (2, [], .pointer (some ⟨b9, 0, none⟩))]) _ := Hb
   obtain ⟨X, hX⟩ : ∃ X, X = fpl [gE0] := ⟨_, rfl⟩
   have hS : SH M X w [gE0] w := by rw [hX]; exact hS0
   have hd := hS.hand [0] [0] rfl rfl
   refine Stp.mono (o_callx H rfl rfl (props_words_ok m _ _ _ _ _ hy37 _ _ hd)) ?_
   rintro v w2 hq
   obtain ⟨g38, g40, rfl, hq⟩ := hq
   replace hS : SH M X w [Ent.own 9 tS y37.Words g38, Ent.own 5 (tI .u8) y37.Kinds g40, gE0] _ := hS.join [0] [0] rfl rfl hq
   clear hq
   rw [hX] at hS
   exact ⟨gL [g38, g40], fun _ _ => rfl, hS.sel [0, 1, 2] rfl⟩
  ·intro o ho a w yg16 M Hb hv hO hS0
   obtain rfl := Option.some.inj ho
   have H : Fr 57 ([] ++ [(1, [], .pointer (some ⟨b6, 0, none⟩)), (2, [], .pointer (some ⟨b9, 0, none⟩))]) _ := Hb
   obtain ⟨X, hX⟩ : ∃ X, X = fpl [gE0] := ⟨_, rfl⟩
   have hS : SH M X w [gE0] w := by rw [hX]; exact hS0
   have hd := hS.hand [0] [0] rfl rfl
   refine Stp.mono (o_callx H rfl rfl (props_words_ok m _ _ _ _ _ hy42 _ _ hd)) ?_
   rintro v w2 hq
   obtain ⟨g43, g45, rfl, hq⟩ := hq
   replace hS : SH M X w [Ent.own 9 tS y42.Words g43, Ent.own 5 (tI .u8) y42.Kinds g45, gE0] _ := hS.join [0] [0] rfl rfl hq
   clear hq
   rw [hX] at hS
   exact ⟨gL [g43, g45], fun _ _ => rfl, hS.sel [0, 1, 2] rfl⟩
  ·intro o ho a w yg16 M Hb hv hO hS
   obtain rfl := Option.some.inj ho
   exact Stp.mono (o_evs [(.agg ⟨[.int .u8 y3.Kind, .string ⟨⟨y3.Word⟩⟩, .int .i64 y3.Num, .int .u8 y3.Color.Red, .int .u8 y3.Color.Green, .int .u8 y3.Color.Blue, .int .u8 y3.Color.Alpha]⟩)] (.agg ⟨[.int .u8 y3.Kind, .string ⟨⟨y3.Word⟩⟩, .int .i64 y3.Num, .int .u8 y3.Color.Red, .int .u8 y3.Color.Green, .int .u8 y3.Color.Blue, .int .u8 y3.Color.Alpha]⟩) (some (fun wz => V.atN b6 0 [.int .u8 y3.Kind, .string ⟨⟨y3.Word⟩⟩, .int .i64 y3.Num, .int .u8 y3.Color.Red, .int .u8 y3.Color.Green, .int .u8 y3.Color.Blue, .int .u8 y3.Color.Alpha] 0 wz)) [] Hb rfl (by kernel_rfl) (fun q e => by cases e; exact ((hS.bk 0 rfl).atD rfl))) fun _ _ hq => ⟨gL [], fun _ _ => hq.1, (hS.below hq.2.below).sel [0] rfl⟩
  ·intro o ho a w yg16 M Hb hv hO hS0
   obtain rfl := Option.some.inj ho
   have H : Fr 57 ([(19, [], .agg ⟨[.int .u8 y3.Kind, .string ⟨⟨y3.Word⟩⟩, .int .i64 y3.Num, .int .u8 y3.Color.Red, .int .u8 y3.Color.Green, .int .u8 y3.Color.Blue, .int .u8 y3.Color.Alpha]⟩)] ++ [(1, [], .pointer (some ⟨b6, 0, none⟩)), (2, [], .pointer (some ⟨b9, 0, none⟩))]) _ := (Hb).add (hv 11 (by decide) (by decide) 19 rfl)
   obtain ⟨X, hX⟩ : ∃ X, X = fpl [gE0] := ⟨_, rfl⟩
   have hS : SH M X w [gE0] w := by rw [hX]; exact hS0
   replace hS : SH M X w [Ent.own 5 (tI .u8) ([] : List Int) (.nil), gE0] _ := hS.addNil 5 (tI .u8)
   replace hS : SH M X w [Ent.im (tI .u8) ([] : List Int) (.nil), gE0] _ := SH.frz1 (hS.sel [0, 1] rfl)
   have hd := hS.hand [0, 1] [0, 1] rfl rfl
   refine Stp.mono (o_callx H rfl rfl (props_length_ok (g_more := Gh.nil) m _ _ _ _ _ _ _ hy48 _ _ hd)) ?_
   rintro v w2 hq
   obtain ⟨g49, g51, rfl, hq⟩ := hq
   replace hS : SH M X w [Ent.own 9 tS y48.Words g49, Ent.own 5 (tI .u8) y48.Kinds g51, Ent.im (tI .u8) ([] : List Int) (.nil), gE0] _ := hS.join [0, 1] [0, 1] rfl rfl hq
   clear hq
   rw [hX] at hS
   exact ⟨gL [g49, g51], fun _ _ => rfl, hS.sel [0, 1, 2, 3] rfl⟩
  ·intro o ho a w yg16 M Hb hv hO hS
   obtain rfl := Option.some.inj ho
   exact Stp.mono (o_evs [(.agg ⟨[.int .u8 y3.Kind, .string ⟨⟨y3.Word⟩⟩, .int .i64 y3.Num, .int .u8 y3.Color.Red, .int .u8 y3.Color.Green, .int .u8 y3.Color.Blue, .int .u8 y3.Color.Alpha]⟩)] (.agg ⟨[.int .u8 y3.Kind, .string ⟨⟨y3.Word⟩⟩, .int .i64 y3.Num, .int .u8 y3.Color.Red, .int .u8 y3.Color.Green, .int .u8 y3.Color.Blue, .int .u8 y3.Color.Alpha]⟩) (some (fun wz => V.atN b6 0 [.int .u8 y3.Kind, .string ⟨⟨y3.Word⟩⟩, .int .i64 y3.Num, .int .u8 y3.Color.Red, .int .u8 y3.Color.Green, .int .u8 y3.Color.Blue, .int .u8 y3.Color.Alpha] 0 wz)) [] Hb rfl (by kernel_rfl) (fun q e => by cases e; exact ((hS.bk 0 rfl).atD rfl))) fun _ _ hq => ⟨gL [], fun _ _ => hq.1, (hS.below hq.2.below).sel [0] rfl⟩
  ·intro o ho a w yg16 M Hb hv hO hS0
   obtain rfl := Option.some.inj ho
   have H : Fr 57 ([(21, [], .agg ⟨[.int .u8 y3.Kind, .string ⟨⟨y3.Word⟩⟩, .int .i64 y3.Num, .int .u8 y3.Color.Red, .int .u8 y3.Color.Green, .int .u8 y3.Color.Blue, .int .u8 y3.Color.Alpha]⟩)] ++ [(1, [], .pointer (some ⟨b6, 0, none⟩)), (2, [], .pointer (some ⟨b9, 0, none⟩))]) _ := (Hb).add (hv 13 (by decide) (by decide) 21 rfl)
   obtain ⟨X, hX⟩ : ∃ X, X = fpl [gE0] := ⟨_, rfl⟩
   have hS : SH M X w [gE0] w := by rw [hX]; exact hS0
   replace hS : SH M X w [Ent.own 5 (tI .u8) ([] : List Int) (.nil), gE0] _ := hS.addNil 5 (tI .u8)
   replace hS : SH M X w [Ent.im (tI .u8) ([] : List Int) (.nil), gE0] _ := SH.frz1 (hS.sel [0, 1] rfl)
   have hd := hS.hand [0, 1] [0, 1] rfl rfl
   refine Stp.mono (o_callx H rfl rfl (props_length_ok (g_more := Gh.nil) m _ _ _ _ _ _ _ hy54 _ _ hd)) ?_
   rintro v w2 hq
   obtain ⟨g55, g57, rfl, hq⟩ := hq
   replace hS : SH M X w [Ent.own 9 tS y54.Words g55, Ent.own 5 (tI .u8) y54.Kinds g57, Ent.im (tI .u8) ([] : List Int) (.nil), gE0] _ := hS.join [0, 1] [0, 1] rfl rfl hq
   clear hq
   rw [hX] at hS
   exact ⟨gL [g55, g57], fun _ _ => rfl, hS.sel [0, 1, 2, 3] rfl⟩
  ·intro o ho a w yg16 M Hb hv hO hS0
   obtain rfl := Option.some.inj ho
   have H : Fr 57 ([(22, [], .agg ⟨[.string ⟨⟨y54.Name⟩⟩, .bool y54.Inherited, .int .u8 y54.Initial.Kind, .string ⟨⟨y54.Initial.Word⟩⟩, .int .i64 y54.Initial.Num, .int .u8 y54.Initial.Color.Red, .int .u8 y54.Initial.Color.Green, .int .u8 y54.Initial.Color.Blue, .int .u8 y54.Initial.Color.Alpha, .slice (yg16 14 0).a y54.Words.length (yg16 14 0).c, .slice (yg16 14 1).a y54.Kinds.length (yg16 14 1).c, .bool y54.Least]⟩), (20, [], .agg ⟨[.string ⟨⟨y48.Name⟩⟩, .bool y48.Inherited, .int .u8 y48.Initial.Kind, .string ⟨⟨y48.Initial.Word⟩⟩, .int .i64 y48.Initial.Num, .int .u8 y48.Initial.Color.Red, .int .u8 y48.Initial.Color.Green, .int .u8 y48.Initial.Color.Blue, .int .u8 y48.Initial.Color.Alpha, .slice (yg16 12 0).a y48.Words.length (yg16 12 0).c, .slice (yg16 12 1).a y48.Kinds.length (yg16 12 1).c, .bool y48.Least]⟩), (18, [], .agg ⟨[.string ⟨⟨y42.Name⟩⟩, .bool y42.Inherited, .int .u8 y42.Initial.Kind, .string ⟨⟨y42.Initial.Word⟩⟩, .int .i64 y42.Initial.Num, .int .u8 y42.Initial.Color.Red, .int .u8 y42.Initial.Color.Green, .int .u8 y42.Initial.Color.Blue, .int .u8 y42.Initial.Color.Alpha, .slice (yg16 10 0).a y42.Words.length (yg16 10 0).c, .slice (yg16 10 1).a y42.Kinds.length (yg16 10 1).c, .bool y42.Least]⟩), (17, [], .agg ⟨[.string ⟨⟨y37.Name⟩⟩, .bool y37.Inherited, .int .u8 y37.Initial.Kind, .string ⟨⟨y37.Initial.Word⟩⟩, .int .i64 y37.Initial.Num, .int .u8 y37.Initial.Color.Red, .int .u8 y37.Initial.Color.Green, .int .u8 y37.Initial.Color.Blue, .int .u8 y37.Initial.Color.Alpha, .slice (yg16 9 0).a y37.Words.length (yg16 9 0).c, .slice (yg16 9 1).a y37.Kinds.length (yg16 9 1).c, .bool y37.Least]⟩), (16, [], .agg ⟨[.string ⟨⟨y32.Name⟩⟩, .bool y32.Inherited, .int .u8 y32.Initial.Kind, .string ⟨⟨y32.Initial.Word⟩⟩, .int .i64 y32.Initial.Num, .int .u8 y32.Initial.Color.Red, .int .u8 y32.Initial.Color.Green, .int .u8 y32.Initial.Color.Blue, .int .u8 y32.Initial.Color.Alpha, .slice (yg16 8 0).a y32.Words.length (yg16 8 0).c, .slice (yg16 8 1).a y32.Kinds.length (yg16 8 1).c, .bool y32.Least]⟩), (14, [], .agg ⟨[.string ⟨⟨y27.Name⟩⟩, .bool y27.Inherited, .int .u8 y27.Initial.Kind, .string ⟨⟨y27.Initial.Word⟩⟩, .int .i64 y27.Initial.Num, .int .u8 y27.Initial.Color.Red, .int .u8 y27.Initial.Color.Green, .int .u8 y27.Initial.Color.Blue, .int .u8 y27.Initial.Color.Alpha, .slice (yg16 6 0).a y27.Words.length (yg16 6 0).c, .slice (yg16 6 1).a y27.Kinds.length (yg16 6 1).c, .bool y27.Least]⟩), (12, [], .agg ⟨[.string ⟨⟨y22.Name⟩⟩, .bool y22.Inherited, .int .u8 y22.Initial.Kind, .string ⟨⟨y22.Initial.Word⟩⟩, .int .i64 y22.Initial.Num, .int .u8 y22.Initial.Color.Red, .int .u8 y22.Initial.Color.Green, .int .u8 y22.Initial.Color.Blue, .int .u8 y22.Initial.Color.Alpha, .slice (yg16 4 0).a y22.Words.length (yg16 4 0).c, .slice (yg16 4 1).a y22.Kinds.length (yg16 4 1).c, .bool y22.Least]⟩), (10, [], .agg ⟨[.string ⟨⟨y17.Name⟩⟩, .bool y17.Inherited, .int .u8 y17.Initial.Kind, .string ⟨⟨y17.Initial.Word⟩⟩, .int .i64 y17.Initial.Num, .int .u8 y17.Initial.Color.Red, .int .u8 y17.Initial.Color.Green, .int .u8 y17.Initial.Color.Blue, .int .u8 y17.Initial.Color.Alpha, .slice (yg16 2 0).a y17.Words.length (yg16 2 0).c, .slice (yg16 2 1).a y17.Kinds.length (yg16 2 1).c, .bool y17.Least]⟩)] ++ [(1, [], .pointer (some ⟨b6, 0, none⟩)), (2, [], .pointer (some ⟨b9, 0, none⟩))]) _ := ((((((((Hb).add (hv 2 (by decide) (by decide) 10 rfl)).add (hv 4 (by decide) (by decide) 12 rfl)).add (hv 6 (by decide) (by decide) 14 rfl)).add (hv 8 (by decide) (by decide) 16 rfl)).add (hv 9 (by decide) (by decide) 17 rfl)).add (hv 10 (by decide) (by decide) 18 rfl)).add (hv 12 (by decide) (by decide) 20 rfl)).add (hv 14 (by decide) (by decide) 22 rfl)
   obtain ⟨X, hX⟩ : ∃ X, X = fpl [Ent.own 9 tS y17.Words (yg16 2 0), Ent.own 5 (tI .u8) y17.Kinds (yg16 2 1), Ent.own 9 tS y22.Words (yg16 4 0), Ent.own 5 (tI .u8) y22.Kinds (yg16 4 1), Ent.own 9 tS y27.Words (yg16 6 0), Ent.own 5 (tI .u8) y27.Kinds (yg16 6 1), Ent.own 9 tS y32.Words (yg16 8 0), Ent.own 5 (tI .u8) y32.Kinds (yg16 8 1), Ent.own 9 tS y37.Words (yg16 9 0), Ent.own 5 (tI .u8) y37.Kinds (yg16 9 1), Ent.own 9 tS y42.Words (yg16 10 0), Ent.own 5 (tI .u8) y42.Kinds (yg16 10 1), Ent.own 9 tS y48.Words (yg16 12 0), Ent.own 5 (tI .u8) y48.Kinds (yg16 12 1), Ent.im (tI .u8) ([] : List Int) (.nil), Ent.own 9 tS y54.Words (yg16 14 0), Ent.own 5 (tI .u8) y54.Kinds (yg16 14 1), Ent.im (tI .u8) ([] : List Int) (.nil)] := ⟨_, rfl⟩
   have hS : SH M X w [Ent.own 9 tS y17.Words (yg16 2 0), Ent.own 5 (tI .u8) y17.Kinds (yg16 2 1), Ent.own 9 tS y22.Words (yg16 4 0), Ent.own 5 (tI .u8) y22.Kinds (yg16 4 1), Ent.own 9 tS y27.Words (yg16 6 0), Ent.own 5 (tI .u8) y27.Kinds (yg16 6 1), Ent.own 9 tS y32.Words (yg16 8 0), Ent.own 5 (tI .u8) y32.Kinds (yg16 8 1), Ent.own 9 tS y37.Words (yg16 9 0), Ent.own 5 (tI .u8) y37.Kinds (yg16 9 1), Ent.own 9 tS y42.Words (yg16 10 0), Ent.own 5 (tI .u8) y42.Kinds (yg16 10 1), Ent.own 9 tS y48.Words (yg16 12 0), Ent.own 5 (tI .u8) y48.Kinds (yg16 12 1), Ent.im (tI .u8) ([] : List Int) (.nil), Ent.own 9 tS y54.Words (yg16 14 0), Ent.own 5 (tI .u8) y54.Kinds (yg16 14 1), Ent.im (tI .u8) ([] : List Int) (.nil)] w := by rw [hX]; exact hS0
   replace hS : SH M X w [Ent.im tS y17.Words (yg16 2 0), Ent.own 5 (tI .u8) y17.Kinds (yg16 2 1), Ent.own 9 tS y22.Words (yg16 4 0), Ent.own 5 (tI .u8) y22.Kinds (yg16 4 1), Ent.own 9 tS y27.Words (yg16 6 0), Ent.own 5 (tI .u8) y27.Kinds (yg16 6 1), Ent.own 9 tS y32.Words (yg16 8 0), Ent.own 5 (tI .u8) y32.Kinds (yg16 8 1), Ent.own 9 tS y37.Words (yg16 9 0), Ent.own 5 (tI .u8) y37.Kinds (yg16 9 1), Ent.own 9 tS y42.Words (yg16 10 0), Ent.own 5 (tI .u8) y42.Kinds (yg16 10 1), Ent.own 9 tS y48.Words (yg16 12 0), Ent.own 5 (tI .u8) y48.Kinds (yg16 12 1), Ent.im (tI .u8) ([] : List Int) (.nil), Ent.own 9 tS y54.Words (yg16 14 0), Ent.own 5 (tI .u8) y54.Kinds (yg16 14 1), Ent.im (tI .u8) ([] : List Int) (.nil)] _ := SH.frz1 (hS.sel [0, 1, 2, 3, 4, 5, 6, 7, 8, 9, 10, 11, 12, 13, 14, 15, 16, 17] rfl)
   replace hS : SH M X w [Ent.im (tI .u8) y17.Kinds (yg16 2 1), Ent.im tS y17.Words (yg16 2 0), Ent.own 9 tS y22.Words (yg16 4 0), Ent.own 5 (tI .u8) y22.Kinds (yg16 4 1), Ent.own 9 tS y27.Words (yg16 6 0), Ent.own 5 (tI .u8) y27.Kinds (yg16 6 1), Ent.own 9 tS y32.Words (yg16 8 0), Ent.own 5 (tI .u8) y32.Kinds (yg16 8 1), Ent.own 9 tS y37.Words (yg16 9 0), Ent.own 5 (tI .u8) y37.Kinds (yg16 9 1), Ent.own 9 tS y42.Words (yg16 10 0), Ent.own 5 (tI .u8) y42.Kinds (yg16 10 1), Ent.own 9 tS y48.Words (yg16 12 0), Ent.own 5 (tI .u8) y48.Kinds (yg16 12 1), Ent.im (tI .u8) ([] : List Int) (.nil), Ent.own 9 tS y54.Words (yg16 14 0), Ent.own 5 (tI .u8) y54.Kinds (yg16 14 1), Ent.im (tI .u8) ([] : List Int) (.nil)] _ := SH.frz1 (hS.sel [1, 0, 2, 3, 4, 5, 6, 7, 8, 9, 10, 11, 12, 13, 14, 15, 16, 17] rfl)
   replace hS : SH M X w [Ent.im tS y22.Words (yg16 4 0), Ent.im (tI .u8) y17.Kinds (yg16 2 1), Ent.im tS y17.Words (yg16 2 0), Ent.own 5 (tI .u8) y22.Kinds (yg16 4 1), Ent.own 9 tS y27.Words (yg16 6 0), Ent.own 5 (tI .u8) y27.Kinds (yg16 6 1), Ent.own 9 tS y32.Words (yg16 8 0), Ent.own 5 (tI .u8) y32.Kinds (yg16 8 1), Ent.own 9 tS y37.Words (yg16 9 0), Ent.own 5 (tI .u8) y37.Kinds (yg16 9 1), Ent.own 9 tS y42.Words (yg16 10 0), Ent.own 5 (tI .u8) y42.Kinds (yg16 10 1), Ent.own 9 tS y48.Words (yg16 12 0), Ent.own 5 (tI .u8) y48.Kinds (yg16 12 1), Ent.im (tI .u8) ([] : List Int) (.nil), Ent.own 9 tS y54.Words (yg16 14 0), Ent.own 5 (tI .u8) y54.Kinds (yg16 14 1), Ent.im (tI .u8) ([] : List Int) (.nil)] _ := SH.frz1 (hS.sel [2, 0, 1, 3, 4, 5, 6, 7, 8, 9, 10, 11, 12, 13, 14, 15, 16, 17] rfl)
   replace hS : SH M X w [Ent.im (tI .u8) y22.Kinds (yg16 4 1), Ent.im tS y22.Words (yg16 4 0), Ent.im (tI .u8) y17.Kinds (yg16 2 1), Ent.im tS y17.Words (yg16 2 0), Ent.own 9 tS y27.Words (yg16 6 0), Ent.own 5 (tI .u8) y27.Kinds (yg16 6 1), Ent.own 9 tS y32.Words (yg16 8 0), Ent.own 5 (tI .u8) y32.Kinds (yg16 8 1), Ent.own 9 tS y37.Words (yg16 9 0), Ent.own 5 (tI .u8) y37.Kinds (yg16 9 1), Ent.own 9 tS y42.Words (yg16 10 0), Ent.own 5 (tI .u8) y42.Kinds (yg16 10 1), Ent.own 9 tS y48.Words (yg16 12 0), Ent.own 5 (tI .u8) y48.Kinds (yg16 12 1), Ent.im (tI .u8) ([] : List Int) (.nil), Ent.own 9 tS y54.Words (yg16 14 0), Ent.own 5 (tI .u8) y54.Kinds (yg16 14 1), Ent.im (tI .u8) ([] : List Int) (.nil)] _ := SH.frz1 (hS.sel [3, 0, 1, 2, 4, 5, 6, 7, 8, 9, 10, 11, 12, 13, 14, 15, 16, 17] rfl)
   replace hS : SH M X w [Ent.im tS y27.Words (yg16 6 0), Ent.im (tI .u8) y22.Kinds (yg16 4 1), Ent.im tS y22.Words (yg16 4 0), Ent.im (tI .u8) y17.Kinds (yg16 2 1), Ent.im tS y17.Words (yg16 2 0), Ent.own 5 (tI .u8) y27.Kinds (yg16 6 1), Ent.own 9 tS y32.Words (yg16 8 0), Ent.own 5 (tI .u8) y32.Kinds (yg16 8 1), Ent.own 9 tS y37.Words (yg16 9 0), Ent.own 5 (tI .u8) y37.Kinds (yg16 9 1), Ent.own 9 tS y42.Words (yg16 10 0), Ent.own 5 (tI .u8) y42.Kinds (yg16 10 1), Ent.own 9 tS y48.Words (yg16 12 0), Ent.own 5 (tI .u8) y48.Kinds (yg16 12 1), Ent.im (tI .u8) ([] : List Int) (.nil), Ent.own 9 tS y54.Words (yg16 14 0), Ent.own 5 (tI .u8) y54.Kinds (yg16 14 1), Ent.im (tI .u8) ([] : List Int) (.nil)] _ := SH.frz1 (hS.sel [4, 0, 1, 2, 3, 5, 6, 7, 8, 9, 10, 11, 12, 13, 14, 15, 16, 17] rfl)
   replace hS : SH M X w [Ent.im (tI .u8) y27.Kinds (yg16 6 1), Ent.im tS y27.Words (yg16 6 0), Ent.im (tI .u8) y22.Kinds (yg16 4 1), Ent.im tS y22.Words (yg16 4 0), Ent.im (tI .u8) y17.Kinds (yg16 2 1), Ent.im tS y17.Words (yg16 2 0), Ent.own 9 tS y32.Words (yg16 8 0), Ent.own 5 (tI .u8) y32.Kinds (yg16 8 1), Ent.own 9 tS y37.Words (yg16 9 0), Ent.own 5 (tI .u8) y37.Kinds (yg16 9 1), Ent.own 9 tS y42.Words (yg16 10 0), Ent.own 5 (tI .u8) y42.Kinds (yg16 10 1), Ent.own 9 tS y48.Words (yg16 12 0), Ent.own 5 (tI .u8) y48.Kinds (yg16 12 1), Ent.im (tI .u8) ([] : List Int) (.nil), Ent.own 9 tS y54.Words (yg16 14 0), Ent.own 5 (tI .u8) y54.Kinds (yg16 14 1), Ent.im (tI .u8) ([] : List Int) (.nil)] _ := SH.frz1 (hS.sel [5, 0, 1, 2, 3, 4, 6, 7, 8, 9, 10, 11, 12, 13, 14, 15, 16, 17] rfl)
   replace hS : SH M X w [Ent.im tS y32.Words (yg16 8 0), Ent.im (tI .u8) y27.Kinds (yg16 6 1), Ent.im tS y27.Words (yg16 6 0), Ent.im (tI .u8) y22.Kinds (yg16 4 1), Ent.im tS y22.Words (yg16 4 0), Ent.im (tI .u8) y17.Kinds (yg16 2 1), Ent.im tS y17.Words (yg16 2 0), Ent.own 5 (tI .u8) y32.Kinds (yg16 8 1), Ent.own 9 tS y37.Words (yg16 9 0), Ent.own 5 (tI .u8) y37.Kinds (yg16 9 1), Ent.own 9 tS y42.Words (yg16 10 0), Ent.own 5 (tI .u8) y42.Kinds (yg16 10 1), Ent.own 9 tS y48.Words (yg16 12 0), Ent.own 5 (tI .u8) y48.Kinds (yg16 12 1), Ent.im (tI .u8) ([] : List Int) (.nil), Ent.own 9 tS y54.Words (yg16 14 0), Ent.own 5 (tI .u8) y54.Kinds (yg16 14 1), Ent.im (tI .u8) ([] : List Int) (.nil)] _ := SH.frz1 (hS.sel [6, 0, 1, 2, 3, 4, 5, 7, 8, 9, 10, 11, 12, 13, 14, 15, 16, 17] rfl)
   replace hS : SH M X w [Ent.im (tI .u8) y32.Kinds (yg16 8 1), Ent.im tS y32.Words (yg16 8 0), Ent.im (tI .u8) y27.Kinds (yg16 6 1), Ent.im tS y27.Words (yg16 6 0), Ent.im (tI .u8) y22.Kinds (yg16 4 1), Ent.im tS y22.Words (yg16 4 0), Ent.im (tI .u8) y17.Kinds (yg16 2 1), Ent.im tS y17.Words (yg16 2 0), Ent.own 9 tS y37.Words (yg16 9 0), Ent.own 5 (tI .u8) y37.Kinds (yg16 9 1), Ent.own 9 tS y42.Words (yg16 10 0), Ent.own 5 (tI .u8) y42.Kinds (yg16 10 1), Ent.own 9 tS y48.Words (yg16 12 0), Ent.own 5 (tI .u8) y48.Kinds (yg16 12 1), Ent.im (tI .u8) ([] : List Int) (.nil), Ent.own 9 tS y54.Words (yg16 14 0), Ent.own 5 (tI .u8) y54.Kinds (yg16 14 1), Ent.im (tI .u8) ([] : List Int) (.nil)] _ := SH.frz1 (hS.sel [7, 0, 1, 2, 3, 4, 5, 6, 8, 9, 10, 11, 12, 13, 14, 15, 16, 17] rfl)
   replace hS : SH M X w [Ent.im tS y37.Words (yg16 9 0), Ent.im (tI .u8) y32.Kinds (yg16 8 1), Ent.im tS y32.Words (yg16 8 0), Ent.im (tI .u8) y27.Kinds (yg16 6 1), Ent.im tS y27.Words (yg16 6 0), Ent.im (tI .u8) y22.Kinds (yg16 4 1), Ent.im tS y22.Words (yg16 4 0), Ent.im (tI .u8) y17.Kinds (yg16 2 1), Ent.im tS y17.Words (yg16 2 0), Ent.own 5 (tI .u8) y37.Kinds (yg16 9 1), Ent.own 9 tS y42.Words (yg16 10 0), Ent.own 5 (tI .u8) y42.Kinds (yg16 10 1), Ent.own 9 tS y48.Words (yg16 12 0), Ent.own 5 (tI .u8) y48.Kinds (yg16 12 1), Ent.im (tI .u8) ([] : List Int) (.nil), Ent.own 9 tS y54.Words (yg16 14 0), Ent.own 5 (tI .u8) y54.Kinds (yg16 14 1), Ent.im (tI .u8) ([] : List Int) (.nil)] _ := SH.frz1 (hS.sel [8, 0, 1, 2, 3, 4, 5, 6, 7, 9, 10, 11, 12, 13, 14, 15, 16, 17] rfl)
   replace hS : SH M X w [Ent.im (tI .u8) y37.Kinds (yg16 9 1), Ent.im tS y37.Words (yg16 9 0), Ent.im (tI .u8) y32.Kinds (yg16 8 1), Ent.im tS y32.Words (yg16 8 0), Ent.im (tI .u8) y27.Kinds (yg16 6 1), Ent.im tS y27.Words (yg16 6 0), Ent.im (tI .u8) y22.Kinds (yg16 4 1), Ent.im tS y22.Words (yg16 4 0), Ent.im (tI .u8) y17.Kinds (yg16 2 1), Ent.im tS y17.Words (yg16 2 0), Ent.own 9 tS y42.Words (yg16 10 0), Ent.own 5 (tI .u8) y42.Kinds (yg16 10 1), Ent.own 9 tS y48.Words (yg16 12 0), Ent.own 5 (tI .u8) y48.Kinds (yg16 12 1), Ent.im (tI .u8) ([] : List Int) (.nil), Ent.own 9 tS y54.Words (yg16 14 0), Ent.own 5 (tI .u8) y54.Kinds (yg16 14 1), Ent.im (tI .u8) ([] : List Int) (.nil)] _ := SH.frz1 (hS.sel [9, 0, 1, 2, 3, 4, 5, 6, 7, 8, 10, 11, 12, 13, 14, 15, 16, 17] rfl)
   replace hS : SH M X w [Ent.im tS y42.Words (yg16 10 0), Ent.im (tI .u8) y37.Kinds (yg16 9 1), Ent.im tS y37.Words (yg16 9 0), Ent.im (tI .u8) y32.Kinds (yg16 8 1), Ent.im tS y32.Words (yg16 8 0), Ent.im (tI .u8) y27.Kinds (yg16 6 1), Ent.im tS y27.Words (yg16 6 0), Ent.im (tI .u8) y22.Kinds (yg16 4 1), Ent.im tS y22.Words (yg16 4 0), Ent.im (tI .u8) y17.Kinds (yg16 2 1), Ent.im tS y17.Words (yg16 2 0), Ent.own 5 (tI .u8) y42.Kinds (yg16 10 1), Ent.own 9 tS y48.Words (yg16 12 0), Ent.own 5 (tI .u8) y48.Kinds (yg16 12 1), Ent.im (tI .u8) ([] : List Int) (.nil), Ent.own 9 tS y54.Words (yg16 14 0), Ent.own 5 (tI .u8) y54.Kinds (yg16 14 1), Ent.im (tI .u8) ([] : List Int) (.nil)] _ := SH.frz1 (hS.sel [10, 0, 1, 2, 3, 4, 5, 6, 7, 8, 9, 11, 12, 13, 14, 15, 16, 17] rfl)
   replace hS : SH M X w [Ent.im (tI .u8) y42.Kinds (yg16 10 1), Ent.im tS y42.Words (yg16 10 0), Ent.im (tI .u8) y37.Kinds (yg16 9 1), Ent.im tS y37.Words (yg16 9 0), Ent.im (tI .u8) y32.Kinds (yg16 8 1), Ent.im tS y32.Words (yg16 8 0), Ent.im (tI .u8) y27.Kinds (yg16 6 1), Ent.im tS y27.Words (yg16 6 0), Ent.im (tI .u8) y22.Kinds (yg16 4 1), Ent.im tS y22.Words (yg16 4 0), Ent.im (tI .u8) y17.Kinds (yg16 2 1), Ent.im tS y17.Words (yg16 2 0), Ent.own 9 tS y48.Words (yg16 12 0), Ent.own 5 (tI .u8) y48.Kinds (yg16 12 1), Ent.im (tI .u8) ([] : List Int) (.nil), Ent.own 9 tS y54.Words (yg16 14 0), Ent.own 5 (tI .u8) y54.Kinds (yg16 14 1), Ent.im (tI .u8) ([] : List Int) (.nil)] _ := SH.frz1 (hS.sel [11, 0, 1, 2, 3, 4, 5, 6, 7, 8, 9, 10, 12, 13, 14, 15, 16, 17] rfl)
   replace hS : SH M X w [Ent.im tS y48.Words (yg16 12 0), Ent.im (tI .u8) y42.Kinds (yg16 10 1), Ent.im tS y42.Words (yg16 10 0), Ent.im (tI .u8) y37.Kinds (yg16 9 1), Ent.im tS y37.Words (yg16 9 0), Ent.im (tI .u8) y32.Kinds (yg16 8 1), Ent.im tS y32.Words (yg16 8 0), Ent.im (tI .u8) y27.Kinds (yg16 6 1), Ent.im tS y27.Words (yg16 6 0), Ent.im (tI .u8) y22.Kinds (yg16 4 1), Ent.im tS y22.Words (yg16 4 0), Ent.im (tI .u8) y17.Kinds (yg16 2 1), Ent.im tS y17.Words (yg16 2 0), Ent.own 5 (tI .u8) y48.Kinds (yg16 12 1), Ent.im (tI .u8) ([] : List Int) (.nil), Ent.own 9 tS y54.Words (yg16 14 0), Ent.own 5 (tI .u8) y54.Kinds (yg16 14 1), Ent.im (tI .u8) ([] : List Int) (.nil)] _ := SH.frz1 (hS.sel [12, 0, 1, 2, 3, 4, 5, 6, 7, 8, 9, 10, 11, 13, 14, 15, 16, 17] rfl)
   replace hS : SH M X w [Ent.im (tI .u8) y48.Kinds (yg16 12 1), Ent.im tS y48.Words (yg16 12 0), Ent.im (tI .u8) y42.Kinds (yg16 10 1), Ent.im tS y42.Words (yg16 10 0), Ent.im (tI .u8) y37.Kinds (yg16 9 1), Ent.im tS y37.Words (yg16 9 0), Ent.im (tI .u8) y32.Kinds (yg16 8 1), Ent.im tS y32.Words (yg16 8 0), Ent.im (tI .u8) y27.Kinds (yg16 6 1), Ent.im tS y27.Words (yg16 6 0), Ent.im (tI .u8) y22.Kinds (yg16 4 1), Ent.im tS y22.Words (yg16 4 0), Ent.im (tI .u8) y17.Kinds (yg16 2 1), Ent.im tS y17.Words (yg16 2 0), Ent.im (tI .u8) ([] : List Int) (.nil), Ent.own 9 tS y54.Words (yg16 14 0), Ent.own 5 (tI .u8) y54.Kinds (yg16 14 1), Ent.im (tI .u8) ([] : List Int) (.nil)] _ := SH.frz1 (hS.sel [13, 0, 1, 2, 3, 4, 5, 6, 7, 8, 9, 10, 11, 12, 14, 15, 16, 17] rfl)
   replace hS : SH M X w [Ent.im tS y54.Words (yg16 14 0), Ent.im (tI .u8) y48.Kinds (yg16 12 1), Ent.im tS y48.Words (yg16 12 0), Ent.im (tI .u8) y42.Kinds (yg16 10 1), Ent.im tS y42.Words (yg16 10 0), Ent.im (tI .u8) y37.Kinds (yg16 9 1), Ent.im tS y37.Words (yg16 9 0), Ent.im (tI .u8) y32.Kinds (yg16 8 1), Ent.im tS y32.Words (yg16 8 0), Ent.im (tI .u8) y27.Kinds (yg16 6 1), Ent.im tS y27.Words (yg16 6 0), Ent.im (tI .u8) y22.Kinds (yg16 4 1), Ent.im tS y22.Words (yg16 4 0), Ent.im (tI .u8) y17.Kinds (yg16 2 1), Ent.im tS y17.Words (yg16 2 0), Ent.im (tI .u8) ([] : List Int) (.nil), Ent.own 5 (tI .u8) y54.Kinds (yg16 14 1), Ent.im (tI .u8) ([] : List Int) (.nil)] _ := SH.frz1 (hS.sel [15, 0, 1, 2, 3, 4, 5, 6, 7, 8, 9, 10, 11, 12, 13, 14, 16, 17] rfl)
   replace hS : SH M X w [Ent.im (tI .u8) y54.Kinds (yg16 14 1), Ent.im tS y54.Words (yg16 14 0), Ent.im (tI .u8) y48.Kinds (yg16 12 1), Ent.im tS y48.Words (yg16 12 0), Ent.im (tI .u8) y42.Kinds (yg16 10 1), Ent.im tS y42.Words (yg16 10 0), Ent.im (tI .u8) y37.Kinds (yg16 9 1), Ent.im tS y37.Words (yg16 9 0), Ent.im (tI .u8) y32.Kinds (yg16 8 1), Ent.im tS y32.Words (yg16 8 0), Ent.im (tI .u8) y27.Kinds (yg16 6 1), Ent.im tS y27.Words (yg16 6 0), Ent.im (tI .u8) y22.Kinds (yg16 4 1), Ent.im tS y22.Words (yg16 4 0), Ent.im (tI .u8) y17.Kinds (yg16 2 1), Ent.im tS y17.Words (yg16 2 0), Ent.im (tI .u8) ([] : List Int) (.nil), Ent.im (tI .u8) ([] : List Int) (.nil)] _ := SH.frz1 (hS.sel [16, 0, 1, 2, 3, 4, 5, 6, 7, 8, 9, 10, 11, 12, 13, 14, 15, 17] rfl)
   have hd := hS.hand [15, 14, 13, 12, 11, 10, 9, 8, 7, 6, 5, 4, 3, 2, 1, 0] [0, 1, 2, 3, 4, 5, 6, 7, 8, 9, 10, 11, 12, 13, 14, 15, 16, 17] rfl rfl
   refine Stp.mono (o_lit (T := tyProp) (E := 51) (zv := .agg ⟨[.string ⟨⟨[]⟩⟩, .bool false, .int .u8 0, .string ⟨⟨[]⟩⟩, .int .i64 0, .int .u8 0, .int .u8 0, .int .u8 0, .int .u8 0, .slice none 0 0, .slice none 0 0, .bool false]⟩) [.string ⟨⟨y17.Name⟩⟩, .bool y17.Inherited, .int .u8 y17.Initial.Kind, .string ⟨⟨y17.Initial.Word⟩⟩, .int .i64 y17.Initial.Num, .int .u8 y17.Initial.Color.Red, .int .u8 y17.Initial.Color.Green, .int .u8 y17.Initial.Color.Blue, .int .u8 y17.Initial.Color.Alpha, .slice (yg16 2 0).a y17.Words.length (yg16 2 0).c, .slice (yg16 2 1).a y17.Kinds.length (yg16 2 1).c, .bool y17.Least, .string ⟨⟨y22.Name⟩⟩, .bool y22.Inherited, .int .u8 y22.Initial.Kind, .string ⟨⟨y22.Initial.Word⟩⟩, .int .i64 y22.Initial.Num, .int .u8 y22.Initial.Color.Red, .int .u8 y22.Initial.Color.Green, .int .u8 y22.Initial.Color.Blue, .int .u8 y22.Initial.Color.Alpha, .slice (yg16 4 0).a y22.Words.length (yg16 4 0).c, .slice (yg16 4 1).a y22.Kinds.length (yg16 4 1).c, .bool y22.Least, .string ⟨⟨y27.Name⟩⟩, .bool y27.Inherited, .int .u8 y27.Initial.Kind, .string ⟨⟨y27.Initial.Word⟩⟩, .int .i64 y27.Initial.Num, .int .u8 y27.Initial.Color.Red, .int .u8 y27.Initial.Color.Green, .int .u8 y27.Initial.Color.Blue, .int .u8 y27.Initial.Color.Alpha, .slice (yg16 6 0).a y27.Words.length (yg16 6 0).c, .slice (yg16 6 1).a y27.Kinds.length (yg16 6 1).c, .bool y27.Least, .string ⟨⟨y32.Name⟩⟩, .bool y32.Inherited, .int .u8 y32.Initial.Kind, .string ⟨⟨y32.Initial.Word⟩⟩, .int .i64 y32.Initial.Num, .int .u8 y32.Initial.Color.Red, .int .u8 y32.Initial.Color.Green, .int .u8 y32.Initial.Color.Blue, .int .u8 y32.Initial.Color.Alpha, .slice (yg16 8 0).a y32.Words.length (yg16 8 0).c, .slice (yg16 8 1).a y32.Kinds.length (yg16 8 1).c, .bool y32.Least, .string ⟨⟨y37.Name⟩⟩, .bool y37.Inherited, .int .u8 y37.Initial.Kind, .string ⟨⟨y37.Initial.Word⟩⟩, .int .i64 y37.Initial.Num, .int .u8 y37.Initial.Color.Red, .int .u8 y37.Initial.Color.Green, .int .u8 y37.Initial.Color.Blue, .int .u8 y37.Initial.Color.Alpha, .slice (yg16 9 0).a y37.Words.length (yg16 9 0).c, .slice (yg16 9 1).a y37.Kinds.length (yg16 9 1).c, .bool y37.Least, .string ⟨⟨y42.Name⟩⟩, .bool y42.Inherited, .int .u8 y42.Initial.Kind, .string ⟨⟨y42.Initial.Word⟩⟩, .int .i64 y42.Initial.Num, .int .u8 y42.Initial.Color.Red, .int .u8 y42.Initial.Color.Green, .int .u8 y42.Initial.Color.Blue, .int .u8 y42.Initial.Color.Alpha, .slice (yg16 10 0).a y42.Words.length (yg16 10 0).c, .slice (yg16 10 1).a y42.Kinds.length (yg16 10 1).c, .bool y42.Least, .string ⟨⟨y48.Name⟩⟩, .bool y48.Inherited, .int .u8 y48.Initial.Kind, .string ⟨⟨y48.Initial.Word⟩⟩, .int .i64 y48.Initial.Num, .int .u8 y48.Initial.Color.Red, .int .u8 y48.Initial.Color.Green, .int .u8 y48.Initial.Color.Blue, .int .u8 y48.Initial.Color.Alpha, .slice (yg16 12 0).a y48.Words.length (yg16 12 0).c, .slice (yg16 12 1).a y48.Kinds.length (yg16 12 1).c, .bool y48.Least, .string ⟨⟨y54.Name⟩⟩, .bool y54.Inherited, .int .u8 y54.Initial.Kind, .string ⟨⟨y54.Initial.Word⟩⟩, .int .i64 y54.Initial.Num, .int .u8 y54.Initial.Color.Red, .int .u8 y54.Initial.Color.Green, .int .u8 y54.Initial.Color.Blue, .int .u8 y54.Initial.Color.Alpha, .slice (yg16 14 0).a y54.Words.length (yg16 14 0).c, .slice (yg16 14 1).a y54.Kinds.length (yg16 14 1).c, .bool y54.Least] ([y17, y22, y27, y32, y37, y42, y48, y54] : List TProp) [gL [(yg16 2 0), (yg16 2 1)], gL [(yg16 4 0), (yg16 4 1)], gL [(yg16 6 0), (yg16 6 1)], gL [(yg16 8 0), (yg16 8 1)], gL [(yg16 9 0), (yg16 9 1)], gL [(yg16 10 0), (yg16 10 1)], gL [(yg16 12 0), (yg16 12 1)], gL [(yg16 14 0), (yg16 14 1)]] _ H hd rfl (by kernel_rfl) (by kernel_rfl) (by kernel_rfl) (by kernel_rfl) (by kernel_rfl) (by kernel_rfl) (by kernel_rfl) rfl (InnL.cons (tyProp_mk (hd.im 0 rfl) (hd.im 1 rfl)) (InnL.cons (tyProp_mk (hd.im 2 rfl) (hd.im 3 rfl)) (InnL.cons (tyProp_mk (hd.im 4 rfl) (hd.im 5 rfl)) (InnL.cons (tyProp_mk (hd.im 6 rfl) (hd.im 7 rfl)) (InnL.cons (tyProp_mk (hd.im 8 rfl) (hd.im 9 rfl)) (InnL.cons (tyProp_mk (hd.im 10 rfl) (hd.im 11 rfl)) (InnL.cons (tyProp_mk (hd.im 12 rfl) (hd.im 13 rfl)) (InnL.cons (tyProp_mk (hd.im 14 rfl) (hd.im 15 rfl)) InnL.nil))))))))) ?_
   rintro v w2 hq
   obtain ⟨g59, rfl, hq⟩ := hq
   replace hS : SH M X w [Ent.own 51 tyProp ([y17, y22, y27, y32, y37, y42, y48, y54] : List TProp) g59, Ent.im (tI .u8) y54.Kinds (yg16 14 1), Ent.im tS y54.Words (yg16 14 0), Ent.im (tI .u8) y48.Kinds (yg16 12 1), Ent.im tS y48.Words (yg16 12 0), Ent.im (tI .u8) y42.Kinds (yg16 10 1), Ent.im tS y42.Words (yg16 10 0), Ent.im (tI .u8) y37.Kinds (yg16 9 1), Ent.im tS y37.Words (yg16 9 0), Ent.im (tI .u8) y32.Kinds (yg16 8 1), Ent.im tS y32.Words (yg16 8 0), Ent.im (tI .u8) y27.Kinds (yg16 6 1), Ent.im tS y27.Words (yg16 6 0), Ent.im (tI .u8) y22.Kinds (yg16 4 1), Ent.im tS y22.Words (yg16 4 0), Ent.im (tI .u8) y17.Kinds (yg16 2 1), Ent.im tS y17.Words (yg16 2 0), Ent.im (tI .u8) ([] : List Int) (.nil), Ent.im (tI .u8) ([] : List Int) (.nil)] _ := hS.join [15, 14, 13, 12, 11, 10, 9, 8, 7, 6, 5, 4, 3, 2, 1, 0] [0, 1, 2, 3, 4, 5, 6, 7, 8, 9, 10, 11, 12, 13, 14, 15, 16, 17] rfl rfl hq
   clear hq
   rw [hX] at hS
   exact ⟨gL [g59], fun _ _ => rfl, hS.sel [0, 1, 2, 3, 4, 5, 6, 7, 8, 9, 10, 11, 12, 13, 14, 15, 16, 17, 18] rfl⟩
  ·intro o ho a w yg16 M Hb hv hO hS
   obtain rfl := Option.some.inj ho
   exact Stp.mono (o_evs [] (.slice (yg16 15 0).a 8 (yg16 15 0).c) none [] ((Hb).add (hv 15 (by decide) (by decide) 23 rfl)) rfl (by kernel_rfl) (fun q e => by cases e)) fun _ _ hq => ⟨gL [], fun _ _ => hq.1, (hS.below hq.2.below).sel [0, 1, 2, 3, 4, 5, 6, 7, 8, 9, 10, 11, 12, 13, 14, 15, 16, 17, 18] rfl⟩
 have H63 : Fr 57 [(3, [], .slice (yg16 15 0).a 8 (yg16 15 0).c), (1, [], .pointer (some ⟨b6, 0, none⟩)), (2, [], .pointer (some ⟨b9, 0, none⟩))] _ := (FrG.add (FrG.keep (ks := [1, 2]) H62 (by kernel_rfl)) (hv 16 3 rfl))
 replace hS : SH M X w [Ent.own 51 tyProp ([y17, y22, y27, y32, y37, y42, y48, y54] : List TProp) (yg16 15 0), Ent.im (tI .u8) y54.Kinds (yg16 14 1), Ent.im tS y54.Words (yg16 14 0), Ent.im (tI .u8) y48.Kinds (yg16 12 1), Ent.im tS y48.Words (yg16 12 0), Ent.im (tI .u8) y42.Kinds (yg16 10 1), Ent.im tS y42.Words (yg16 10 0), Ent.im (tI .u8) y37.Kinds (yg16 9 1), Ent.im tS y37.Words (yg16 9 0), Ent.im (tI .u8) y32.Kinds (yg16 8 1), Ent.im tS y32.Words (yg16 8 0), Ent.im (tI .u8) y27.Kinds (yg16 6 1), Ent.im tS y27.Words (yg16 6 0), Ent.im (tI .u8) y22.Kinds (yg16 4 1), Ent.im tS y22.Words (yg16 4 0), Ent.im (tI .u8) y17.Kinds (yg16 2 1), Ent.im tS y17.Words (yg16 2 0), Ent.im (tI .u8) ([] : List Int) (.nil), Ent.im (tI .u8) ([] : List Int) (.nil), Ent.blk b9 [.int .u8 2, .string ⟨⟨[]⟩⟩, .int .i64 0, .int .u8 0, .int .u8 0, .int .u8 0, .int .u8 0], Ent.blk b6 [.int .u8 y3.Kind, .string ⟨⟨y3.Word⟩⟩, .int .i64 y3.Num, .int .u8 y3.Color.Red, .int .u8 y3.Color.Green, .int .u8 y3.Color.Blue, .int .u8 y3.Color.Alpha], gE0] _ := hS
 clear hv H62
 generalize yg16 15 0 = g64 at H63 hS
 generalize yg16 14 1 = g65 at H63 hS
 generalize yg16 14 0 = g66 at H63 hS
 generalize yg16 12 1 = g67 at H63 hS
 generalize yg16 12 0 = g68 at H63 hS
 generalize yg16 10 1 = g69 at H63 hS
 generalize yg16 10 0 = g70 at H63 hS
 generalize yg16 9 1 = g71 at H63 hS
 generalize yg16 9 0 = g72 at H63 hS
 generalize yg16 8 1 = g73 at H63 hS
 generalize yg16 8 0 = g74 at H63 hS
 generalize yg16 6 1 = g75 at H63 hS
 generalize yg16 6 0 = g76 at H63 hS
 generalize yg16 4 1 = g77 at H63 hS
 generalize yg16 4 0 = g78 at H63 hS
 generalize yg16 2 1 = g79 at H63 hS
 generalize yg16 2 0 = g80 at H63 hS
 replace hS : SH M X w [Ent.own 51 tyProp ([y17, y22, y27, y32, y37, y42, y48, y54] : List TProp) g64, Ent.blk b9 [.int .u8 2, .string ⟨⟨[]⟩⟩, .int .i64 0, .int .u8 0, .int .u8 0, .int .u8 0, .int .u8 0], Ent.blk b6 [.int .u8 y3.Kind, .string ⟨⟨y3.Word⟩⟩, .int .i64 y3.Num, .int .u8 y3.Color.Red, .int .u8 y3.Color.Green, .int .u8 y3.Color.Blue, .int .u8 y3.Color.Alpha], gE0] _ := hS.sel [0, 19, 20, 21] rfl
 obtain ⟨z81, hz, hm⟩ := bindE hm
 refine w_cut (fun a' w' => ∃ (g123 : Gh), Fr 57 [(1, [], .pointer (some ⟨b6, 0, none⟩)), (3, [], .slice g123.a z81.length g123.c)] a' ∧ SH M X w [Ent.own 51 tyProp z81 g123, Ent.blk b9 [.int .u8 2, .string ⟨⟨[]⟩⟩, .int .i64 0, .int .u8 0, .int .u8 0, .int .u8 0, .int .u8 0], Ent.blk b6 [.int .u8 y3.Kind, .string ⟨⟨y3.Word⟩⟩, .int .i64 y3.Num, .int .u8 y3.Color.Red, .int .u8 y3.Color.Green, .int .u8 y3.Color.Blue, .int .u8 y3.Color.Alpha], gE0] w') ?_ ?_
 ·replace hm := hz
  refine w_seq ?_
  refine wl_start ?_
  have hd := hS.hand [] [0, 1, 2, 3] rfl rfl
  refine m_stp [24, 1, 2, 3] [(1, [], .pointer (some ⟨b6, 0, none⟩)), (2, [], .pointer (some ⟨b9, 0, none⟩)), (3, [], .slice g64.a 8 g64.c)] H63 rfl rfl rfl rfl (o_lit (T := tS) (E := 9) (zv := .string ⟨⟨[]⟩⟩) [.string ⟨⟨[116, 111, 112]⟩⟩, .string ⟨⟨[114, 105, 103, 104, 116]⟩⟩, .string ⟨⟨[98, 111, 116, 116, 111, 109]⟩⟩, .string ⟨⟨[108, 101, 102, 116]⟩⟩] ([[116, 111, 112], [114, 105, 103, 104, 116], [98, 111, 116, 116, 111, 109], [108, 101, 102, 116]] : List Str) [gL [], gL [], gL [], gL []] _ H63 hd rfl (by kernel_rfl) (by kernel_rfl) (by kernel_rfl) (by kernel_rfl) (by kernel_rfl) (by kernel_rfl) (by kernel_rfl) rfl (InnL.cons trivial (InnL.cons trivial (InnL.cons trivial (InnL.cons trivial InnL.nil))))) (fun _ => rfl) fun _ wd84 v H85 hq => ?_
  clear H63 hd
  obtain ⟨g82, rfl, hq⟩ := hq
  replace hS : SH M X w [Ent.own 9 tS ([[116, 111, 112], [114, 105, 103, 104, 116], [98, 111, 116, 116, 111, 109], [108, 101, 102, 116]] : List Str) g82, Ent.own 51 tyProp ([y17, y22, y27, y32, y37, y42, y48, y54] : List TProp) g64, Ent.blk b9 [.int .u8 2, .string ⟨⟨[]⟩⟩, .int .i64 0, .int .u8 0, .int .u8 0, .int .u8 0, .int .u8 0], Ent.blk b6 [.int .u8 y3.Kind, .string ⟨⟨y3.Word⟩⟩, .int .i64 y3.Num, .int .u8 y3.Color.Red, .int .u8 y3.Color.Green, .int .u8 y3.Color.Blue, .int .u8 y3.Color.Alpha], gE0] _ := hS.join [] [0, 1, 2, 3] rfl rfl hq
  clear hq
  refine wl_batch 1 3 [] [1, 2, 3, 24, 25, 26] [(1, [], .pointer (some ⟨b6, 0, none⟩)), (2, [], .pointer (some ⟨b9, 0, none⟩)), (3, [], .slice g64.a 8 g64.c), (24, [], .slice g82.a 4 g82.c), (25, [], .int .i64 4), (26, [], .int .i64 0)] [] H85 (by decide) (by kernel_rfl) trivial fun _ wd86 H87 hb => ?_
  clear H85
  replace hS := hS.below hb
  clear hb
  refine wl_end rfl ?_
  refine w_block ?_
  refine w_loop (fun kk a' w' => ∃ (v88 : List TProp) (v90 : Int) (g89 : Gh), props_Table_L1 m  kk v88 v90 = some _ ∧ Fr 57 [(1, [], .pointer (some ⟨b6, 0, none⟩)), (2, [], .pointer (some ⟨b9, 0, none⟩)), (24, [], .slice g82.a 4 g82.c), (25, [], .int .i64 4), (3, [], .slice g89.a v88.length g89.c), (26, [], .int .i64 v90)] a' ∧ SH M X w [Ent.own 9 tS ([[116, 111, 112], [114, 105, 103, 104, 116], [98, 111, 116, 116, 111, 109], [108, 101, 102, 116]] : List Str) g82, Ent.own 51 tyProp v88 g89, Ent.blk b9 [.int .u8 2, .string ⟨⟨[]⟩⟩, .int .i64 0, .int .u8 0, .int .u8 0, .int .u8 0, .int .u8 0], Ent.blk b6 [.int .u8 y3.Kind, .string ⟨⟨y3.Word⟩⟩, .int .i64 y3.Num, .int .u8 y3.Color.Red, .int .u8 y3.Color.Green, .int .u8 y3.Color.Blue, .int .u8 y3.Color.Alpha], gE0] w') ⟨_, ([y17, y22, y27, y32, y37, y42, y48, y54] : List TProp), 0, g64, hm, FrG.keep (ks := [1, 2, 24, 25, 3, 26]) H87 (by kernel_rfl), hS⟩ ?_
  clear hm H87 hS
  rintro kk _ wd122 ⟨v88, v90, g89, hm, H, hS⟩
  cases kk with
  | zero => exact noneE hm
  | succ kk =>
   rw [props_Table_L1] at hm
   refine s_reg [] [1, 2, 3, 24, 25, 26, 27] [(1, [], .pointer (some ⟨b6, 0, none⟩)), (2, [], .pointer (some ⟨b9, 0, none⟩)), (3, [], .slice g89.a v88.length g89.c), (24, [], .slice g82.a 4 g82.c), (25, [], .int .i64 4), (26, [], .int .i64 v90), (27, [], .bool (decide (v90 < 4)))] [] H (by kernel_rfl) trivial fun _ wd91 H92 hb => ?_
   clear H
   replace hS := hS.below hb
   clear hb
   refine w_seq ?_
   refine w_if H92 rfl (fun hc => ?_) (fun hc => ?c121)
   case c121 =>
    replace hm := bF hc hm
    refine w_exit rfl ?_
    obtain rfl := someE hm
    replace hS : SH M X w [Ent.own 51 tyProp v88 g89, Ent.blk b9 [.int .u8 2, .string ⟨⟨[]⟩⟩, .int .i64 0, .int .u8 0, .int .u8 0, .int .u8 0, .int .u8 0], Ent.blk b6 [.int .u8 y3.Kind, .string ⟨⟨y3.Word⟩⟩, .int .i64 y3.Num, .int .u8 y3.Color.Red, .int .u8 y3.Color.Green, .int .u8 y3.Color.Blue, .int .u8 y3.Color.Alpha], gE0] _ := hS.sel [1, 2, 3, 4] rfl
    exact ⟨g89, FrG.keep (ks := [1, 3]) H92 (by kernel_rfl), hS⟩
   replace hm := bT hc hm
   refine w_skip ?_
   refine w_seq ?_
   refine w_block ?_
   obtain ⟨ho93, hm⟩ := chkE hm
   obtain ⟨x94, hx94, hm⟩ := letE hm
   refine s_reg [(.string ⟨⟨(gi ([[116, 111, 112], [114, 105, 103, 104, 116], [98, 111, 116, 116, 111, 109], [108, 101, 102, 116]] : List Str) v90)⟩⟩)] [1, 2, 3, 5, 24, 25, 26] [(1, [], .pointer (some ⟨b6, 0, none⟩)), (2, [], .pointer (some ⟨b9, 0, none⟩)), (3, [], .slice g89.a v88.length g89.c), (5, [], .string ⟨⟨x94⟩⟩), (24, [], .slice g82.a 4 g82.c), (25, [], .int .i64 4), (26, [], .int .i64 v90)] [fun _ => oka g82.a ∧ 0 ≤ v90 ∧ v90 < ln ([[116, 111, 112], [114, 105, 103, 104, 116], [98, 111, 116, 116, 111, 109], [108, 101, 102, 116]] : List Str), fun wz => V.at1 ⟨ab g82.a, ao g82.a + (v90).toNat * 1, none⟩ (.string ⟨⟨(gi ([[116, 111, 112], [114, 105, 103, 104, 116], [98, 111, 116, 116, 111, 109], [108, 101, 102, 116]] : List Str) v90)⟩⟩) wz] H92 (by subst hx94; kernel_rfl) ⟨((hS.osl 0 rfl).oki ho93), ((hS.osl 0 rfl).at1 ho93 0 rfl), trivial⟩ fun _ wd95 H96 hb => ?_
   clear H92
   replace hS := hS.below hb
   clear hb
   refine wl_start ?_
   obtain ⟨ho97, hm⟩ := chkE hm
   refine wl_batch 0 4 [(.agg ⟨[.int .u8 2, .string ⟨⟨[]⟩⟩, .int .i64 0, .int .u8 0, .int .u8 0, .int .u8 0, .int .u8 0]⟩)] [1, 2, 24, 25, 26, 30, 32, 33] [(1, [], .pointer (some ⟨b6, 0, none⟩)), (2, [], .pointer (some ⟨b9, 0, none⟩)), (24, [], .slice g82.a 4 g82.c), (25, [], .int .i64 4), (26, [], .int .i64 v90), (30, [], .slice g89.a v88.length g89.c), (32, [], .string ⟨⟨[109, 97, 114, 103, 105, 110, 45] ++ x94⟩⟩), (33, [], .agg ⟨[.int .u8 2, .string ⟨⟨[]⟩⟩, .int .i64 0, .int .u8 0, .int .u8 0, .int .u8 0, .int .u8 0]⟩)] [fun _ => ln [109, 97, 114, 103, 105, 110, 45] + ln x94 ≤ 9223372036854775807, fun wz => V.atN b9 0 [.int .u8 2, .string ⟨⟨[]⟩⟩, .int .i64 0, .int .u8 0, .int .u8 0, .int .u8 0, .int .u8 0] 0 wz] H96 (by decide) (by kernel_rfl) ⟨ho97, ((hS.bk 2 rfl).atD rfl), trivial⟩ fun _ wd98 H99 hb => ?_
   clear H96
   replace hS := hS.below hb
   clear hb
   replace hS : SH M X w [Ent.own 5 (tI .u8) ([] : List Int) (.nil), Ent.own 9 tS ([[116, 111, 112], [114, 105, 103, 104, 116], [98, 111, 116, 116, 111, 109], [108, 101, 102, 116]] : List Str) g82, Ent.own 51 tyProp v88 g89, Ent.blk b9 [.int .u8 2, .string ⟨⟨[]⟩⟩, .int .i64 0, .int .u8 0, .int .u8 0, .int .u8 0, .int .u8 0], Ent.blk b6 [.int .u8 y3.Kind, .string ⟨⟨y3.Word⟩⟩, .int .i64 y3.Num, .int .u8 y3.Color.Red, .int .u8 y3.Color.Green, .int .u8 y3.Color.Blue, .int .u8 y3.Color.Alpha], gE0] _ := hS.addNil 5 (tI .u8)
   replace hS : SH M X w [Ent.im (tI .u8) ([] : List Int) (.nil), Ent.own 9 tS ([[116, 111, 112], [114, 105, 103, 104, 116], [98, 111, 116, 116, 111, 109], [108, 101, 102, 116]] : List Str) g82, Ent.own 51 tyProp v88 g89, Ent.blk b9 [.int .u8 2, .string ⟨⟨[]⟩⟩, .int .i64 0, .int .u8 0, .int .u8 0, .int .u8 0, .int .u8 0], Ent.blk b6 [.int .u8 y3.Kind, .string ⟨⟨y3.Word⟩⟩, .int .i64 y3.Num, .int .u8 y3.Color.Red, .int .u8 y3.Color.Green, .int .u8 y3.Color.Blue, .int .u8 y3.Color.Alpha], gE0] _ := SH.frz1 (hS.sel [0, 1, 2, 3, 4, 5] rfl)
   obtain ⟨y101, hy101, hm⟩ := bindE hm
   have hd := hS.hand [0, 5] [0, 1, 2, 3, 4, 5] rfl rfl
   refine m_stp [34, 1, 2, 24, 25, 26, 30] [(1, [], .pointer (some ⟨b6, 0, none⟩)), (2, [], .pointer (some ⟨b9, 0, none⟩)), (24, [], .slice g82.a 4 g82.c), (25, [], .int .i64 4), (26, [], .int .i64 v90), (30, [], .slice g89.a v88.length g89.c)] H99 rfl rfl rfl rfl (o_callx H99 rfl rfl (props_length_ok (g_more := Gh.nil) m _ _ _ _ _ _ _ hy101 _ _ hd)) (fun _ => rfl) fun _ wd106 v H107 hq => ?_
   clear H99 hd
   obtain ⟨g102, g104, rfl, hq⟩ := hq
   replace hS : SH M X w [Ent.own 9 tS y101.Words g102, Ent.own 5 (tI .u8) y101.Kinds g104, Ent.im (tI .u8) ([] : List Int) (.nil), Ent.own 9 tS ([[116, 111, 112], [114, 105, 103, 104, 116], [98, 111, 116, 116, 111, 109], [108, 101, 102, 116]] : List Str) g82, Ent.own 51 tyProp v88 g89, Ent.blk b9 [.int .u8 2, .string ⟨⟨[]⟩⟩, .int .i64 0, .int .u8 0, .int .u8 0, .int .u8 0, .int .u8 0], Ent.blk b6 [.int .u8 y3.Kind, .string ⟨⟨y3.Word⟩⟩, .int .i64 y3.Num, .int .u8 y3.Color.Red, .int .u8 y3.Color.Green, .int .u8 y3.Color.Blue, .int .u8 y3.Color.Alpha], gE0] _ := hS.join [0, 5] [0, 1, 2, 3, 4, 5] rfl rfl hq
   clear hq
   replace hS : SH M X w [Ent.im tS y101.Words g102, Ent.own 5 (tI .u8) y101.Kinds g104, Ent.im (tI .u8) ([] : List Int) (.nil), Ent.own 9 tS ([[116, 111, 112], [114, 105, 103, 104, 116], [98, 111, 116, 116, 111, 109], [108, 101, 102, 116]] : List Str) g82, Ent.own 51 tyProp v88 g89, Ent.blk b9 [.int .u8 2, .string ⟨⟨[]⟩⟩, .int .i64 0, .int .u8 0, .int .u8 0, .int .u8 0, .int .u8 0], Ent.blk b6 [.int .u8 y3.Kind, .string ⟨⟨y3.Word⟩⟩, .int .i64 y3.Num, .int .u8 y3.Color.Red, .int .u8 y3.Color.Green, .int .u8 y3.Color.Blue, .int .u8 y3.Color.Alpha], gE0] _ := SH.frz1 (hS.sel [0, 1, 2, 3, 4, 5, 6, 7] rfl)
   replace hS : SH M X w [Ent.im (tI .u8) y101.Kinds g104, Ent.im tS y101.Words g102, Ent.im (tI .u8) ([] : List Int) (.nil), Ent.own 9 tS ([[116, 111, 112], [114, 105, 103, 104, 116], [98, 111, 116, 116, 111, 109], [108, 101, 102, 116]] : List Str) g82, Ent.own 51 tyProp v88 g89, Ent.blk b9 [.int .u8 2, .string ⟨⟨[]⟩⟩, .int .i64 0, .int .u8 0, .int .u8 0, .int .u8 0, .int .u8 0], Ent.blk b6 [.int .u8 y3.Kind, .string ⟨⟨y3.Word⟩⟩, .int .i64 y3.Num, .int .u8 y3.Color.Red, .int .u8 y3.Color.Green, .int .u8 y3.Color.Blue, .int .u8 y3.Color.Alpha], gE0] _ := SH.frz1 (hS.sel [1, 0, 2, 3, 4, 5, 6, 7] rfl)
   have hd := hS.hand [1, 0] [0, 1, 2, 3, 4, 5, 6, 7] rfl rfl
   refine m_stp [35, 1, 2, 24, 25, 26, 30] [(1, [], .pointer (some ⟨b6, 0, none⟩)), (2, [], .pointer (some ⟨b9, 0, none⟩)), (24, [], .slice g82.a 4 g82.c), (25, [], .int .i64 4), (26, [], .int .i64 v90), (30, [], .slice g89.a v88.length g89.c)] H107 rfl rfl rfl rfl (o_lit (T := tyProp) (E := 51) (zv := .agg ⟨[.string ⟨⟨[]⟩⟩, .bool false, .int .u8 0, .string ⟨⟨[]⟩⟩, .int .i64 0, .int .u8 0, .int .u8 0, .int .u8 0, .int .u8 0, .slice none 0 0, .slice none 0 0, .bool false]⟩) [.string ⟨⟨y101.Name⟩⟩, .bool y101.Inherited, .int .u8 y101.Initial.Kind, .string ⟨⟨y101.Initial.Word⟩⟩, .int .i64 y101.Initial.Num, .int .u8 y101.Initial.Color.Red, .int .u8 y101.Initial.Color.Green, .int .u8 y101.Initial.Color.Blue, .int .u8 y101.Initial.Color.Alpha, .slice g102.a y101.Words.length g102.c, .slice g104.a y101.Kinds.length g104.c, .bool y101.Least] ([y101] : List TProp) [gL [g102, g104]] _ H107 hd rfl (by kernel_rfl) (by kernel_rfl) (by kernel_rfl) (by kernel_rfl) (by kernel_rfl) (by kernel_rfl) (by kernel_rfl) rfl (InnL.cons (tyProp_mk (hd.im 0 rfl) (hd.im 1 rfl)) InnL.nil)) (fun _ => rfl) fun _ wd110 v H111 hq => ?_
   clear H107 hd
   obtain ⟨g108, rfl, hq⟩ := hq
   replace hS : SH M X w [Ent.own 51 tyProp ([y101] : List TProp) g108, Ent.im (tI .u8) y101.Kinds g104, Ent.im tS y101.Words g102, Ent.im (tI .u8) ([] : List Int) (.nil), Ent.own 9 tS ([[116, 111, 112], [114, 105, 103, 104, 116], [98, 111, 116, 116, 111, 109], [108, 101, 102, 116]] : List Str) g82, Ent.own 51 tyProp v88 g89, Ent.blk b9 [.int .u8 2, .string ⟨⟨[]⟩⟩, .int .i64 0, .int .u8 0, .int .u8 0, .int .u8 0, .int .u8 0], Ent.blk b6 [.int .u8 y3.Kind, .string ⟨⟨y3.Word⟩⟩, .int .i64 y3.Num, .int .u8 y3.Color.Red, .int .u8 y3.Color.Green, .int .u8 y3.Color.Blue, .int .u8 y3.Color.Alpha], gE0] _ := hS.join [1, 0] [0, 1, 2, 3, 4, 5, 6, 7] rfl rfl hq
   clear hq
   obtain ⟨ho112, hm⟩ := chkE hm
   obtain ⟨q113, hq113, hm⟩ := letE hm
   have hd := hS.hand [5, 0] [1, 2, 3, 4, 6, 7, 8] rfl rfl
   refine m_stp [36, 1, 2, 24, 25, 26] [(1, [], .pointer (some ⟨b6, 0, none⟩)), (2, [], .pointer (some ⟨b9, 0, none⟩)), (24, [], .slice g82.a 4 g82.c), (25, [], .int .i64 4), (26, [], .int .i64 v90)] H111 rfl rfl rfl rfl (o_app2 (T := tyProp) (zv := .agg ⟨[.string ⟨⟨[]⟩⟩, .bool false, .int .u8 0, .string ⟨⟨[]⟩⟩, .int .i64 0, .int .u8 0, .int .u8 0, .int .u8 0, .int .u8 0, .slice none 0 0, .slice none 0 0, .bool false]⟩) (g1 := g89) (g2 := g108) (l1 := v88) (l2 := ([y101] : List TProp)) q113 hq113.symm H111 hd rfl rfl rfl rfl rfl rfl rfl (by kernel_rfl) (by kernel_rfl) rfl rfl ho112) (fun _ => rfl) fun _ wd114 v H115 hq => ?_
   clear H111 hd
   obtain ⟨g116, rfl, hq⟩ := hq
   replace hS : SH M X w [Ent.own 51 tyProp q113 g116, Ent.own 51 tyProp ([y101] : List TProp) g108, Ent.im (tI .u8) y101.Kinds g104, Ent.im tS y101.Words g102, Ent.im (tI .u8) ([] : List Int) (.nil), Ent.own 9 tS ([[116, 111, 112], [114, 105, 103, 104, 116], [98, 111, 116, 116, 111, 109], [108, 101, 102, 116]] : List Str) g82, Ent.blk b9 [.int .u8 2, .string ⟨⟨[]⟩⟩, .int .i64 0, .int .u8 0, .int .u8 0, .int .u8 0, .int .u8 0], Ent.blk b6 [.int .u8 y3.Kind, .string ⟨⟨y3.Word⟩⟩, .int .i64 y3.Num, .int .u8 y3.Color.Red, .int .u8 y3.Color.Green, .int .u8 y3.Color.Blue, .int .u8 y3.Color.Alpha], gE0] _ := hS.join [5, 0] [1, 2, 3, 4, 6, 7, 8] rfl rfl hq
   clear hq
   refine wl_batch 7 8 [] [1, 2, 3, 24, 25, 26] [(1, [], .pointer (some ⟨b6, 0, none⟩)), (2, [], .pointer (some ⟨b9, 0, none⟩)), (3, [], .slice g116.a q113.length g116.c), (24, [], .slice g82.a 4 g82.c), (25, [], .int .i64 4), (26, [], .int .i64 v90)] [] H115 (by decide) (by kernel_rfl) trivial fun _ wd117 H118 hb => ?_
   clear H115
   replace hS := hS.below hb
   clear hb
   refine wl_end rfl ?_
   replace hS : SH M X w [Ent.own 51 tyProp q113 g116, Ent.own 9 tS ([[116, 111, 112], [114, 105, 103, 104, 116], [98, 111, 116, 116, 111, 109], [108, 101, 102, 116]] : List Str) g82, Ent.blk b9 [.int .u8 2, .string ⟨⟨[]⟩⟩, .int .i64 0, .int .u8 0, .int .u8 0, .int .u8 0, .int .u8 0], Ent.blk b6 [.int .u8 y3.Kind, .string ⟨⟨y3.Word⟩⟩, .int .i64 y3.Num, .int .u8 y3.Color.Red, .int .u8 y3.Color.Green, .int .u8 y3.Color.Blue, .int .u8 y3.Color.Alpha], gE0] _ := hS.sel [0, 5, 6, 7, 8] rfl
   refine w_reg [] [1, 2, 3, 24, 25, 26] [(1, [], .pointer (some ⟨b6, 0, none⟩)), (2, [], .pointer (some ⟨b9, 0, none⟩)), (3, [], .slice g116.a q113.length g116.c), (24, [], .slice g82.a 4 g82.c), (25, [], .int .i64 4), (26, [], .int .i64 (w64 (v90 + 1)))] [] H118 (by kernel_rfl) trivial fun _ wd119 H120 hb => ?_
   clear H118
   replace hS := hS.below hb
   clear hb
   replace hS : SH M X w [Ent.own 9 tS ([[116, 111, 112], [114, 105, 103, 104, 116], [98, 111, 116, 116, 111, 109], [108, 101, 102, 116]] : List Str) g82, Ent.own 51 tyProp q113 g116, Ent.blk b9 [.int .u8 2, .string ⟨⟨[]⟩⟩, .int .i64 0, .int .u8 0, .int .u8 0, .int .u8 0, .int .u8 0], Ent.blk b6 [.int .u8 y3.Kind, .string ⟨⟨y3.Word⟩⟩, .int .i64 y3.Num, .int .u8 y3.Color.Red, .int .u8 y3.Color.Green, .int .u8 y3.Color.Blue, .int .u8 y3.Color.Alpha], gE0] _ := hS.sel [1, 0, 2, 3, 4] rfl
   exact ⟨_, Nat.lt_succ_self _, q113, w64 (v90 + 1), g116, hm, FrG.keep (ks := [1, 2, 24, 25, 3, 26]) H120 (by kernel_rfl), hS⟩
 ·rintro _ wd173 ⟨g123, H, hS⟩
  replace hS : SH M X w [Ent.own 51 tyProp z81 g123, Ent.blk b6 [.int .u8 y3.Kind, .string ⟨⟨y3.Word⟩⟩, .int .i64 y3.Num, .int .u8 y3.Color.Red, .int .u8 y3.Color.Green, .int .u8 y3.Color.Blue, .int .u8 y3.Color.Alpha], gE0] _ := hS.sel [0, 2, 3] rfl
  obtain ⟨y126, hy126, hm⟩ := bindE hm
  obtain ⟨y131, hy131, hm⟩ := letE hm
  obtain ⟨y134, hy134, hm⟩ := bindE hm
  obtain ⟨y139, hy139, hm⟩ := bindE hm
  obtain ⟨ho154, hm⟩ := chkE hm
  obtain ⟨q155, hq155, hm⟩ := letE hm
  refine s_drawS (base := [(1, [], .pointer (some ⟨b6, 0, none⟩)), (3, [], .slice g123.a z81.length g123.c)]) (L := [Ent.own 51 tyProp z81 g123, Ent.blk b6 [.int .u8 y3.Kind, .string ⟨⟨y3.Word⟩⟩, .int .i64 y3.Num, .int .u8 y3.Color.Red, .int .u8 y3.Color.Green, .int .u8 y3.Color.Blue, .int .u8 y3.Color.Alpha], gE0]) 20 3 (fun yg124 => [.slice g123.a z81.length g123.c, .agg ⟨[.int .u8 2, .string ⟨⟨[]⟩⟩, .int .i64 16000, .int .u8 0, .int .u8 0, .int .u8 0, .int .u8 0]⟩, .agg ⟨[.string ⟨⟨y126.Name⟩⟩, .bool y126.Inherited, .int .u8 y126.Initial.Kind, .string ⟨⟨y126.Initial.Word⟩⟩, .int .i64 y126.Initial.Num, .int .u8 y126.Initial.Color.Red, .int .u8 y126.Initial.Color.Green, .int .u8 y126.Initial.Color.Blue, .int .u8 y126.Initial.Color.Alpha, .slice (yg124 2 0).a y126.Words.length (yg124 2 0).c, .slice (yg124 2 1).a y126.Kinds.length (yg124 2 1).c, .bool y126.Least]⟩, .agg ⟨[.int .u8 y131.Kind, .string ⟨⟨y131.Word⟩⟩, .int .i64 y131.Num, .int .u8 y131.Color.Red, .int .u8 y131.Color.Green, .int .u8 y131.Color.Blue, .int .u8 y131.Color.Alpha]⟩, .slice (yg124 4 0).a 1 (yg124 4 0).c, .agg ⟨[.string ⟨⟨y134.Name⟩⟩, .bool y134.Inherited, .int .u8 y134.Initial.Kind, .string ⟨⟨y134.Initial.Word⟩⟩, .int .i64 y134.Initial.Num, .int .u8 y134.Initial.Color.Red, .int .u8 y134.Initial.Color.Green, .int .u8 y134.Initial.Color.Blue, .int .u8 y134.Initial.Color.Alpha, .slice (yg124 5 0).a y134.Words.length (yg124 5 0).c, .slice (yg124 5 1).a y134.Kinds.length (yg124 5 1).c, .bool y134.Least]⟩, .agg ⟨[.string ⟨⟨y139.Name⟩⟩, .bool y139.Inherited, .int .u8 y139.Initial.Kind, .string ⟨⟨y139.Initial.Word⟩⟩, .int .i64 y139.Initial.Num, .int .u8 y139.Initial.Color.Red, .int .u8 y139.Initial.Color.Green, .int .u8 y139.Initial.Color.Blue, .int .u8 y139.Initial.Color.Alpha, .slice (yg124 6 0).a y139.Words.length (yg124 6 0).c, .slice (yg124 6 1).a y139.Kinds.length (yg124 6 1).c, .bool y139.Least]⟩, .agg ⟨[.int .u8 5, .string ⟨⟨[]⟩⟩, .int .i64 1000, .int .u8 0, .int .u8 0, .int .u8 0, .int .u8 0]⟩, .slice (yg124 8 0).a 1 (yg124 8 0).c, .agg ⟨[.string ⟨⟨[111, 112, 97, 99, 105, 116, 121]⟩⟩, .bool false, .int .u8 5, .string ⟨⟨[]⟩⟩, .int .i64 1000, .int .u8 0, .int .u8 0, .int .u8 0, .int .u8 0, .slice none 0 0, .slice (yg124 8 0).a 1 (yg124 8 0).c, .bool false]⟩, .agg ⟨[.int .u8 y3.Kind, .string ⟨⟨y3.Word⟩⟩, .int .i64 y3.Num, .int .u8 y3.Color.Red, .int .u8 y3.Color.Green, .int .u8 y3.Color.Blue, .int .u8 y3.Color.Alpha]⟩, .slice (yg124 11 0).a 1 (yg124 11 0).c, .slice (yg124 12 0).a 1 (yg124 12 0).c, .agg ⟨[.string ⟨⟨[122, 45, 105, 110, 100, 101, 120]⟩⟩, .bool false, .int .u8 y3.Kind, .string ⟨⟨y3.Word⟩⟩, .int .i64 y3.Num, .int .u8 y3.Color.Red, .int .u8 y3.Color.Green, .int .u8 y3.Color.Blue, .int .u8 y3.Color.Alpha, .slice (yg124 11 0).a 1 (yg124 11 0).c, .slice (yg124 12 0).a 1 (yg124 12 0).c, .bool false]⟩, .agg ⟨[.int .u8 6, .string ⟨⟨[]⟩⟩, .int .i64 0, .int .u8 0, .int .u8 0, .int .u8 0, .int .u8 0]⟩, .slice (yg124 15 0).a 1 (yg124 15 0).c, .agg ⟨[.string ⟨⟨[111, 114, 100, 101, 114]⟩⟩, .bool false, .int .u8 6, .string ⟨⟨[]⟩⟩, .int .i64 0, .int .u8 0, .int .u8 0, .int .u8 0, .int .u8 0, .slice none 0 0, .slice (yg124 15 0).a 1 (yg124 15 0).c, .bool false]⟩, .slice (yg124 17 0).a 6 (yg124 17 0).c, .slice (yg124 18 0).a q155.length (yg124 18 0).c, .slice (yg124 18 0).a q155.length (yg124 18 0).c]) (fun yg124 => [[], [], [Ent.own 9 tS y126.Words (yg124 2 0), Ent.own 5 (tI .u8) y126.Kinds (yg124 2 1), Ent.im (tI .u8) ([] : List Int) (.nil)], [], [Ent.own 5 (tI .u8) ([5] : List Int) (yg124 4 0)], [Ent.own 9 tS y134.Words (yg124 5 0), Ent.own 5 (tI .u8) y134.Kinds (yg124 5 1), Ent.im (tI .u8) ([5] : List Int) (yg124 4 0)], [Ent.own 9 tS y139.Words (yg124 6 0), Ent.own 5 (tI .u8) y139.Kinds (yg124 6 1)], [], [Ent.own 5 (tI .u8) ([5] : List Int) (yg124 8 0)], [], [], [Ent.own 9 tS ([[97, 117, 116, 111]] : List Str) (yg124 11 0)], [Ent.own 5 (tI .u8) ([6] : List Int) (yg124 12 0)], [], [], [Ent.own 5 (tI .u8) ([6] : List Int) (yg124 15 0)], [], [Ent.own 51 tyProp ([y126, y134, y139, (TProp.mk [111, 112, 97, 99, 105, 116, 121] false (TVal.mk 5 [] 1000 (TColor.mk 0 0 0 0)) [] ([5] : List Int) false), (TProp.mk [122, 45, 105, 110, 100, 101, 120] false y3 ([[97, 117, 116, 111]] : List Str) ([6] : List Int) false), (TProp.mk [111, 114, 100, 101, 114] false (TVal.mk 6 [] 0 (TColor.mk 0 0 0 0)) [] ([6] : List Int) false)] : List TProp) (yg124 17 0), Ent.im (tI .u8) ([6] : List Int) (yg124 15 0), Ent.im (tI .u8) ([6] : List Int) (yg124 12 0), Ent.im tS ([[97, 117, 116, 111]] : List Str) (yg124 11 0), Ent.im (tI .u8) ([5] : List Int) (yg124 8 0), Ent.im (tI .u8) y139.Kinds (yg124 6 1), Ent.im tS y139.Words (yg124 6 0), Ent.im (tI .u8) y134.Kinds (yg124 5 1), Ent.im tS y134.Words (yg124 5 0), Ent.im (tI .u8) y126.Kinds (yg124 2 1), Ent.im tS y126.Words (yg124 2 0), Ent.im (tI .u8) ([] : List Int) (.nil), Ent.im (tI .u8) ([5] : List Int) (yg124 4 0)], [Ent.own 51 tyProp q155 (yg124 18 0)], []]) [[], [], [22], [], [], [4, 22], [22], [], [], [8], [21], [], [], [11, 12], [], [], [15], [2, 5, 6, 8, 11, 12, 15], [17, 20], [18]] [[], [], [], [], [], [4], [], [], [], [], [], [], [], [], [], [], [], [2, 5, 6, 8, 11, 12, 15], [20], []] [[0], [1], [1, 2], [3], [4], [3, 4, 5], [6], [7], [8], [7, 8, 9], [10], [11], [12], [10, 11, 12, 13], [14], [15], [14, 15, 16], [1, 2, 3, 4, 5, 6, 7, 8, 9, 10, 11, 12, 13, 14, 15, 16, 17], [0, 1, 2, 3, 4, 5, 6, 7, 8, 9, 10, 11, 12, 13, 14, 15, 16, 17, 18], [0, 1, 2, 3, 4, 5, 6, 7, 8, 9, 10, 11, 12, 13, 14, 15, 16, 17, 18, 19]] [] (FrG.keep (ks := [1, 3]) H (by kernel_rfl)) (fun _ _ h => by cases h) (by kernel_rfl) hS (by kernel_rfl) rfl rfl (by kernel_rfl) (by kernel_rfl) (by kernel_rfl) (gd_none (by kernel_rfl) _ _) ?hloc_yg124 ?hstep_yg124 fun _ wd157 yg124 H158 hv hS => ?hK_yg124
  case hloc_yg124 => exact ⟨(fun _ _ _ _ => ⟨rfl, rfl⟩), (fun _ _ _ _ => ⟨rfl, rfl⟩), (fun _ i g hi => lcG [2] (fun yg124 => (.agg ⟨[.string ⟨⟨y126.Name⟩⟩, .bool y126.Inherited, .int .u8 y126.Initial.Kind, .string ⟨⟨y126.Initial.Word⟩⟩, .int .i64 y126.Initial.Num, .int .u8 y126.Initial.Color.Red, .int .u8 y126.Initial.Color.Green, .int .u8 y126.Initial.Color.Blue, .int .u8 y126.Initial.Color.Alpha, .slice (yg124 2 0).a y126.Words.length (yg124 2 0).c, .slice (yg124 2 1).a y126.Kinds.length (yg124 2 1).c, .bool y126.Least]⟩, [Ent.own 9 tS y126.Words (yg124 2 0), Ent.own 5 (tI .u8) y126.Kinds (yg124 2 1), Ent.im (tI .u8) ([] : List Int) (.nil)])) hi rfl), (fun _ _ _ _ => ⟨rfl, rfl⟩), (fun _ i g hi => lcG [4] (fun yg124 => (.slice (yg124 4 0).a 1 (yg124 4 0).c, [Ent.own 5 (tI .u8) ([5] : List Int) (yg124 4 0)])) hi rfl), (fun _ i g hi => lcG [4, 5] (fun yg124 => (.agg ⟨[.string ⟨⟨y134.Name⟩⟩, .bool y134.Inherited, .int .u8 y134.Initial.Kind, .string ⟨⟨y134.Initial.Word⟩⟩, .int .i64 y134.Initial.Num, .int .u8 y134.Initial.Color.Red, .int .u8 y134.Initial.Color.Green, .int .u8 y134.Initial.Color.Blue, .int .u8 y134.Initial.Color.Alpha, .slice (yg124 5 0).a y134.Words.length (yg124 5 0).c, .slice (yg124 5 1).a y134.Kinds.length (yg124 5 1).c, .bool y134.Least]⟩, [Ent.own 9 tS y134.Words (yg124 5 0), Ent.own 5 (tI .u8) y134.Kinds (yg124 5 1), Ent.im (tI .u8) ([5] : List Int) (yg124 4 0)])) hi rfl), (fun _ i g hi => lcG [6] (fun yg124 => (.agg ⟨[.string ⟨⟨y139.Name⟩⟩, .bool y139.Inherited, .int .u8 y139.Initial.Kind, .string ⟨⟨y139.Initial.Word⟩⟩, .int .i64 y139.Initial.Num, .int .u8 y139.Initial.Color.Red, .int .u8 y139.Initial.Color.Green, .int .u8 y139.Initial.Color.Blue, .int .u8 y139.Initial.Color.Alpha, .slice (yg124 6 0).a y139.Words.length (yg124 6 0).c, .slice (yg124 6 1).a y139.Kinds.length (yg124 6 1).c, .bool y139.Least]⟩, [Ent.own 9 tS y139.Words (yg124 6 0), Ent.own 5 (tI .u8) y139.Kinds (yg124 6 1)])) hi rfl), (fun _ _ _ _ => ⟨rfl, rfl⟩), (fun _ i g hi => lcG [8] (fun yg124 => (.slice (yg124 8 0).a 1 (yg124 8 0).c, [Ent.own 5 (tI .u8) ([5] : List Int) (yg124 8 0)])) hi rfl), (fun _ i g hi => lcG [8] (fun yg124 => (.agg ⟨[.string ⟨⟨[111, 112, 97, 99, 105, 116, 121]⟩⟩, .bool false, .int .u8 5, .string ⟨⟨[]⟩⟩, .int .i64 1000, .int .u8 0, .int .u8 0, .int .u8 0, .int .u8 0, .slice none 0 0, .slice (yg124 8 0).a 1 (yg124 8 0).c, .bool false]⟩, [])) hi rfl), (fun _ _ _ _ => ⟨rfl, rfl⟩), (fun _ i g hi => lcG [11] (fun yg124 => (.slice (yg124 11 0).a 1 (yg124 11 0).c, [Ent.own 9 tS ([[97, 117, 116, 111]] : List Str) (yg124 11 0)])) hi rfl), (fun _ i g hi => lcG [12] (fun yg124 => (.slice (yg124 12 0).a 1 (yg124 12 0).c, [Ent.own 5 (tI .u8) ([6] : List Int) (yg124 12 0)])) hi rfl), (fun _ i g hi => lcG [11, 12] (fun yg124 => (.agg ⟨[.string ⟨⟨[122, 45, 105, 110, 100, 101, 120]⟩⟩, .bool false, .int .u8 y3.Kind, .string ⟨⟨y3.Word⟩⟩, .int .i64 y3.Num, .int .u8 y3.Color.Red, .int .u8 y3.Color.Green, .int .u8 y3.Color.Blue, .int .u8 y3.Color.Alpha, .slice (yg124 11 0).a 1 (yg124 11 0).c, .slice (yg124 12 0).a 1 (yg124 12 0).c, .bool false]⟩, [])) hi rfl), (fun _ _ _ _ => ⟨rfl, rfl⟩), (fun _ i g hi => lcG [15] (fun yg124 => (.slice (yg124 15 0).a 1 (yg124 15 0).c, [Ent.own 5 (tI .u8) ([6] : List Int) (yg124 15 0)])) hi rfl), (fun _ i g hi => lcG [15] (fun yg124 => (.agg ⟨[.string ⟨⟨[111, 114, 100, 101, 114]⟩⟩, .bool false, .int .u8 6, .string ⟨⟨[]⟩⟩, .int .i64 0, .int .u8 0, .int .u8 0, .int .u8 0, .int .u8 0, .slice none 0 0, .slice (yg124 15 0).a 1 (yg124 15 0).c, .bool false]⟩, [])) hi rfl), (fun _ i g hi => lcG [2, 4, 5, 6, 8, 11, 12, 15, 17] (fun yg124 => (.slice (yg124 17 0).a 6 (yg124 17 0).c, [Ent.own 51 tyProp ([y126, y134, y139, (TProp.mk [111, 112, 97, 99, 105, 116, 121] false (TVal.mk 5 [] 1000 (TColor.mk 0 0 0 0)) [] ([5] : List Int) false), (TProp.mk [122, 45, 105, 110, 100, 101, 120] false y3 ([[97, 117, 116, 111]] : List Str) ([6] : List Int) false), (TProp.mk [111, 114, 100, 101, 114] false (TVal.mk 6 [] 0 (TColor.mk 0 0 0 0)) [] ([6] : List Int) false)] : List TProp) (yg124 17 0), Ent.im (tI .u8) ([6] : List Int) (yg124 15 0), Ent.im (tI .u8) ([6] : List Int) (yg124 12 0), Ent.im tS ([[97, 117, 116, 111]] : List Str) (yg124 11 0), Ent.im (tI .u8) ([5] : List Int) (yg124 8 0), Ent.im (tI .u8) y139.Kinds (yg124 6 1), Ent.im tS y139.Words (yg124 6 0), Ent.im (tI .u8) y134.Kinds (yg124 5 1), Ent.im tS y134.Words (yg124 5 0), Ent.im (tI .u8) y126.Kinds (yg124 2 1), Ent.im tS y126.Words (yg124 2 0), Ent.im (tI .u8) ([] : List Int) (.nil), Ent.im (tI .u8) ([5] : List Int) (yg124 4 0)])) hi rfl), (fun _ i g hi => lcG [18] (fun yg124 => (.slice (yg124 18 0).a q155.length (yg124 18 0).c, [Ent.own 51 tyProp q155 (yg124 18 0)])) hi rfl), (fun _ i g hi => lcG [18] (fun yg124 => (.slice (yg124 18 0).a q155.length (yg124 18 0).c, [])) hi rfl), trivial⟩
  case hstep_yg124 =>
   refine ⟨?_, ?_, ?_, ?_, ?_, ?_, ?_, ?_, ?_, ?_, ?_, ?_, ?_, ?_, ?_, ?_, ?_, ?_, ?_, ?_, trivial⟩
   ·intro o ho a w yg124 M Hb hv hO hS
    obtain rfl := Option.some.inj ho
    exact Stp.mono (o_evs [] (.slice g123.a z81.length g123.c) none [] Hb rfl (by kernel_rfl) (fun q e => by cases e)) fun _ _ hq => ⟨gL [], fun _ _ => hq.1, (hS.below hq.2.below).sel [] rfl⟩
   ·intro o ho a w yg124 M Hb hv hO hS
    obtain rfl := Option.some.inj ho
    exact Stp.mono (o_evs [] (.agg ⟨[.int .u8 2, .string ⟨⟨[]⟩⟩, .int .i64 16000, .int .u8 0, .int .u8 0, .int .u8 0, .int .u8 0]⟩) none [] Hb rfl (by kernel_rfl) (fun q e => by cases e)) fun _ _ hq => ⟨gL [], fun _ _ => hq.1, (hS.below hq.2.below).sel [] rfl⟩
   ·intro o ho a w yg124 M Hb hv hO hS0
    obtain rfl := Option.some.inj ho
    have H : Fr 57 ([(39, [], .agg ⟨[.int .u8 2, .string ⟨⟨[]⟩⟩, .int .i64 16000, .int .u8 0, .int .u8 0, .int .u8 0, .int .u8 0]⟩)] ++ [(1, [], .pointer (some ⟨b6, 0, none⟩)), (3, [], .slice g123.a z81.length g123.c)]) _ := (Hb).add (hv 1 (by decide) (by decide) 39 rfl)
    obtain ⟨X, hX⟩ : ∃ X, X = fpl [gE0] := ⟨_, rfl⟩
    have hS : SH M X w [gE0] w := by rw [hX]; exact hS0
    replace hS : SH M X w [Ent.own 5 (tI .u8) ([] : List Int) (.nil), gE0] _ := hS.addNil 5 (tI .u8)
    replace hS : SH M X w [Ent.im (tI .u8) ([] : List Int) (.nil), gE0] _ := SH.frz1 (hS.sel [0, 1] rfl)
    have hd := hS.hand [0, 1] [0, 1] rfl rfl
    refine Stp.mono (o_callx H rfl rfl (props_length_ok (g_more := Gh.nil) m _ _ _ _ _ _ _ hy126 _ _ hd)) ?_
    rintro v w2 hq
    obtain ⟨g127, g129, rfl, hq⟩ := hq
    replace hS : SH M X w [Ent.own 9 tS y126.Words g127, Ent.own 5 (tI .u8) y126.Kinds g129, Ent.im (tI .u8) ([] : List Int) (.nil), gE0] _ := hS.join [0, 1] [0, 1] rfl rfl hq
    clear hq
    rw [hX] at hS
    exact ⟨gL [g127, g129], fun _ _ => rfl, hS.sel [0, 1, 2, 3] rfl⟩
   ·intro o ho a w yg124 M Hb hv hO hS
    obtain rfl := Option.some.inj ho
    exact Stp.mono (o_evs [(.agg ⟨[.int .u8 y131.Kind, .string ⟨⟨y131.Word⟩⟩, .int .i64 y131.Num, .int .u8 y131.Color.Red, .int .u8 y131.Color.Green, .int .u8 y131.Color.Blue, .int .u8 y131.Color.Alpha]⟩)] (.agg ⟨[.int .u8 y131.Kind, .string ⟨⟨y131.Word⟩⟩, .int .i64 y131.Num, .int .u8 y131.Color.Red, .int .u8 y131.Color.Green, .int .u8 y131.Color.Blue, .int .u8 y131.Color.Alpha]⟩) (some (fun wz => RetB Tryd.prog 31 ⟨[.string ⟨⟨[110, 111, 114, 109, 97, 108]⟩⟩]⟩ (.agg ⟨[.int .u8 y131.Kind, .string ⟨⟨y131.Word⟩⟩, .int .i64 y131.Num, .int .u8 y131.Color.Red, .int .u8 y131.Color.Green, .int .u8 y131.Color.Blue, .int .u8 y131.Color.Alpha]⟩) wz)) [] Hb rfl (by subst hy131; kernel_rfl) (fun q e => by cases e; exact ((by rw [hy131]; exact (props_word_ok _).b)))) fun _ _ hq => ⟨gL [], fun _ _ => hq.1, (hS.below hq.2.below).sel [] rfl⟩
   ·intro o ho a w yg124 M Hb hv hO hS0
    obtain rfl := Option.some.inj ho
    have H : Fr 57 ([] ++ [(1, [], .pointer (some ⟨b6, 0, none⟩)), (3, [], .slice g123.a z81.length g123.c)]) _ := Hb
    obtain ⟨X, hX⟩ : ∃ X, X = fpl [] := ⟨_, rfl⟩
    have hS : SH M X w [] w := by rw [hX]; exact hS0
    have hd := hS.hand [] [] rfl rfl
    refine Stp.mono (o_lit (T := (tI .u8)) (E := 5) (zv := .int .u8 0) [.int .u8 5] ([5] : List Int) [gL []] _ H hd rfl (by kernel_rfl) (by kernel_rfl) (by kernel_rfl) (by kernel_rfl) (by kernel_rfl) (by kernel_rfl) (by kernel_rfl) rfl (InnL.cons trivial InnL.nil)) ?_
    rintro v w2 hq
    obtain ⟨g132, rfl, hq⟩ := hq
    replace hS : SH M X w [Ent.own 5 (tI .u8) ([5] : List Int) g132] _ := hS.join [] [] rfl rfl hq
    clear hq
    rw [hX] at hS
    exact ⟨gL [g132], fun _ _ => rfl, hS.sel [0] rfl⟩
   ·intro o ho a w yg124 M Hb hv hO hS0
    obtain rfl := Option.some.inj ho
    have H : Fr 57 ([(42, [], .slice (yg124 4 0).a 1 (yg124 4 0).c), (41, [], .agg ⟨[.int .u8 y131.Kind, .string ⟨⟨y131.Word⟩⟩, .int .i64 y131.Num, .int .u8 y131.Color.Red, .int .u8 y131.Color.Green, .int .u8 y131.Color.Blue, .int .u8 y131.Color.Alpha]⟩)] ++ [(1, [], .pointer (some ⟨b6, 0, none⟩)), (3, [], .slice g123.a z81.length g123.c)]) _ := ((Hb).add (hv 3 (by decide) (by decide) 41 rfl)).add (hv 4 (by decide) (by decide) 42 rfl)
    obtain ⟨X, hX⟩ : ∃ X, X = fpl [Ent.own 5 (tI .u8) ([5] : List Int) (yg124 4 0), gE0] := ⟨_, rfl⟩
    have hS : SH M X w [Ent.own 5 (tI .u8) ([5] : List Int) (yg124 4 0), gE0] w := by rw [hX]; exact hS0
    replace hS : SH M X w [Ent.im (tI .u8) ([5] : List Int) (yg124 4 0), gE0] _ := SH.frz1 (hS.sel [0, 1] rfl)
    have hd := hS.hand [0, 1] [0, 1] rfl rfl
    refine Stp.mono (o_callx H rfl rfl (props_length_ok (g_more := (yg124 4 0)) m _ _ _ _ _ _ _ hy134 _ _ hd)) ?_
    rintro v w2 hq
    obtain ⟨g135, g137, rfl, hq⟩ := hq
    replace hS : SH M X w [Ent.own 9 tS y134.Words g135, Ent.own 5 (tI .u8) y134.Kinds g137, Ent.im (tI .u8) ([5] : List Int) (yg124 4 0), gE0] _ := hS.join [0, 1] [0, 1] rfl rfl hq
    clear hq
    rw [hX] at hS
    exact ⟨gL [g135, g137], fun _ _ => rfl, hS.sel [0, 1, 2, 3] rfl⟩
   ·intro o ho a w yg124 M Hb hv hO hS0
    obtain rfl := Option.some.inj ho
    have H : Fr 57 ([] ++ [(1, [], .pointer (some ⟨b6, 0, none⟩)), (3, [], .slice g123.a z81.length g123.c)]) _ := Hb
    obtain ⟨X, hX⟩ : ∃ X, X = fpl [gE0] := ⟨_, rfl⟩
    have hS : SH M X w [gE0] w := by rw [hX]; exact hS0
    have hd := hS.hand [0] [0] rfl rfl
    refine Stp.mono (o_callx H rfl rfl (props_words_ok m _ _ _ _ _ hy139 _ _ hd)) ?_
    rintro v w2 hq
    obtain ⟨g140, g142, rfl, hq⟩ := hq
    replace hS : SH M X w [Ent.own 9 tS y139.Words g140, Ent.own 5 (tI .u8) y139.Kinds g142, gE0] _ := hS.join [0] [0] rfl rfl hq
    clear hq
    rw [hX] at hS
    exact ⟨gL [g140, g142], fun _ _ => rfl, hS.sel [0, 1, 2] rfl⟩
   ·intro o ho a w yg124 M Hb hv hO hS
    obtain rfl := Option.some.inj ho
    exact Stp.mono (o_evs [] (.agg ⟨[.int .u8 5, .string ⟨⟨[]⟩⟩, .int .i64 1000, .int .u8 0, .int .u8 0, .int .u8 0, .int .u8 0]⟩) none [] Hb rfl (by kernel_rfl) (fun q e => by cases e)) fun _ _ hq => ⟨gL [], fun _ _ => hq.1, (hS.below hq.2.below).sel [] rfl⟩
   ·intro o ho a w yg124 M Hb hv hO hS0
    obtain rfl := Option.some.inj ho
    have H : Fr 57 ([] ++ [(1, [], .pointer (some ⟨b6, 0, none⟩)), (3, [], .slice g123.a z81.length g123.c)]) _ := Hb
    obtain ⟨X, hX⟩ : ∃ X, X = fpl [] := ⟨_, rfl⟩
    have hS : SH M X w [] w := by rw [hX]; exact hS0
    have hd := hS.hand [] [] rfl rfl
    refine Stp.mono (o_lit (T := (tI .u8)) (E := 5) (zv := .int .u8 0) [.int .u8 5] ([5] : List Int) [gL []] _ H hd rfl (by kernel_rfl) (by kernel_rfl) (by kernel_rfl) (by kernel_rfl) (by kernel_rfl) (by kernel_rfl) (by kernel_rfl) rfl (InnL.cons trivial InnL.nil)) ?_
    rintro v w2 hq
    obtain ⟨g144, rfl, hq⟩ := hq
    replace hS : SH M X w [Ent.own 5 (tI .u8) ([5] : List Int) g144] _ := hS.join [] [] rfl rfl hq
    clear hq
    rw [hX] at hS
    exact ⟨gL [g144], fun _ _ => rfl, hS.sel [0] rfl⟩
   ·intro o ho a w yg124 M Hb hv hO hS
    obtain rfl := Option.some.inj ho
    exact Stp.mono (o_evs [] (.agg ⟨[.string ⟨⟨[111, 112, 97, 99, 105, 116, 121]⟩⟩, .bool false, .int .u8 5, .string ⟨⟨[]⟩⟩, .int .i64 1000, .int .u8 0, .int .u8 0, .int .u8 0, .int .u8 0, .slice none 0 0, .slice (yg124 8 0).a 1 (yg124 8 0).c, .bool false]⟩) none [] (((Hb).add (hv 7 (by decide) (by decide) 45 rfl)).add (hv 8 (by decide) (by decide) 46 rfl)) rfl (by kernel_rfl) (fun q e => by cases e)) fun _ _ hq => ⟨gL [], fun _ _ => hq.1, (hS.below hq.2.below).sel [0] rfl⟩
   ·intro o ho a w yg124 M Hb hv hO hS
    obtain rfl := Option.some.inj ho
    exact Stp.mono (o_evs [(.agg ⟨[.int .u8 y3.Kind, .string ⟨⟨y3.Word⟩⟩, .int .i64 y3.Num, .int .u8 y3.Color.Red, .int .u8 y3.Color.Green, .int .u8 y3.Color.Blue, .int .u8 y3.Color.Alpha]⟩)] (.agg ⟨[.int .u8 y3.Kind, .string ⟨⟨y3.Word⟩⟩, .int .i64 y3.Num, .int .u8 y3.Color.Red, .int .u8 y3.Color.Green, .int .u8 y3.Color.Blue, .int .u8 y3.Color.Alpha]⟩) (some (fun wz => V.atN b6 0 [.int .u8 y3.Kind, .string ⟨⟨y3.Word⟩⟩, .int .i64 y3.Num, .int .u8 y3.Color.Red, .int .u8 y3.Color.Green, .int .u8 y3.Color.Blue, .int .u8 y3.Color.Alpha] 0 wz)) [] Hb rfl (by kernel_rfl) (fun q e => by cases e; exact ((hS.bk 0 rfl).atD rfl))) fun _ _ hq => ⟨gL [], fun _ _ => hq.1, (hS.below hq.2.below).sel [0] rfl⟩
   ·intro o ho a w yg124 M Hb hv hO hS0
    obtain rfl := Option.some.inj ho
    have H : Fr 57 ([] ++ [(1, [], .pointer (some ⟨b6, 0, none⟩)), (3, [], .slice g123.a z81.length g123.c)]) _ := Hb
    obtain ⟨X, hX⟩ : ∃ X, X = fpl [] := ⟨_, rfl⟩
    have hS : SH M X w [] w := by rw [hX]; exact hS0
    have hd := hS.hand [] [] rfl rfl
    refine Stp.mono (o_lit (T := tS) (E := 9) (zv := .string ⟨⟨[]⟩⟩) [.string ⟨⟨[97, 117, 116, 111]⟩⟩] ([[97, 117, 116, 111]] : List Str) [gL []] _ H hd rfl (by kernel_rfl) (by kernel_rfl) (by kernel_rfl) (by kernel_rfl) (by kernel_rfl) (by kernel_rfl) (by kernel_rfl) rfl (InnL.cons trivial InnL.nil)) ?_
    rintro v w2 hq
    obtain ⟨g146, rfl, hq⟩ := hq
    replace hS : SH M X w [Ent.own 9 tS ([[97, 117, 116, 111]] : List Str) g146] _ := hS.join [] [] rfl rfl hq
    clear hq
    rw [hX] at hS
    exact ⟨gL [g146], fun _ _ => rfl, hS.sel [0] rfl⟩
   ·intro o ho a w yg124 M Hb hv hO hS0
    obtain rfl := Option.some.inj ho
    have H : Fr 57 ([] ++ [(1, [], .pointer (some ⟨b6, 0, none⟩)), (3, [], .slice g123.a z81.length g123.c)]) _ := Hb
    obtain ⟨X, hX⟩ : ∃ X, X = fpl [] := ⟨_, rfl⟩
    have hS : SH M X w [] w := by rw [hX]; exact hS0
    have hd := hS.hand [] [] rfl rfl
    refine Stp.mono (o_lit (T := (tI .u8)) (E := 5) (zv := .int .u8 0) [.int .u8 6] ([6] : List Int) [gL []] _ H hd rfl (by kernel_rfl) (by kernel_rfl) (by kernel_rfl) (by kernel_rfl) (by kernel_rfl) (by kernel_rfl) (by kernel_rfl) rfl (InnL.cons trivial InnL.nil)) ?_
    rintro v w2 hq
    obtain ⟨g148, rfl, hq⟩ := hq
    replace hS : SH M X w [Ent.own 5 (tI .u8) ([6] : List Int) g148] _ := hS.join [] [] rfl rfl hq
    clear hq
    rw [hX] at hS
    exact ⟨gL [g148], fun _ _ => rfl, hS.sel [0] rfl⟩
   ·intro o ho a w yg124 M Hb hv hO hS
    obtain rfl := Option.some.inj ho
    exact Stp.mono (o_evs [] (.agg ⟨[.string ⟨⟨[122, 45, 105, 110, 100, 101, 120]⟩⟩, .bool false, .int .u8 y3.Kind, .string ⟨⟨y3.Word⟩⟩, .int .i64 y3.Num, .int .u8 y3.Color.Red, .int .u8 y3.Color.Green, .int .u8 y3.Color.Blue, .int .u8 y3.Color.Alpha, .slice (yg124 11 0).a 1 (yg124 11 0).c, .slice (yg124 12 0).a 1 (yg124 12 0).c, .bool false]⟩) none [] ((((Hb).add (hv 10 (by decide) (by decide) 48 rfl)).add (hv 11 (by decide) (by decide) 49 rfl)).add (hv 12 (by decide) (by decide) 50 rfl)) rfl (by kernel_rfl) (fun q e => by cases e)) fun _ _ hq => ⟨gL [], fun _ _ => hq.1, (hS.below hq.2.below).sel [0, 1] rfl⟩
   ·intro o ho a w yg124 M Hb hv hO hS
    obtain rfl := Option.some.inj ho
    exact Stp.mono (o_evs [] (.agg ⟨[.int .u8 6, .string ⟨⟨[]⟩⟩, .int .i64 0, .int .u8 0, .int .u8 0, .int .u8 0, .int .u8 0]⟩) none [] Hb rfl (by kernel_rfl) (fun q e => by cases e)) fun _ _ hq => ⟨gL [], fun _ _ => hq.1, (hS.below hq.2.below).sel [] rfl⟩
   ·intro o ho a w yg124 M Hb hv hO hS0
    obtain rfl := Option.some.inj ho
    have H : Fr 57 ([] ++ [(1, [], .pointer (some ⟨b6, 0, none⟩)), (3, [], .slice g123.a z81.length g123.c)]) _ := Hb
    obtain ⟨X, hX⟩ : ∃ X, X = fpl [] := ⟨_, rfl⟩
    have hS : SH M X w [] w := by rw [hX]; exact hS0
    have hd := hS.hand [] [] rfl rfl
    refine Stp.mono (o_lit (T := (tI .u8)) (E := 5) (zv := .int .u8 0) [.int .u8 6] ([6] : List Int) [gL []] _ H hd rfl (by kernel_rfl) (by kernel_rfl) (by kernel_rfl) (by kernel_rfl) (by kernel_rfl) (by kernel_rfl) (by kernel_rfl) rfl (InnL.cons trivial InnL.nil)) ?_
    rintro v w2 hq
    obtain ⟨g150, rfl, hq⟩ := hq
    replace hS : SH M X w [Ent.own 5 (tI .u8) ([6] : List Int) g150] _ := hS.join [] [] rfl rfl hq
    clear hq
    rw [hX] at hS
    exact ⟨gL [g150], fun _ _ => rfl, hS.sel [0] rfl⟩
   ·intro o ho a w yg124 M Hb hv hO hS
    obtain rfl := Option.some.inj ho
    exact Stp.mono (o_evs [] (.agg ⟨[.string ⟨⟨[111, 114, 100, 101, 114]⟩⟩, .bool false, .int .u8 6, .string ⟨⟨[]⟩⟩, .int .i64 0, .int .u8 0, .int .u8 0, .int .u8 0, .int .u8 0, .slice none 0 0, .slice (yg124 15 0).a 1 (yg124 15 0).c, .bool false]⟩) none [] (((Hb).add (hv 14 (by decide) (by decide) 52 rfl)).add (hv 15 (by decide) (by decide) 53 rfl)) rfl (by kernel_rfl) (fun q e => by cases e)) fun _ _ hq => ⟨gL [], fun _ _ => hq.1, (hS.below hq.2.below).sel [0] rfl⟩
   ·intro o ho a w yg124 M Hb hv hO hS0
    obtain rfl := Option.some.inj ho
    have H : Fr 57 ([(54, [], .agg ⟨[.string ⟨⟨[111, 114, 100, 101, 114]⟩⟩, .bool false, .int .u8 6, .string ⟨⟨[]⟩⟩, .int .i64 0, .int .u8 0, .int .u8 0, .int .u8 0, .int .u8 0, .slice none 0 0, .slice (yg124 15 0).a 1 (yg124 15 0).c, .bool false]⟩), (51, [], .agg ⟨[.string ⟨⟨[122, 45, 105, 110, 100, 101, 120]⟩⟩, .bool false, .int .u8 y3.Kind, .string ⟨⟨y3.Word⟩⟩, .int .i64 y3.Num, .int .u8 y3.Color.Red, .int .u8 y3.Color.Green, .int .u8 y3.Color.Blue, .int .u8 y3.Color.Alpha, .slice (yg124 11 0).a 1 (yg124 11 0).c, .slice (yg124 12 0).a 1 (yg124 12 0).c, .bool false]⟩), (47, [], .agg ⟨[.string ⟨⟨[111, 112, 97, 99, 105, 116, 121]⟩⟩, .bool false, .int .u8 5, .string ⟨⟨[]⟩⟩, .int .i64 1000, .int .u8 0, .int .u8 0, .int .u8 0, .int .u8 0, .slice none 0 0, .slice (yg124 8 0).a 1 (yg124 8 0).c, .bool false]⟩), (44, [], .agg ⟨[.string ⟨⟨y139.Name⟩⟩, .bool y139.Inherited, .int .u8 y139.Initial.Kind, .string ⟨⟨y139.Initial.Word⟩⟩, .int .i64 y139.Initial.Num, .int .u8 y139.Initial.Color.Red, .int .u8 y139.Initial.Color.Green, .int .u8 y139.Initial.Color.Blue, .int .u8 y139.Initial.Color.Alpha, .slice (yg124 6 0).a y139.Words.length (yg124 6 0).c, .slice (yg124 6 1).a y139.Kinds.length (yg124 6 1).c, .bool y139.Least]⟩), (43, [], .agg ⟨[.string ⟨⟨y134.Name⟩⟩, .bool y134.Inherited, .int .u8 y134.Initial.Kind, .string ⟨⟨y134.Initial.Word⟩⟩, .int .i64 y134.Initial.Num, .int .u8 y134.Initial.Color.Red, .int .u8 y134.Initial.Color.Green, .int .u8 y134.Initial.Color.Blue, .int .u8 y134.Initial.Color.Alpha, .slice (yg124 5 0).a y134.Words.length (yg124 5 0).c, .slice (yg124 5 1).a y134.Kinds.length (yg124 5 1).c, .bool y134.Least]⟩), (40, [], .agg ⟨[.string ⟨⟨y126.Name⟩⟩, .bool y126.Inherited, .int .u8 y126.Initial.Kind, .string ⟨⟨y126.Initial.Word⟩⟩, .int .i64 y126.Initial.Num, .int .u8 y126.Initial.Color.Red, .int .u8 y126.Initial.Color.Green, .int .u8 y126.Initial.Color.Blue, .int .u8 y126.Initial.Color.Alpha, .slice (yg124 2 0).a y126.Words.length (yg124 2 0).c, .slice (yg124 2 1).a y126.Kinds.length (yg124 2 1).c, .bool y126.Least]⟩)] ++ [(1, [], .pointer (some ⟨b6, 0, none⟩)), (3, [], .slice g123.a z81.length g123.c)]) _ := ((((((Hb).add (hv 2 (by decide) (by decide) 40 rfl)).add (hv 5 (by decide) (by decide) 43 rfl)).add (hv 6 (by decide) (by decide) 44 rfl)).add (hv 9 (by decide) (by decide) 47 rfl)).add (hv 13 (by decide) (by decide) 51 rfl)).add (hv 16 (by decide) (by decide) 54 rfl)
    obtain ⟨X, hX⟩ : ∃ X, X = fpl [Ent.own 9 tS y126.Words (yg124 2 0), Ent.own 5 (tI .u8) y126.Kinds (yg124 2 1), Ent.im (tI .u8) ([] : List Int) (.nil), Ent.own 9 tS y134.Words (yg124 5 0), Ent.own 5 (tI .u8) y134.Kinds (yg124 5 1), Ent.im (tI .u8) ([5] : List Int) (yg124 4 0), Ent.own 9 tS y139.Words (yg124 6 0), Ent.own 5 (tI .u8) y139.Kinds (yg124 6 1), Ent.own 5 (tI .u8) ([5] : List Int) (yg124 8 0), Ent.own 9 tS ([[97, 117, 116, 111]] : List Str) (yg124 11 0), Ent.own 5 (tI .u8) ([6] : List Int) (yg124 12 0), Ent.own 5 (tI .u8) ([6] : List Int) (yg124 15 0)] := ⟨_, rfl⟩
    have hS : SH M X w [Ent.own 9 tS y126.Words (yg124 2 0), Ent.own 5 (tI .u8) y126.Kinds (yg124 2 1), Ent.im (tI .u8) ([] : List Int) (.nil), Ent.own 9 tS y134.Words (yg124 5 0), Ent.own 5 (tI .u8) y134.Kinds (yg124 5 1), Ent.im (tI .u8) ([5] : List Int) (yg124 4 0), Ent.own 9 tS y139.Words (yg124 6 0), Ent.own 5 (tI .u8) y139.Kinds (yg124 6 1), Ent.own 5 (tI .u8) ([5] : List Int) (yg124 8 0), Ent.own 9 tS ([[97, 117, 116, 111]] : List Str) (yg124 11 0), Ent.own 5 (tI .u8) ([6] : List Int) (yg124 12 0), Ent.own 5 (tI .u8) ([6] : List Int) (yg124 15 0)] w := by rw [hX]; exact hS0
    replace hS : SH M X w [Ent.im tS y126.Words (yg124 2 0), Ent.own 5 (tI .u8) y126.Kinds (yg124 2 1), Ent.im (tI .u8) ([] : List Int) (.nil), Ent.own 9 tS y134.Words (yg124 5 0), Ent.own 5 (tI .u8) y134.Kinds (yg124 5 1), Ent.im (tI .u8) ([5] : List Int) (yg124 4 0), Ent.own 9 tS y139.Words (yg124 6 0), Ent.own 5 (tI .u8) y139.Kinds (yg124 6 1), Ent.own 5 (tI .u8) ([5] : List Int) (yg124 8 0), Ent.own 9 tS ([[97, 117, 116, 111]] : List Str) (yg124 11 0), Ent.own 5 (tI .u8) ([6] : List Int) (yg124 12 0), Ent.own 5 (tI .u8) ([6] : List Int) (yg124 15 0)] _ := SH.frz1 (hS.sel [0, 1, 2, 3, 4, 5, 6, 7, 8, 9, 10, 11] rfl)
    replace hS : SH M X w [Ent.im (tI .u8) y126.Kinds (yg124 2 1), Ent.im tS y126.Words (yg124 2 0), Ent.im (tI .u8) ([] : List Int) (.nil), Ent.own 9 tS y134.Words (yg124 5 0), Ent.own 5 (tI .u8) y134.Kinds (yg124 5 1), Ent.im (tI .u8) ([5] : List Int) (yg124 4 0), Ent.own 9 tS y139.Words (yg124 6 0), Ent.own 5 (tI .u8) y139.Kinds (yg124 6 1), Ent.own 5 (tI .u8) ([5] : List Int) (yg124 8 0), Ent.own 9 tS ([[97, 117, 116, 111]] : List Str) (yg124 11 0), Ent.own 5 (tI .u8) ([6] : List Int) (yg124 12 0), Ent.own 5 (tI .u8) ([6] : List Int) (yg124 15 0)] _ := SH.frz1 (hS.sel [1, 0, 2, 3, 4, 5, 6, 7, 8, 9, 10, 11] rfl)
    replace hS : SH M X w [Ent.im tS y134.Words (yg124 5 0), Ent.im (tI .u8) y126.Kinds (yg124 2 1), Ent.im tS y126.Words (yg124 2 0), Ent.im (tI .u8) ([] : List Int) (.nil), Ent.own 5 (tI .u8) y134.Kinds (yg124 5 1), Ent.im (tI .u8) ([5] : List Int) (yg124 4 0), Ent.own 9 tS y139.Words (yg124 6 0), Ent.own 5 (tI .u8) y139.Kinds (yg124 6 1), Ent.own 5 (tI .u8) ([5] : List Int) (yg124 8 0), Ent.own 9 tS ([[97, 117, 116, 111]] : List Str) (yg124 11 0), Ent.own 5 (tI .u8) ([6] : List Int) (yg124 12 0), Ent.own 5 (tI .u8) ([6] : List Int) (yg124 15 0)] _ := SH.frz1 (hS.sel [3, 0, 1, 2, 4, 5, 6, 7, 8, 9, 10, 11] rfl)
    replace hS : SH M X w [Ent.im (tI .u8) y134.Kinds (yg124 5 1), Ent.im tS y134.Words (yg124 5 0), Ent.im (tI .u8) y126.Kinds (yg124 2 1), Ent.im tS y126.Words (yg124 2 0), Ent.im (tI .u8) ([] : List Int) (.nil), Ent.im (tI .u8) ([5] : List Int) (yg124 4 0), Ent.own 9 tS y139.Words (yg124 6 0), Ent.own 5 (tI .u8) y139.Kinds (yg124 6 1), Ent.own 5 (tI .u8) ([5] : List Int) (yg124 8 0), Ent.own 9 tS ([[97, 117, 116, 111]] : List Str) (yg124 11 0), Ent.own 5 (tI .u8) ([6] : List Int) (yg124 12 0), Ent.own 5 (tI .u8) ([6] : List Int) (yg124 15 0)] _ := SH.frz1 (hS.sel [4, 0, 1, 2, 3, 5, 6, 7, 8, 9, 10, 11] rfl)
    replace hS : SH M X w [Ent.im tS y139.Words (yg124 6 0), Ent.im (tI .u8) y134.Kinds (yg124 5 1), Ent.im tS y134.Words (yg124 5 0), Ent.im (tI .u8) y126.Kinds (yg124 2 1), Ent.im tS y126.Words (yg124 2 0), Ent.im (tI .u8) ([] : List Int) (.nil), Ent.im (tI .u8) ([5] : List Int) (yg124 4 0), Ent.own 5 (tI .u8) y139.Kinds (yg124 6 1), Ent.own 5 (tI .u8) ([5] : List Int) (yg124 8 0), Ent.own 9 tS ([[97, 117, 116, 111]] : List Str) (yg124 11 0), Ent.own 5 (tI .u8) ([6] : List Int) (yg124 12 0), Ent.own 5 (tI .u8) ([6] : List Int) (yg124 15 0)] _ := SH.frz1 (hS.sel [6, 0, 1, 2, 3, 4, 5, 7, 8, 9, 10, 11] rfl)
    replace hS : SH M X w [Ent.im (tI .u8) y139.Kinds (yg124 6 1), Ent.im tS y139.Words (yg124 6 0), Ent.im (tI .u8) y134.Kinds (yg124 5 1), Ent.im tS y134.Words (yg124 5 0), Ent.im (tI .u8) y126.Kinds (yg124 2 1), Ent.im tS y126.Words (yg124 2 0), Ent.im (tI .u8) ([] : List Int) (.nil), Ent.im (tI .u8) ([5] : List Int) (yg124 4 0), Ent.own 5 (tI .u8) ([5] : List Int) (yg124 8 0), Ent.own 9 tS ([[97, 117, 116, 111]] : List Str) (yg124 11 0), Ent.own 5 (tI .u8) ([6] : List Int) (yg124 12 0), Ent.own 5 (tI .u8) ([6] : List Int) (yg124 15 0)] _ := SH.frz1 (hS.sel [7, 0, 1, 2, 3, 4, 5, 6, 8, 9, 10, 11] rfl)
    replace hS : SH M X w [Ent.im (tI .u8) ([5] : List Int) (yg124 8 0), Ent.im (tI .u8) y139.Kinds (yg124 6 1), Ent.im tS y139.Words (yg124 6 0), Ent.im (tI .u8) y134.Kinds (yg124 5 1), Ent.im tS y134.Words (yg124 5 0), Ent.im (tI .u8) y126.Kinds (yg124 2 1), Ent.im tS y126.Words (yg124 2 0), Ent.im (tI .u8) ([] : List Int) (.nil), Ent.im (tI .u8) ([5] : List Int) (yg124 4 0), Ent.own 9 tS ([[97, 117, 116, 111]] : List Str) (yg124 11 0), Ent.own 5 (tI .u8) ([6] : List Int) (yg124 12 0), Ent.own 5 (tI .u8) ([6] : List Int) (yg124 15 0)] _ := SH.frz1 (hS.sel [8, 0, 1, 2, 3, 4, 5, 6, 7, 9, 10, 11] rfl)
    replace hS : SH M X w [Ent.im tS ([[97, 117, 116, 111]] : List Str) (yg124 11 0), Ent.im (tI .u8) ([5] : List Int) (yg124 8 0), Ent.im (tI .u8) y139.Kinds (yg124 6 1), Ent.im tS y139.Words (yg124 6 0), Ent.im (tI .u8) y134.Kinds (yg124 5 1), Ent.im tS y134.Words (yg124 5 0), Ent.im (tI .u8) y126.Kinds (yg124 2 1), Ent.im tS y126.Words (yg124 2 0), Ent.im (tI .u8) ([] : List Int) (.nil), Ent.im (tI .u8) ([5] : List Int) (yg124 4 0), Ent.own 5 (tI .u8) ([6] : List Int) (yg124 12 0), Ent.own 5 (tI .u8) ([6] : List Int) (yg124 15 0)] _ := SH.frz1 (hS.sel [9, 0, 1, 2, 3, 4, 5, 6, 7, 8, 10, 11] rfl)
    replace hS : SH M X w [Ent.im (tI .u8) ([6] : List Int) (yg124 12 0), Ent.im tS ([[97, 117, 116, 111]] : List Str) (yg124 11 0), Ent.im (tI .u8) ([5] : List Int) (yg124 8 0), Ent.im (tI .u8) y139.Kinds (yg124 6 1), Ent.im tS y139.Words (yg124 6 0), Ent.im (tI .u8) y134.Kinds (yg124 5 1), Ent.im tS y134.Words (yg124 5 0), Ent.im (tI .u8) y126.Kinds (yg124 2 1), Ent.im tS y126.Words (yg124 2 0), Ent.im (tI .u8) ([] : List Int) (.nil), Ent.im (tI .u8) ([5] : List Int) (yg124 4 0), Ent.own 5 (tI .u8) ([6] : List Int) (yg124 15 0)] _ := SH.frz1 (hS.sel [10, 0, 1, 2, 3, 4, 5, 6, 7, 8, 9, 11] rfl)
    replace hS : SH M X w [Ent.im (tI .u8) ([6] : List Int) (yg124 15 0), Ent.im (tI .u8) ([6] : List Int) (yg124 12 0), Ent.im tS ([[97, 117, 116, 111]] : List Str) (yg124 11 0), Ent.im (tI .u8) ([5] : List Int) (yg124 8 0), Ent.im (tI .u8) y139.Kinds (yg124 6 1), Ent.im tS y139.Words (yg124 6 0), Ent.im (tI .u8) y134.Kinds (yg124 5 1), Ent.im tS y134.Words (yg124 5 0), Ent.im (tI .u8) y126.Kinds (yg124 2 1), Ent.im tS y126.Words (yg124 2 0), Ent.im (tI .u8) ([] : List Int) (.nil), Ent.im (tI .u8) ([5] : List Int) (yg124 4 0)] _ := SH.frz1 (hS.sel [11, 0, 1, 2, 3, 4, 5, 6, 7, 8, 9, 10] rfl)
    have hd := hS.hand [9, 8, 7, 6, 5, 4, 3, 2, 1, 0] [0, 1, 2, 3, 4, 5, 6, 7, 8, 9, 10, 11] rfl rfl
    refine Stp.mono (o_lit (T := tyProp) (E := 51) (zv := .agg ⟨[.string ⟨⟨[]⟩⟩, .bool false, .int .u8 0, .string ⟨⟨[]⟩⟩, .int .i64 0, .int .u8 0, .int .u8 0, .int .u8 0, .int .u8 0, .slice none 0 0, .slice none 0 0, .bool false]⟩) [.string ⟨⟨y126.Name⟩⟩, .bool y126.Inherited, .int .u8 y126.Initial.Kind, .string ⟨⟨y126.Initial.Word⟩⟩, .int .i64 y126.Initial.Num, .int .u8 y126.Initial.Color.Red, .int .u8 y126.Initial.Color.Green, .int .u8 y126.Initial.Color.Blue, .int .u8 y126.Initial.Color.Alpha, .slice (yg124 2 0).a y126.Words.length (yg124 2 0).c, .slice (yg124 2 1).a y126.Kinds.length (yg124 2 1).c, .bool y126.Least, .string ⟨⟨y134.Name⟩⟩, .bool y134.Inherited, .int .u8 y134.Initial.Kind, .string ⟨⟨y134.Initial.Word⟩⟩, .int .i64 y134.Initial.Num, .int .u8 y134.Initial.Color.Red, .int .u8 y134.Initial.Color.Green, .int .u8 y134.Initial.Color.Blue, .int .u8 y134.Initial.Color.Alpha, .slice (yg124 5 0).a y134.Words.length (yg124 5 0).c, .slice (yg124 5 1).a y134.Kinds.length (yg124 5 1).c, .bool y134.Least, .string ⟨⟨y139.Name⟩⟩, .bool y139.Inherited, .int .u8 y139.Initial.Kind, .string ⟨⟨y139.Initial.Word⟩⟩, .int .i64 y139.Initial.Num, .int .u8 y139.Initial.Color.Red, .int .u8 y139.Initial.Color.Green, .int .u8 y139.Initial.Color.Blue, .int .u8 y139.Initial.Color.Alpha, .slice (yg124 6 0).a y139.Words.length (yg124 6 0).c, .slice (yg124 6 1).a y139.Kinds.length (yg124 6 1).c, .bool y139.Least, .string ⟨⟨[111, 112, 97, 99, 105, 116, 121]⟩⟩, .bool false, .int .u8 5, .string ⟨⟨[]⟩⟩, .int .i64 1000, .int .u8 0, .int .u8 0, .int .u8 0, .int .u8 0, .slice none 0 0, .slice (yg124 8 0).a 1 (yg124 8 0).c, .bool false, .string ⟨⟨[122, 45, 105, 110, 100, 101, 120]⟩⟩, .bool false, .int .u8 y3.Kind, .string ⟨⟨y3.Word⟩⟩, .int .i64 y3.Num, .int .u8 y3.Color.Red, .int .u8 y3.Color.Green, .int .u8 y3.Color.Blue, .int .u8 y3.Color.Alpha, .slice (yg124 11 0).a 1 (yg124 11 0).c, .slice (yg124 12 0).a 1 (yg124 12 0).c, .bool false, .string ⟨⟨[111, 114, 100, 101, 114]⟩⟩, .bool false, .int .u8 6, .string ⟨⟨[]⟩⟩, .int .i64 0, .int .u8 0, .int .u8 0, .int .u8 0, .int .u8 0, .slice none 0 0, .slice (yg124 15 0).a 1 (yg124 15 0).c, .bool false] ([y126, y134, y139, (TProp.mk [111, 112, 97, 99, 105, 116, 121] false (TVal.mk 5 [] 1000 (TColor.mk 0 0 0 0)) [] ([5] : List Int) false), (TProp.mk [122, 45, 105, 110, 100, 101, 120] false y3 ([[97, 117, 116, 111]] : List Str) ([6] : List Int) false), (TProp.mk [111, 114, 100, 101, 114] false (TVal.mk 6 [] 0 (TColor.mk 0 0 0 0)) [] ([6] : List Int) false)] : List TProp) [gL [(yg124 2 0), (yg124 2 1)], gL [(yg124 5 0), (yg124 5 1)], gL [(yg124 6 0), (yg124 6 1)], gL [Gh.nil, (yg124 8 0)], gL [(yg124 11 0), (yg124 12 0)], gL [Gh.nil, (yg124 15 0)]] _ H hd rfl (by kernel_rfl) (by kernel_rfl) (by kernel_rfl) (by kernel_rfl) (by kernel_rfl) (by kernel_rfl) (by kernel_rfl) rfl (InnL.cons (tyProp_mk (hd.im 0 rfl) (hd.im 1 rfl)) (InnL.cons (tyProp_mk (hd.im 2 rfl) (hd.im 3 rfl)) (InnL.cons (tyProp_mk (hd.im 4 rfl) (hd.im 5 rfl)) (InnL.cons (tyProp_mk SlG.nil (hd.im 6 rfl)) (InnL.cons (tyProp_mk (hd.im 7 rfl) (hd.im 8 rfl)) (InnL.cons (tyProp_mk SlG.nil (hd.im 9 rfl)) InnL.nil))))))) ?_
    rintro v w2 hq
    obtain ⟨g152, rfl, hq⟩ := hq
    replace hS : SH M X w [Ent.own 51 tyProp ([y126, y134, y139, (TProp.mk [111, 112, 97, 99, 105, 116, 121] false (TVal.mk 5 [] 1000 (TColor.mk 0 0 0 0)) [] ([5] : List Int) false), (TProp.mk [122, 45, 105, 110, 100, 101, 120] false y3 ([[97, 117, 116, 111]] : List Str) ([6] : List Int) false), (TProp.mk [111, 114, 100, 101, 114] false (TVal.mk 6 [] 0 (TColor.mk 0 0 0 0)) [] ([6] : List Int) false)] : List TProp) g152, Ent.im (tI .u8) ([6] : List Int) (yg124 15 0), Ent.im (tI .u8) ([6] : List Int) (yg124 12 0), Ent.im tS ([[97, 117, 116, 111]] : List Str) (yg124 11 0), Ent.im (tI .u8) ([5] : List Int) (yg124 8 0), Ent.im (tI .u8) y139.Kinds (yg124 6 1), Ent.im tS y139.Words (yg124 6 0), Ent.im (tI .u8) y134.Kinds (yg124 5 1), Ent.im tS y134.Words (yg124 5 0), Ent.im (tI .u8) y126.Kinds (yg124 2 1), Ent.im tS y126.Words (yg124 2 0), Ent.im (tI .u8) ([] : List Int) (.nil), Ent.im (tI .u8) ([5] : List Int) (yg124 4 0)] _ := hS.join [9, 8, 7, 6, 5, 4, 3, 2, 1, 0] [0, 1, 2, 3, 4, 5, 6, 7, 8, 9, 10, 11] rfl rfl hq
    clear hq
    rw [hX] at hS
    exact ⟨gL [g152], fun _ _ => rfl, hS.sel [0, 1, 2, 3, 4, 5, 6, 7, 8, 9, 10, 11, 12] rfl⟩
   ·intro o ho a w yg124 M Hb hv hO hS0
    obtain rfl := Option.some.inj ho
    have H : Fr 57 ([(55, [], .slice (yg124 17 0).a 6 (yg124 17 0).c), (38, [], .slice g123.a z81.length g123.c)] ++ [(1, [], .pointer (some ⟨b6, 0, none⟩)), (3, [], .slice g123.a z81.length g123.c)]) _ := ((Hb).add (hv 0 (by decide) (by decide) 38 rfl)).add (hv 17 (by decide) (by decide) 55 rfl)
    obtain ⟨X, hX⟩ : ∃ X, X = fpl [Ent.own 51 tyProp ([y126, y134, y139, (TProp.mk [111, 112, 97, 99, 105, 116, 121] false (TVal.mk 5 [] 1000 (TColor.mk 0 0 0 0)) [] ([5] : List Int) false), (TProp.mk [122, 45, 105, 110, 100, 101, 120] false y3 ([[97, 117, 116, 111]] : List Str) ([6] : List Int) false), (TProp.mk [111, 114, 100, 101, 114] false (TVal.mk 6 [] 0 (TColor.mk 0 0 0 0)) [] ([6] : List Int) false)] : List TProp) (yg124 17 0), Ent.im (tI .u8) ([6] : List Int) (yg124 15 0), Ent.im (tI .u8) ([6] : List Int) (yg124 12 0), Ent.im tS ([[97, 117, 116, 111]] : List Str) (yg124 11 0), Ent.im (tI .u8) ([5] : List Int) (yg124 8 0), Ent.im (tI .u8) y139.Kinds (yg124 6 1), Ent.im tS y139.Words (yg124 6 0), Ent.im (tI .u8) y134.Kinds (yg124 5 1), Ent.im tS y134.Words (yg124 5 0), Ent.im (tI .u8) y126.Kinds (yg124 2 1), Ent.im tS y126.Words (yg124 2 0), Ent.im (tI .u8) ([] : List Int) (.nil), Ent.im (tI .u8) ([5] : List Int) (yg124 4 0), Ent.own 51 tyProp z81 g123] := ⟨_, rfl⟩
    have hS : SH M X w [Ent.own 51 tyProp ([y126, y134, y139, (TProp.mk [111, 112, 97, 99, 105, 116, 121] false (TVal.mk 5 [] 1000 (TColor.mk 0 0 0 0)) [] ([5] : List Int) false), (TProp.mk [122, 45, 105, 110, 100, 101, 120] false y3 ([[97, 117, 116, 111]] : List Str) ([6] : List Int) false), (TProp.mk [111, 114, 100, 101, 114] false (TVal.mk 6 [] 0 (TColor.mk 0 0 0 0)) [] ([6] : List Int) false)] : List TProp) (yg124 17 0), Ent.im (tI .u8) ([6] : List Int) (yg124 15 0), Ent.im (tI .u8) ([6] : List Int) (yg124 12 0), Ent.im tS ([[97, 117, 116, 111]] : List Str) (yg124 11 0), Ent.im (tI .u8) ([5] : List Int) (yg124 8 0), Ent.im (tI .u8) y139.Kinds (yg124 6 1), Ent.im tS y139.Words (yg124 6 0), Ent.im (tI .u8) y134.Kinds (yg124 5 1), Ent.im tS y134.Words (yg124 5 0), Ent.im (tI .u8) y126.Kinds (yg124 2 1), Ent.im tS y126.Words (yg124 2 0), Ent.im (tI .u8) ([] : List Int) (.nil), Ent.im (tI .u8) ([5] : List Int) (yg124 4 0), Ent.own 51 tyProp z81 g123] w := by rw [hX]; exact hS0
    have hd := hS.hand [13, 0] [1, 2, 3, 4, 5, 6, 7, 8, 9, 10, 11, 12] rfl rfl
    refine Stp.mono (o_app2 (T := tyProp) (zv := .agg ⟨[.string ⟨⟨[]⟩⟩, .bool false, .int .u8 0, .string ⟨⟨[]⟩⟩, .int .i64 0, .int .u8 0, .int .u8 0, .int .u8 0, .int .u8 0, .slice none 0 0, .slice none 0 0, .bool false]⟩) (g1 := g123) (g2 := (yg124 17 0)) (l1 := z81) (l2 := ([y126, y134, y139, (TProp.mk [111, 112, 97, 99, 105, 116, 121] false (TVal.mk 5 [] 1000 (TColor.mk 0 0 0 0)) [] ([5] : List Int) false), (TProp.mk [122, 45, 105, 110, 100, 101, 120] false y3 ([[97, 117, 116, 111]] : List Str) ([6] : List Int) false), (TProp.mk [111, 114, 100, 101, 114] false (TVal.mk 6 [] 0 (TColor.mk 0 0 0 0)) [] ([6] : List Int) false)] : List TProp)) q155 hq155.symm H hd rfl rfl rfl rfl rfl rfl rfl (by kernel_rfl) (by kernel_rfl) rfl rfl ho154) ?_
    rintro v w2 hq
    obtain ⟨g156, rfl, hq⟩ := hq
    replace hS : SH M X w [Ent.own 51 tyProp q155 g156, Ent.own 51 tyProp ([y126, y134, y139, (TProp.mk [111, 112, 97, 99, 105, 116, 121] false (TVal.mk 5 [] 1000 (TColor.mk 0 0 0 0)) [] ([5] : List Int) false), (TProp.mk [122, 45, 105, 110, 100, 101, 120] false y3 ([[97, 117, 116, 111]] : List Str) ([6] : List Int) false), (TProp.mk [111, 114, 100, 101, 114] false (TVal.mk 6 [] 0 (TColor.mk 0 0 0 0)) [] ([6] : List Int) false)] : List TProp) (yg124 17 0), Ent.im (tI .u8) ([6] : List Int) (yg124 15 0), Ent.im (tI .u8) ([6] : List Int) (yg124 12 0), Ent.im tS ([[97, 117, 116, 111]] : List Str) (yg124 11 0), Ent.im (tI .u8) ([5] : List Int) (yg124 8 0), Ent.im (tI .u8) y139.Kinds (yg124 6 1), Ent.im tS y139.Words (yg124 6 0), Ent.im (tI .u8) y134.Kinds (yg124 5 1), Ent.im tS y134.Words (yg124 5 0), Ent.im (tI .u8) y126.Kinds (yg124 2 1), Ent.im tS y126.Words (yg124 2 0), Ent.im (tI .u8) ([] : List Int) (.nil), Ent.im (tI .u8) ([5] : List Int) (yg124 4 0)] _ := hS.join [13, 0] [1, 2, 3, 4, 5, 6, 7, 8, 9, 10, 11, 12] rfl rfl hq
    clear hq
    rw [hX] at hS
    exact ⟨gL [g156], fun _ _ => rfl, hS.sel [0, 1, 2, 3, 4, 5, 6, 7, 8, 9, 10, 11, 12, 13] rfl⟩
   ·intro o ho a w yg124 M Hb hv hO hS
    obtain rfl := Option.some.inj ho
    exact Stp.mono (o_evs [] (.slice (yg124 18 0).a q155.length (yg124 18 0).c) none [] ((Hb).add (hv 18 (by decide) (by decide) 56 rfl)) rfl (by kernel_rfl) (fun q e => by cases e)) fun _ _ hq => ⟨gL [], fun _ _ => hq.1, (hS.below hq.2.below).sel [0] rfl⟩
  have H159 : Fr 57 [(0, [], .slice (yg124 18 0).a q155.length (yg124 18 0).c)] _ := (FrG.add (FrG.keep (ks := []) H158 (by kernel_rfl)) (hv 19 0 rfl))
  replace hS : SH M X w [Ent.own 51 tyProp ([y126, y134, y139, (TProp.mk [111, 112, 97, 99, 105, 116, 121] false (TVal.mk 5 [] 1000 (TColor.mk 0 0 0 0)) [] ([5] : List Int) false), (TProp.mk [122, 45, 105, 110, 100, 101, 120] false y3 ([[97, 117, 116, 111]] : List Str) ([6] : List Int) false), (TProp.mk [111, 114, 100, 101, 114] false (TVal.mk 6 [] 0 (TColor.mk 0 0 0 0)) [] ([6] : List Int) false)] : List TProp) (yg124 17 0), Ent.im (tI .u8) ([6] : List Int) (yg124 15 0), Ent.im (tI .u8) ([6] : List Int) (yg124 12 0), Ent.im tS ([[97, 117, 116, 111]] : List Str) (yg124 11 0), Ent.im (tI .u8) ([5] : List Int) (yg124 8 0), Ent.im (tI .u8) y139.Kinds (yg124 6 1), Ent.im tS y139.Words (yg124 6 0), Ent.im (tI .u8) y134.Kinds (yg124 5 1), Ent.im tS y134.Words (yg124 5 0), Ent.im (tI .u8) y126.Kinds (yg124 2 1), Ent.im tS y126.Words (yg124 2 0), Ent.im (tI .u8) ([] : List Int) (.nil), Ent.im (tI .u8) ([5] : List Int) (yg124 4 0), Ent.own 51 tyProp q155 (yg124 18 0), Ent.blk b6 [.int .u8 y3.Kind, .string ⟨⟨y3.Word⟩⟩, .int .i64 y3.Num, .int .u8 y3.Color.Red, .int .u8 y3.Color.Green, .int .u8 y3.Color.Blue, .int .u8 y3.Color.Alpha], gE0] _ := hS
  clear hv H158
  generalize yg124 18 0 = g160 at H159 hS
  generalize yg124 17 0 = g161 at H159 hS
  generalize yg124 15 0 = g162 at H159 hS
  generalize yg124 12 0 = g163 at H159 hS
  generalize yg124 11 0 = g164 at H159 hS
  generalize yg124 8 0 = g165 at H159 hS
  generalize yg124 6 1 = g166 at H159 hS
  generalize yg124 6 0 = g167 at H159 hS
  generalize yg124 5 1 = g168 at H159 hS
  generalize yg124 5 0 = g169 at H159 hS
  generalize yg124 2 1 = g170 at H159 hS
  generalize yg124 2 0 = g171 at H159 hS
  generalize yg124 4 0 = g172 at H159 hS
  replace hS : SH M X w [Ent.own 51 tyProp q155 g160, gE0] _ := hS.sel [13, 15] rfl
  refine w_ret ?_
  obtain rfl := someE hm
  exact retR1 H159 rfl rfl ⟨_, rfl, g160, rfl, (hS.sel [0] rfl)⟩
theorem props_Table_ok  (m : Nat)  (r : List TProp) (hm : props_Table m = some r) (M : Av) (w : World) (hS : S0 M [gE0] w) : DoesX Tryd.prog 22 ⟨[]⟩ w (fun v w' => ∃ (g901 : Gh), v = .slice g901.a r.length g901.c ∧ SH M (fpl [gE0]) w [Ent.own 51 tyProp r g901] w') := ⟨Tryd.call22 _, props_Table_w M m    r hm w hS⟩

def props_Find_1 (p : TProp) (u0 : Str) : Bool :=
  p.Name == u0
theorem props_Find_1_w {g_p_0 : Gh} {g_p_1 : Gh} {b_u0 : Nat} (M : Av) (p : TProp) (u0 : Str) (r : Bool) (hm : props_Find_1 p u0 = r) (w : World) (hS : S0 M [Ent.im tS p.Words g_p_0, Ent.im (tI .u8) p.Kinds g_p_1, Ent.ro b_u0 [.string ⟨⟨u0⟩⟩]] w) : Calls Tryd.prog 26 ⟨[.agg ⟨[.string ⟨⟨p.Name⟩⟩, .bool p.Inherited, .int .u8 p.Initial.Kind, .string ⟨⟨p.Initial.Word⟩⟩, .int .i64 p.Initial.Num, .int .u8 p.Initial.Color.Red, .int .u8 p.Initial.Color.Green, .int .u8 p.Initial.Color.Blue, .int .u8 p.Initial.Color.Alpha, .slice g_p_0.a p.Words.length g_p_0.c, .slice g_p_1.a p.Kinds.length g_p_1.c, .bool p.Least]⟩, .pointer (some ⟨b_u0, 0, none⟩)]⟩ w (fun e w' => ∃ v, e = .returned v ∧ v = .bool r ∧ SH M (fpl [Ent.im tS p.Words g_p_0, Ent.im (tI .u8) p.Kinds g_p_1, Ent.ro b_u0 [.string ⟨⟨u0⟩⟩]]) w [] w') := by
 rw [props_Find_1] at hm
 have hS0 : SH M (fpl [Ent.im tS p.Words g_p_0, Ent.im (tI .u8) p.Kinds g_p_1, Ent.ro b_u0 [.string ⟨⟨u0⟩⟩]]) w [Ent.im tS p.Words g_p_0, Ent.im (tI .u8) p.Kinds g_p_1, Ent.ro b_u0 [.string ⟨⟨u0⟩⟩]] w := hS
 generalize hX : fpl [Ent.im tS p.Words g_p_0, Ent.im (tI .u8) p.Kinds g_p_1, Ent.ro b_u0 [.string ⟨⟨u0⟩⟩]] = X at hS0 ⊢
 clear hS hX
 have hS := hS0
 clear hS0
 refine calls_entryP Tryd.func26 rfl Tryd.ntmps26 rfl fun _ H => ?_
 refine w_seq ?_
 refine wl_start ?_
 have hd := hS.hand [] [0, 1, 2] rfl rfl
 refine m_stp [2, 1] [(1, [], .pointer (some ⟨b_u0, 0, none⟩))] H rfl rfl rfl rfl (o_box [.string ⟨⟨p.Name⟩⟩, .bool p.Inherited, .int .u8 p.Initial.Kind, .string ⟨⟨p.Initial.Word⟩⟩, .int .i64 p.Initial.Num, .int .u8 p.Initial.Color.Red, .int .u8 p.Initial.Color.Green, .int .u8 p.Initial.Color.Blue, .int .u8 p.Initial.Color.Alpha, .slice g_p_0.a p.Words.length g_p_0.c, .slice g_p_1.a p.Kinds.length g_p_1.c, .bool p.Least] H hd rfl rfl) (fun _ => rfl) fun _ wd2 v H3 hq => ?_
 clear H hd
 obtain ⟨b1, rfl, hq⟩ := hq
 replace hS : SH M X w [Ent.blk b1 [.string ⟨⟨p.Name⟩⟩, .bool p.Inherited, .int .u8 p.Initial.Kind, .string ⟨⟨p.Initial.Word⟩⟩, .int .i64 p.Initial.Num, .int .u8 p.Initial.Color.Red, .int .u8 p.Initial.Color.Green, .int .u8 p.Initial.Color.Blue, .int .u8 p.Initial.Color.Alpha, .slice g_p_0.a p.Words.length g_p_0.c, .slice g_p_1.a p.Kinds.length g_p_1.c, .bool p.Least], Ent.im tS p.Words g_p_0, Ent.im (tI .u8) p.Kinds g_p_1, Ent.ro b_u0 [.string ⟨⟨u0⟩⟩]] _ := hS.join [] [0, 1, 2] rfl rfl hq
 clear hq
 refine wl_batch 1 2 [] [1, 2] [(1, [], .pointer (some ⟨b_u0, 0, none⟩)), (2, [], .pointer (some ⟨b1, 0, none⟩))] [] H3 (by decide) (by kernel_rfl) trivial fun _ wd4 H5 hb => ?_
 clear H3
 replace hS := hS.below hb
 clear hb
 refine wl_end rfl ?_
 refine s_reg [(.string ⟨⟨p.Name⟩⟩), (.string ⟨⟨u0⟩⟩)] [3] [(3, [], .bool (p.Name == u0))] [fun wz => V.at1 ⟨b1, 0, none⟩ (.string ⟨⟨p.Name⟩⟩) wz, fun wz => V.at1 ⟨b_u0, 0, none⟩ (.string ⟨⟨u0⟩⟩) wz] H5 (by kernel_rfl) ⟨((hS.bk 0 rfl).at1 rfl), ((hS.ro 3 rfl).at1 rfl), trivial⟩ fun _ wd6 H7 hb => ?_
 clear H5
 replace hS := hS.below hb
 clear hb
 replace hS : SH M X w [] _ := hS.sel [] rfl
 refine w_ret ?_
 subst hm
 exact retR1 H7 rfl rfl ⟨_, rfl, rfl, (hS.sel [] rfl)⟩
theorem props_Find_1_ok {g_p_0 : Gh} {g_p_1 : Gh} {b_u0 : Nat} (p : TProp) (u0 : Str) (w : World) (hL : S0 F0 [Ent.im tS p.Words g_p_0, Ent.im (tI .u8) p.Kinds g_p_1, Ent.ro b_u0 [.string ⟨⟨u0⟩⟩]] w ∧ fpl [Ent.im tS p.Words g_p_0, Ent.im (tI .u8) p.Kinds g_p_1, Ent.ro b_u0 [.string ⟨⟨u0⟩⟩]] = []) : RetB Tryd.prog 26 ⟨[.agg ⟨[.string ⟨⟨p.Name⟩⟩, .bool p.Inherited, .int .u8 p.Initial.Kind, .string ⟨⟨p.Initial.Word⟩⟩, .int .i64 p.Initial.Num, .int .u8 p.Initial.Color.Red, .int .u8 p.Initial.Color.Green, .int .u8 p.Initial.Color.Blue, .int .u8 p.Initial.Color.Alpha, .slice g_p_0.a p.Words.length g_p_0.c, .slice g_p_1.a p.Kinds.length g_p_1.c, .bool p.Least]⟩, .pointer (some ⟨b_u0, 0, none⟩)]⟩ (.bool (props_Find_1 p u0)) w := retB_of hL (Tryd.call26 _) (fun w' h => props_Find_1_w F0   p u0 _ rfl w' h)

def slices_IndexFunc_api_Prop_api_Prop_L1 (m : Nat) (s : List TProp) (f_c0 : Str) : Nat → Int → Option (Sum (Int) (Unit))
  | 0, _ => none
  | kk + 1, v6 =>
    cond (decide (v6 < (ln s))) (
    chk (0 ≤ v6 ∧ v6 < ln s) <|
    cond (props_Find_1 (gi s v6) f_c0) (
    some (.inl v6)) (
    slices_IndexFunc_api_Prop_api_Prop_L1 m s f_c0 kk (w64 (v6 + 1)))) (
    some (.inr ()))
def slices_IndexFunc_api_Prop_api_Prop (m : Nat) (s : List TProp) (f_c0 : Str) : Option (Int) :=
  Option.bind (
  slices_IndexFunc_api_Prop_api_Prop_L1 m s f_c0 m 0) fun (z3 : Sum (Int) (Unit)) => sumK z3 fun s_z3 =>
  some (-1)
theorem slices_IndexFunc_api_Prop_api_Prop_w {g_s : Gh} {b_f_c0 : Nat} (M : Av) (m : Nat) (s : List TProp) (f_c0 : Str) (r : Int) (hm : slices_IndexFunc_api_Prop_api_Prop m s f_c0 = some r) (w : World) (hS : S0 M [Ent.im tyProp s g_s, Ent.ro b_f_c0 [.string ⟨⟨f_c0⟩⟩]] w) : Calls Tryd.prog 25 ⟨[.slice g_s.a s.length g_s.c, .func (.func 26) ⟨[]⟩ ⟨[.pointer (some ⟨b_f_c0, 0, none⟩)]⟩]⟩ w (fun e w' => ∃ v, e = .returned v ∧ v = .int .i64 r ∧ SH M (fpl [Ent.im tyProp s g_s, Ent.ro b_f_c0 [.string ⟨⟨f_c0⟩⟩]]) w [] w') := by
 rw [slices_IndexFunc_api_Prop_api_Prop] at hm
 have hS0 : SH M (fpl [Ent.im tyProp s g_s, Ent.ro b_f_c0 [.string ⟨⟨f_c0⟩⟩]]) w [Ent.im tyProp s g_s, Ent.ro b_f_c0 [.string ⟨⟨f_c0⟩⟩]] w := hS
 generalize hX : fpl [Ent.im tyProp s g_s, Ent.ro b_f_c0 [.string ⟨⟨f_c0⟩⟩]] = X at hS0 ⊢
 clear hS hX
 have hS := hS0
 clear hS0
 refine calls_entryP Tryd.func25 rfl Tryd.ntmps25 rfl fun _ H => ?_
 refine s_reg [] [0, 1] [(0, [], .slice g_s.a s.length g_s.c), (1, [], .func (.func 26) ⟨[]⟩ ⟨[.pointer (some ⟨b_f_c0, 0, none⟩)]⟩)] [] H (by kernel_rfl) trivial fun _ wd1 H2 hb => ?_
 clear H
 replace hS := hS.below hb
 clear hb
 obtain ⟨z3, hz, hm_z3⟩ := bindE hm
 refine w_cut (fun a' w' => ∃ s_z3 : Unit, z3 = Sum.inr s_z3 ∧ Fr 19 [] a' ∧ SH M X w [Ent.im tyProp s g_s, Ent.ro b_f_c0 [.string ⟨⟨f_c0⟩⟩]] w') ?_ ?_
 ·replace hm := hz
  refine s_reg [] [0, 1, 7, 8] [(0, [], .slice g_s.a s.length g_s.c), (1, [], .func (.func 26) ⟨[]⟩ ⟨[.pointer (some ⟨b_f_c0, 0, none⟩)]⟩), (7, [], .int .i64 (ln s)), (8, [], .int .i64 0)] [] H2 (by kernel_rfl) trivial fun _ wd4 H5 hb => ?_
  clear H2
  replace hS := hS.below hb
  clear hb
  refine w_block ?_
  refine w_loop (fun kk a' w' => ∃ (v6 : Int), slices_IndexFunc_api_Prop_api_Prop_L1 m s f_c0 kk v6 = some _ ∧ Fr 19 [(0, [], .slice g_s.a s.length g_s.c), (1, [], .func (.func 26) ⟨[]⟩ ⟨[.pointer (some ⟨b_f_c0, 0, none⟩)]⟩), (7, [], .int .i64 (ln s)), (8, [], .int .i64 v6)] a' ∧ SH M X w [Ent.im tyProp s g_s, Ent.ro b_f_c0 [.string ⟨⟨f_c0⟩⟩]] w') ⟨_, 0, hm, FrG.keep (ks := [0, 1, 7, 8]) H5 (by kernel_rfl), hS⟩ ?_
  clear hm H5 hS
  rintro kk _ wd20 ⟨v6, hm, H, hS⟩
  cases kk with
  | zero => exact noneE hm
  | succ kk =>
   rw [slices_IndexFunc_api_Prop_api_Prop_L1] at hm
   refine s_reg [] [0, 1, 7, 8, 9] [(0, [], .slice g_s.a s.length g_s.c), (1, [], .func (.func 26) ⟨[]⟩ ⟨[.pointer (some ⟨b_f_c0, 0, none⟩)]⟩), (7, [], .int .i64 (ln s)), (8, [], .int .i64 v6), (9, [], .bool (decide (v6 < (ln s))))] [] H (by kernel_rfl) trivial fun _ wd7 H8 hb => ?_
   clear H
   replace hS := hS.below hb
   clear hb
   refine w_seq ?_
   refine w_if H8 rfl (fun hc => ?_) (fun hc => ?c19)
   case c19 =>
    replace hm := bF hc hm
    refine w_exit rfl ?_
    obtain rfl := someE hm
    exact ⟨_, rfl, FrG.keep (ks := []) H8 (by kernel_rfl), hS⟩
   replace hm := bT hc hm
   refine w_skip ?_
   refine w_seq ?_
   refine w_block ?_
   refine s_reg [] [0, 1, 5, 7, 8] [(0, [], .slice g_s.a s.length g_s.c), (1, [], .func (.func 26) ⟨[]⟩ ⟨[.pointer (some ⟨b_f_c0, 0, none⟩)]⟩), (5, [], .int .i64 v6), (7, [], .int .i64 (ln s)), (8, [], .int .i64 v6)] [] H8 (by kernel_rfl) trivial fun _ wd9 H10 hb => ?_
   clear H8
   replace hS := hS.below hb
   clear hb
   obtain ⟨ho11, hm⟩ := chkE hm
   refine s_reg [(.agg ⟨[.string ⟨⟨(gi s v6).Name⟩⟩, .bool ((gi s v6).Inherited), .int .u8 ((gi s v6).Initial.Kind), .string ⟨⟨(gi s v6).Initial.Word⟩⟩, .int .i64 ((gi s v6).Initial.Num), .int .u8 ((gi s v6).Initial.Color.Red), .int .u8 ((gi s v6).Initial.Color.Green), .int .u8 ((gi s v6).Initial.Color.Blue), .int .u8 ((gi s v6).Initial.Color.Alpha), .slice (g_s.s (v6).toNat 0).a (((gi s v6).Words).length) (g_s.s (v6).toNat 0).c, .slice (g_s.s (v6).toNat 1).a (((gi s v6).Kinds).length) (g_s.s (v6).toNat 1).c, .bool ((gi s v6).Least)]⟩), (.bool (props_Find_1 (gi s v6) f_c0))] [0, 1, 5, 7, 8, 16] [(0, [], .slice g_s.a s.length g_s.c), (1, [], .func (.func 26) ⟨[]⟩ ⟨[.pointer (some ⟨b_f_c0, 0, none⟩)]⟩), (5, [], .int .i64 v6), (7, [], .int .i64 (ln s)), (8, [], .int .i64 v6), (16, [], .bool (props_Find_1 (gi s v6) f_c0))] [fun _ => oka g_s.a ∧ 0 ≤ v6 ∧ v6 < ln s, fun wz => V.atN (ab g_s.a) (ao g_s.a + (v6).toNat * 12) [.string ⟨⟨(gi s v6).Name⟩⟩, .bool ((gi s v6).Inherited), .int .u8 ((gi s v6).Initial.Kind), .string ⟨⟨(gi s v6).Initial.Word⟩⟩, .int .i64 ((gi s v6).Initial.Num), .int .u8 ((gi s v6).Initial.Color.Red), .int .u8 ((gi s v6).Initial.Color.Green), .int .u8 ((gi s v6).Initial.Color.Blue), .int .u8 ((gi s v6).Initial.Color.Alpha), .slice (g_s.s (v6).toNat 0).a (((gi s v6).Words).length) (g_s.s (v6).toNat 0).c, .slice (g_s.s (v6).toNat 1).a (((gi s v6).Kinds).length) (g_s.s (v6).toNat 1).c, .bool ((gi s v6).Least)] 0 wz, fun wz => RetB Tryd.prog 26 ⟨[.agg ⟨[.string ⟨⟨(gi s v6).Name⟩⟩, .bool ((gi s v6).Inherited), .int .u8 ((gi s v6).Initial.Kind), .string ⟨⟨(gi s v6).Initial.Word⟩⟩, .int .i64 ((gi s v6).Initial.Num), .int .u8 ((gi s v6).Initial.Color.Red), .int .u8 ((gi s v6).Initial.Color.Green), .int .u8 ((gi s v6).Initial.Color.Blue), .int .u8 ((gi s v6).Initial.Color.Alpha), .slice (g_s.s (v6).toNat 0).a (((gi s v6).Words).length) (g_s.s (v6).toNat 0).c, .slice (g_s.s (v6).toNat 1).a (((gi s v6).Kinds).length) (g_s.s (v6).toNat 1).c, .bool ((gi s v6).Least)]⟩, .pointer (some ⟨b_f_c0, 0, none⟩)]⟩ (.bool (props_Find_1 (gi s v6) f_c0)) wz] H10 (by kernel_rfl) ⟨((hS.im 0 rfl).oki ho11), ((hS.im 0 rfl).atA ho11 0 rfl), (props_Find_1_ok (g_p_0 := (g_s.s (v6).toNat 0)) (g_p_1 := (g_s.s (v6).toNat 1)) (b_u0 := b_f_c0) _ _ _ (s0im (s0im (s0ro s0nil (hS.ro 1 rfl)) (tyProp_i1 ((hS.im 0 rfl).el ho11))) (tyProp_i0 ((hS.im 0 rfl).el ho11)))), trivial⟩ fun _ wd12 H13 hb => ?_
   clear H10
   replace hS := hS.below hb
   clear hb
   refine w_if H13 rfl (fun hc => ?_) (fun hc => ?c18)
   case c18 =>
    replace hm := bF hc hm
    refine w_skip ?_
    refine w_reg [] [0, 1, 7, 8] [(0, [], .slice g_s.a s.length g_s.c), (1, [], .func (.func 26) ⟨[]⟩ ⟨[.pointer (some ⟨b_f_c0, 0, none⟩)]⟩), (7, [], .int .i64 (ln s)), (8, [], .int .i64 (w64 (v6 + 1)))] [] H13 (by kernel_rfl) trivial fun _ wd16 H17 hb => ?_
    clear H13
    replace hS := hS.below hb
    clear hb
    exact ⟨_, Nat.lt_succ_self _, w64 (v6 + 1), hm, FrG.keep (ks := [0, 1, 7, 8]) H17 (by kernel_rfl), hS⟩
   replace hm := bT hc hm
   refine s_reg [] [4] [(4, [], .int .i64 v6)] [] H13 (by kernel_rfl) trivial fun _ wd14 H15 hb => ?_
   clear H13
   replace hS := hS.below hb
   clear hb
   refine w_ret ?_
   obtain rfl := someE hm
   have hm := hm_z3
   obtain rfl := someE hm
   exact retR1 H15 rfl rfl ⟨_, rfl, rfl, (hS.sel [] rfl)⟩
 ·rintro _ wd23 ⟨s_z3, hz, H, hS⟩
  subst hz
  replace hm := sumR hm_z3
  replace hS : SH M X w [] _ := hS.sel [] rfl
  refine s_reg [] [4] [(4, [], .int .i64 (-1))] [] H (by kernel_rfl) trivial fun _ wd21 H22 hb => ?_
  clear H
  replace hS := hS.below hb
  clear hb
  refine w_ret ?_
  obtain rfl := someE hm
  exact retR1 H22 rfl rfl ⟨_, rfl, rfl, (hS.sel [] rfl)⟩
theorem slices_IndexFunc_api_Prop_api_Prop_ok {g_s : Gh} {b_f_c0 : Nat} (m : Nat) (s : List TProp) (f_c0 : Str) (r : Int) (hm : slices_IndexFunc_api_Prop_api_Prop m s f_c0 = some r) (w : World) (hL : S0 F0 [Ent.im tyProp s g_s, Ent.ro b_f_c0 [.string ⟨⟨f_c0⟩⟩]] w ∧ fpl [Ent.im tyProp s g_s, Ent.ro b_f_c0 [.string ⟨⟨f_c0⟩⟩]] = []) : RetB Tryd.prog 25 ⟨[.slice g_s.a s.length g_s.c, .func (.func 26) ⟨[]⟩ ⟨[.pointer (some ⟨b_f_c0, 0, none⟩)]⟩]⟩ (.int .i64 r) w := retB_of hL (Tryd.call25 _) (fun w' h => slices_IndexFunc_api_Prop_api_Prop_w F0 m   s f_c0 r hm w' h)

def props_Find (m : Nat) (name_ : Str) : Option (Int × Int) :=
  Option.bind (props_Table m) fun y6 =>
  Option.bind (slices_IndexFunc_api_Prop_api_Prop m y6 name_) fun y11 =>
  cond (decide (y11 < 0)) (
  some (0, 6)) (
  some (y11, 0))
theorem props_Find_w  (M : Av) (m : Nat) (name_ : Str) (r : Int × Int) (hm : props_Find m name_ = some r) (w : World) (hS : S0 M [gE0] w) : Calls Tryd.prog 9 ⟨[.string ⟨⟨name_⟩⟩]⟩ w (fun e w' => ∃ v, e = .returned v ∧ v = .tuple ⟨[.int .i64 r.1, .int .i64 r.2]⟩ ∧ SH M (fpl [gE0]) w [] w') := by
 rw [props_Find] at hm
 have hS0 : SH M (fpl [gE0]) w [gE0] w := hS
 generalize hX : fpl [gE0] = X at hS0 ⊢
 clear hS hX
 have hS := hS0
 clear hS0
 refine calls_entryP Tryd.func9 rfl Tryd.ntmps9 rfl fun _ H => ?_
 refine w_seq ?_
 refine wl_start ?_
 have hd := hS.hand [] [0] rfl rfl
 refine m_stp [1] [] H rfl rfl rfl rfl (o_box [.string ⟨⟨name_⟩⟩] H hd rfl rfl) (fun _ => rfl) fun _ wd2 v H3 hq => ?_
 clear H hd
 obtain ⟨b1, rfl, hq⟩ := hq
 replace hS : SH M X w [Ent.blk b1 [.string ⟨⟨name_⟩⟩], gE0] _ := hS.join [] [0] rfl rfl hq
 clear hq
 refine wl_batch 1 3 [] [1] [(1, [], .pointer (some ⟨b1, 0, none⟩))] [] H3 (by decide) (by kernel_rfl) trivial fun _ wd4 H5 hb => ?_
 clear H3
 replace hS := hS.below hb
 clear hb
 refine wl_end rfl ?_
 refine w_seq ?_
 refine wl_start ?_
 obtain ⟨y6, hy6, hm⟩ := bindE hm
 have hd := hS.hand [1] [0, 1] rfl rfl
 refine m_stp [5, 1] [(1, [], .pointer (some ⟨b1, 0, none⟩))] H5 rfl rfl rfl rfl (o_callx H5 rfl rfl (props_Table_ok m _ hy6 _ _ hd)) (fun _ => rfl) fun _ wd9 v H10 hq => ?_
 clear H5 hd
 obtain ⟨g7, rfl, hq⟩ := hq
 replace hS : SH M X w [Ent.own 51 tyProp y6 g7, Ent.blk b1 [.string ⟨⟨name_⟩⟩], gE0] _ := hS.join [1] [0, 1] rfl rfl hq
 clear hq
 obtain ⟨y11, hy11, hm⟩ := bindE hm
 refine wl_batch 1 4 [(.int .i64 y11)] [4] [(4, [], .int .i64 y11)] [fun wz => RetB Tryd.prog 25 ⟨[.slice g7.a y6.length g7.c, .func (.func 26) ⟨[]⟩ ⟨[.pointer (some ⟨b1, 0, none⟩)]⟩]⟩ (.int .i64 y11) wz] H10 (by decide) (by kernel_rfl) ⟨(slices_IndexFunc_api_Prop_api_Prop_ok (g_s := g7) (b_f_c0 := b1) m _ _ _ hy11 _ (s0im (s0ro s0nil (hS.bk 1 rfl)) (hS.osl 0 rfl))), trivial⟩ fun _ wd12 H13 hb => ?_
 clear H10
 replace hS := hS.below hb
 clear hb
 refine wl_end rfl ?_
 replace hS : SH M X w [gE0] _ := hS.sel [2] rfl
 refine w_seq ?_
 refine s_reg [] [4, 9] [(4, [], .int .i64 y11), (9, [], .bool (decide (y11 < 0)))] [] H13 (by kernel_rfl) trivial fun _ wd14 H15 hb => ?_
 clear H13
 replace hS := hS.below hb
 clear hb
 refine w_if H15 rfl (fun hc => ?c20) (fun hc => ?_)
 case c20 =>
  replace hm := bT hc hm
  refine s_reg [] [2, 3] [(2, [], .int .i64 0), (3, [], .int .i64 6)] [] H15 (by kernel_rfl) trivial fun _ wd16 H17 hb => ?_
  clear H15
  replace hS := hS.below hb
  clear hb
  refine w_ret ?_
  obtain rfl := someE hm
  exact retR2 H17 rfl rfl rfl ⟨_, rfl, rfl, (hS.sel [] rfl)⟩
 replace hm := bF hc hm
 refine w_skip ?_
 refine s_reg [] [2, 3] [(2, [], .int .i64 y11), (3, [], .int .i64 0)] [] H15 (by kernel_rfl) trivial fun _ wd18 H19 hb => ?_
 clear H15
 replace hS := hS.below hb
 clear hb
 refine w_ret ?_
 obtain rfl := someE hm
 exact retR2 H19 rfl rfl rfl ⟨_, rfl, rfl, (hS.sel [] rfl)⟩
theorem props_Find_ok  (m : Nat) (name_ : Str) (r : Int × Int) (hm : props_Find m name_ = some r) (w : World) (hL : S0 F0 [gE0] w ∧ fpl [gE0] = []) : RetB Tryd.prog 9 ⟨[.string ⟨⟨name_⟩⟩]⟩ (.tuple ⟨[.int .i64 r.1, .int .i64 r.2]⟩) w := retB_of hL (Tryd.call9 _) (fun w' h => props_Find_w F0 m   name_ r hm w' h)

def stringslite_HasPrefix (s : Str) (prefix_ : Str) : Option (Bool) :=
  chk ((decide ((ln prefix_) ≤ (ln s))) = true → 0 ≤ (ln prefix_) ∧ (ln prefix_) ≤ ln s) <|
  lt (cond (decide ((ln prefix_) ≤ (ln s))) ((sub s 0 (ln prefix_)) == prefix_) false) fun x4 =>
  some x4
theorem stringslite_HasPrefix_w  (M : Av) (s : Str) (prefix_ : Str) (r : Bool) (hm : stringslite_HasPrefix s prefix_ = some r) (w : World) (hS : S0 M [] w) : Calls Tryd.prog 39 ⟨[.string ⟨⟨s⟩⟩, .string ⟨⟨prefix_⟩⟩]⟩ w (fun e w' => ∃ v, e = .returned v ∧ v = .bool r ∧ SH M (fpl []) w [] w') := by
 rw [stringslite_HasPrefix] at hm
 have hS0 : SH M (fpl []) w [] w := hS
 generalize hX : fpl [] = X at hS0 ⊢
 clear hS hX
 have hS := hS0
 clear hS0
 refine calls_entryP Tryd.func39 rfl Tryd.ntmps39 rfl fun _ H => ?_
 refine s_reg [] [0, 1] [(0, [], .string ⟨⟨s⟩⟩), (1, [], .string ⟨⟨prefix_⟩⟩)] [] H (by kernel_rfl) trivial fun _ wd1 H2 hb => ?_
 clear H
 replace hS := hS.below hb
 clear hb
 obtain ⟨ho3, hm⟩ := chkE hm
 obtain ⟨x4, hx4, hm⟩ := letE hm
 refine s_reg [] [4] [(4, [], .bool x4)] [fun _ => ((decide ((ln prefix_) ≤ (ln s))) = true ∧ True → 0 ≤ (ln prefix_) ∧ (ln prefix_) ≤ ln s)] H2 (by subst hx4; kernel_rfl) ⟨fun hg => (ho3 hg.1), trivial⟩ fun _ wd5 H6 hb => ?_
 clear H2
 replace hS := hS.below hb
 clear hb
 refine w_ret ?_
 obtain rfl := someE hm
 exact retR1 H6 rfl rfl ⟨_, rfl, rfl, (hS.sel [] rfl)⟩
theorem stringslite_HasPrefix_ok  (s : Str) (prefix_ : Str) (r : Bool) (hm : stringslite_HasPrefix s prefix_ = some r) : Ret Tryd.prog 39 ⟨[.string ⟨⟨s⟩⟩, .string ⟨⟨prefix_⟩⟩]⟩ (.bool r) := retP_of (Tryd.call39 _) (fun w h => stringslite_HasPrefix_w F0   s prefix_ r hm w h)

def strings_HasPrefix (s : Str) (prefix_ : Str) : Option (Bool) :=
  Option.bind (stringslite_HasPrefix s prefix_) fun y3 =>
  some y3
theorem strings_HasPrefix_w  (M : Av) (s : Str) (prefix_ : Str) (r : Bool) (hm : strings_HasPrefix s prefix_ = some r) (w : World) (hS : S0 M [] w) : Calls Tryd.prog 29 ⟨[.string ⟨⟨s⟩⟩, .string ⟨⟨prefix_⟩⟩]⟩ w (fun e w' => ∃ v, e = .returned v ∧ v = .bool r ∧ SH M (fpl []) w [] w') := by
 rw [strings_HasPrefix] at hm
 have hS0 : SH M (fpl []) w [] w := hS
 generalize hX : fpl [] = X at hS0 ⊢
 clear hS hX
 have hS := hS0
 clear hS0
 refine calls_entryP Tryd.func29 rfl Tryd.ntmps29 rfl fun _ H => ?_
 refine s_reg [] [0, 1] [(0, [], .string ⟨⟨s⟩⟩), (1, [], .string ⟨⟨prefix_⟩⟩)] [] H (by kernel_rfl) trivial fun _ wd1 H2 hb => ?_
 clear H
 replace hS := hS.below hb
 clear hb
 obtain ⟨y3, hy3, hm⟩ := bindE hm
 refine s_reg [(.bool y3)] [4] [(4, [], .bool y3)] [fun wz => RetB Tryd.prog 39 ⟨[.string ⟨⟨s⟩⟩, .string ⟨⟨prefix_⟩⟩]⟩ (.bool y3) wz] H2 (by kernel_rfl) ⟨((stringslite_HasPrefix_ok _ _ _ hy3).b), trivial⟩ fun _ wd4 H5 hb => ?_
 clear H2
 replace hS := hS.below hb
 clear hb
 refine w_ret ?_
 obtain rfl := someE hm
 exact retR1 H5 rfl rfl ⟨_, rfl, rfl, (hS.sel [] rfl)⟩
theorem strings_HasPrefix_ok  (s : Str) (prefix_ : Str) (r : Bool) (hm : strings_HasPrefix s prefix_ = some r) : Ret Tryd.prog 29 ⟨[.string ⟨⟨s⟩⟩, .string ⟨⟨prefix_⟩⟩]⟩ (.bool r) := retP_of (Tryd.call29 _) (fun w h => strings_HasPrefix_w F0   s prefix_ r hm w h)

def props_Custom (name_ : Str) : Option (Bool) :=
  Option.bind (strings_HasPrefix name_ [45, 45]) fun y3 =>
  lt (cond (cond y3 (decide (2 < (ln name_))) false) (decide ((ln name_) ≤ 64)) false) fun x4 =>
  some x4
theorem props_Custom_w  (M : Av) (name_ : Str) (r : Bool) (hm : props_Custom name_ = some r) (w : World) (hS : S0 M [] w) : Calls Tryd.prog 15 ⟨[.string ⟨⟨name_⟩⟩]⟩ w (fun e w' => ∃ v, e = .returned v ∧ v = .bool r ∧ SH M (fpl []) w [] w') := by
 rw [props_Custom] at hm
 have hS0 : SH M (fpl []) w [] w := hS
 generalize hX : fpl [] = X at hS0 ⊢
 clear hS hX
 have hS := hS0
 clear hS0
 refine calls_entryP Tryd.func15 rfl Tryd.ntmps15 rfl fun _ H => ?_
 refine s_reg [] [0] [(0, [], .string ⟨⟨name_⟩⟩)] [] H (by kernel_rfl) trivial fun _ wd1 H2 hb => ?_
 clear H
 replace hS := hS.below hb
 clear hb
 obtain ⟨y3, hy3, hm⟩ := bindE hm
 obtain ⟨x4, hx4, hm⟩ := letE hm
 refine s_reg [(.bool y3)] [2] [(2, [], .bool x4)] [fun wz => RetB Tryd.prog 29 ⟨[.string ⟨⟨name_⟩⟩, .string ⟨⟨[45, 45]⟩⟩]⟩ (.bool y3) wz] H2 (by subst hx4; kernel_rfl) ⟨((strings_HasPrefix_ok _ _ _ hy3).b), trivial⟩ fun _ wd5 H6 hb => ?_
 clear H2
 replace hS := hS.below hb
 clear hb
 refine w_ret ?_
 obtain rfl := someE hm
 exact retR1 H6 rfl rfl ⟨_, rfl, rfl, (hS.sel [] rfl)⟩
theorem props_Custom_ok  (name_ : Str) (r : Bool) (hm : props_Custom name_ = some r) : Ret Tryd.prog 15 ⟨[.string ⟨⟨name_⟩⟩]⟩ (.bool r) := retP_of (Tryd.call15 _) (fun w h => props_Custom_w F0   name_ r hm w h)

def props_Inherited (m : Nat) (name_ : Str) : Option (Bool × Int) :=
  Option.bind (props_Custom name_) fun y3 =>
  cond y3 (
  some (true, 0)) (
  Option.bind (props_Find m name_) fun y8 =>
  cond (y8.2 != 0) (
  some (false, y8.2)) (
  Option.bind (props_Table m) fun y15 =>
  chk (0 ≤ y8.1 ∧ y8.1 < ln y15) <|
  some ((gi y15 y8.1).Inherited, 0)))
theorem props_Inherited_w  (M : Av) (m : Nat) (name_ : Str) (r : Bool × Int) (hm : props_Inherited m name_ = some r) (w : World) (hS : S0 M [gE0] w) : Calls Tryd.prog 11 ⟨[.string ⟨⟨name_⟩⟩]⟩ w (fun e w' => ∃ v, e = .returned v ∧ v = .tuple ⟨[.bool r.1, .int .i64 r.2]⟩ ∧ SH M (fpl [gE0]) w [] w') := by
 rw [props_Inherited] at hm
 have hS0 : SH M (fpl [gE0]) w [gE0] w := hS
 generalize hX : fpl [gE0] = X at hS0 ⊢
 clear hS hX
 have hS := hS0
 clear hS0
 refine calls_entryP Tryd.func11 rfl Tryd.ntmps11 rfl fun _ H => ?_
 refine s_reg [] [0] [(0, [], .string ⟨⟨name_⟩⟩)] [] H (by kernel_rfl) trivial fun _ wd1 H2 hb => ?_
 clear H
 replace hS := hS.below hb
 clear hb
 refine w_seq ?_
 obtain ⟨y3, hy3, hm⟩ := bindE hm
 refine s_reg [(.bool y3)] [0, 7] [(0, [], .string ⟨⟨name_⟩⟩), (7, [], .bool y3)] [fun wz => RetB Tryd.prog 15 ⟨[.string ⟨⟨name_⟩⟩]⟩ (.bool y3) wz] H2 (by kernel_rfl) ⟨((props_Custom_ok _ _ hy3).b), trivial⟩ fun _ wd4 H5 hb => ?_
 clear H2
 replace hS := hS.below hb
 clear hb
 refine w_if H5 rfl (fun hc => ?c24) (fun hc => ?_)
 case c24 =>
  replace hm := bT hc hm
  refine s_reg [] [2, 3] [(2, [], .bool true), (3, [], .int .i64 0)] [] H5 (by kernel_rfl) trivial fun _ wd6 H7 hb => ?_
  clear H5
  replace hS := hS.below hb
  clear hb
  refine w_ret ?_
  obtain rfl := someE hm
  exact retR2 H7 rfl rfl rfl ⟨_, rfl, rfl, (hS.sel [] rfl)⟩
 replace hm := bF hc hm
 refine w_skip ?_
 obtain ⟨y8, hy8, hm⟩ := bindE hm
 refine s_reg [(.tuple ⟨[.int .i64 y8.1, .int .i64 y8.2]⟩)] [4, 5] [(4, [], .int .i64 y8.1), (5, [], .int .i64 y8.2)] [fun wz => RetB Tryd.prog 9 ⟨[.string ⟨⟨name_⟩⟩]⟩ (.tuple ⟨[.int .i64 y8.1, .int .i64 y8.2]⟩) wz] H5 (by kernel_rfl) ⟨(props_Find_ok m _ _ hy8 _ (s0im s0nil (hS.im 0 rfl))), trivial⟩ fun _ wd9 H10 hb => ?_
 clear H5
 replace hS := hS.below hb
 clear hb
 refine w_seq ?_
 refine s_reg [] [4, 5, 14] [(4, [], .int .i64 y8.1), (5, [], .int .i64 y8.2), (14, [], .bool (y8.2 != 0))] [] H10 (by kernel_rfl) trivial fun _ wd11 H12 hb => ?_
 clear H10
 replace hS := hS.below hb
 clear hb
 refine w_if H12 rfl (fun hc => ?c23) (fun hc => ?_)
 case c23 =>
  replace hm := bT hc hm
  refine s_reg [] [2, 3] [(2, [], .bool false), (3, [], .int .i64 y8.2)] [] H12 (by kernel_rfl) trivial fun _ wd13 H14 hb => ?_
  clear H12
  replace hS := hS.below hb
  clear hb
  refine w_ret ?_
  obtain rfl := someE hm
  exact retR2 H14 rfl rfl rfl ⟨_, rfl, rfl, (hS.sel [] rfl)⟩
 replace hm := bF hc hm
 refine w_skip ?_
 refine w_seq ?_
 refine wl_start ?_
 obtain ⟨y15, hy15, hm⟩ := bindE hm
 have hd := hS.hand [0] [0] rfl rfl
 refine m_stp [16, 4] [(4, [], .int .i64 y8.1)] H12 rfl rfl rfl rfl (o_callx H12 rfl rfl (props_Table_ok m _ hy15 _ _ hd)) (fun _ => rfl) fun _ wd18 v H19 hq => ?_
 clear H12 hd
 obtain ⟨g16, rfl, hq⟩ := hq
 replace hS : SH M X w [Ent.own 51 tyProp y15 g16, gE0] _ := hS.join [0] [0] rfl rfl hq
 clear hq
 obtain ⟨ho20, hm⟩ := chkE hm
 refine wl_batch 1 7 [(.bool ((gi y15 y8.1).Inherited))] [2, 3] [(2, [], .bool ((gi y15 y8.1).Inherited)), (3, [], .int .i64 0)] [fun _ => oka g16.a ∧ 0 ≤ y8.1 ∧ y8.1 < ln y15, fun wz => V.at1 ⟨ab g16.a, ao g16.a + (y8.1).toNat * 12 + 1, none⟩ (.bool ((gi y15 y8.1).Inherited)) wz] H19 (by decide) (by kernel_rfl) ⟨((hS.osl 0 rfl).oki ho20), ((hS.osl 0 rfl).at1 ho20 1 rfl), trivial⟩ fun _ wd21 H22 hb => ?_
 clear H19
 replace hS := hS.below hb
 clear hb
 refine wl_end rfl ?_
 replace hS : SH M X w [gE0] _ := hS.sel [1] rfl
 refine w_ret ?_
 obtain rfl := someE hm
 exact retR2 H22 rfl rfl rfl ⟨_, rfl, rfl, (hS.sel [] rfl)⟩
theorem props_Inherited_ok  (m : Nat) (name_ : Str) (r : Bool × Int) (hm : props_Inherited m name_ = some r) (w : World) (hL : S0 F0 [gE0] w ∧ fpl [gE0] = []) : RetB Tryd.prog 11 ⟨[.string ⟨⟨name_⟩⟩]⟩ (.tuple ⟨[.bool r.1, .int .i64 r.2]⟩) w := retB_of hL (Tryd.call11 _) (fun w' h => props_Inherited_w F0 m   name_ r hm w' h)

def props_Check (v_ : TVal) : Option (Int) :=
  Option.bind (
  Option.bind (
  cond (v_.Kind == 1) (
  Option.bind (
  some (.inr (v_.Word, 0, 0, 0, 0, 0))) fun r25 => some (.inl r25)) (
  cond (v_.Kind == 6) (
  some (.inr (w64 (Int.tdiv 1000000000000 1000)))) (
  Option.bind (
  cond (v_.Kind == 2) (
  some (v_.Kind == 2)) (
  cond (v_.Kind == 3) (
  some (v_.Kind == 3)) (
  cond (v_.Kind == 4) (
  some (v_.Kind == 4)) (
  some (v_.Kind == 5))))) fun (z30 : Bool) =>
  cond z30 (
  some (.inr 1000000000000)) (
  cond (v_.Kind == 7) (
  Option.bind (
  some (.inr ([], v_.Color.Red, v_.Color.Green, v_.Color.Blue, v_.Color.Alpha, 0))) fun r48 => some (.inl r48)) (
  cond (v_.Kind == 8) (
  Option.bind (
  some (.inr ([], 0, 0, 0, 0, 0))) fun r51 => some (.inl r51)) (
  Option.bind (
  some (.inl 8)) fun r54 => some (.inl r54))))))) fun (z18 : Sum (Sum (Int) (Str × Int × Int × Int × Int × Int)) (Int)) => sumK z18 fun s_z18 =>
  lt (if w64 (0 - s_z18) < if v_.Num < s_z18 then v_.Num else s_z18 then if v_.Num < s_z18 then v_.Num else s_z18 else w64 (0 - s_z18)) fun x61 =>
  some (.inr ([], 0, 0, 0, 0, x61))) fun (z15 : Sum (Int) (Str × Int × Int × Int × Int × Int)) => sumK z15 fun s_z15 =>
  lt (!((v_.Kind == v_.Kind) && ((v_.Word == s_z15.1) && ((v_.Num == s_z15.2.2.2.2.2) && (((v_.Color.Red == s_z15.2.1) && ((v_.Color.Green == s_z15.2.2.1) && ((v_.Color.Blue == s_z15.2.2.2.1) && ((v_.Color.Alpha == s_z15.2.2.2.2.1) && true)))) && true))))) fun x67 =>
  lt (cond x67 true (cond (v_.Kind == 1) (v_.Word == []) false)) fun x68 =>
  cond x68 (
  some 8) (
  some 0)
theorem props_Check_w  (M : Av) (v_ : TVal) (r : Int) (hm : props_Check v_ = some r) (w : World) (hS : S0 M [] w) : Calls Tryd.prog 17 ⟨[.agg ⟨[.int .u8 v_.Kind, .string ⟨⟨v_.Word⟩⟩, .int .i64 v_.Num, .int .u8 v_.Color.Red, .int .u8 v_.Color.Green, .int .u8 v_.Color.Blue, .int .u8 v_.Color.Alpha]⟩]⟩ w (fun e w' => ∃ v, e = .returned v ∧ v = .int .i64 r ∧ SH M (fpl []) w [] w') := by
 rw [props_Check] at hm
 have hS0 : SH M (fpl []) w [] w := hS
 generalize hX : fpl [] = X at hS0 ⊢
 clear hS hX
 have hS := hS0
 clear hS0
 refine calls_entryP Tryd.func17 rfl Tryd.ntmps17 rfl fun _ H => ?_
 refine w_seq ?_
 refine wl_start ?_
 have hd := hS.hand [] [] rfl rfl
 refine m_stp [1] [] H rfl rfl rfl rfl (o_box [.int .u8 v_.Kind, .string ⟨⟨v_.Word⟩⟩, .int .i64 v_.Num, .int .u8 v_.Color.Red, .int .u8 v_.Color.Green, .int .u8 v_.Color.Blue, .int .u8 v_.Color.Alpha] H hd rfl rfl) (fun _ => rfl) fun _ wd2 v H3 hq => ?_
 clear H hd
 obtain ⟨b1, rfl, hq⟩ := hq
 replace hS : SH M X w [Ent.blk b1 [.int .u8 v_.Kind, .string ⟨⟨v_.Word⟩⟩, .int .i64 v_.Num, .int .u8 v_.Color.Red, .int .u8 v_.Color.Green, .int .u8 v_.Color.Blue, .int .u8 v_.Color.Alpha]] _ := hS.join [] [] rfl rfl hq
 clear hq
 refine wl_batch 1 2 [] [1] [(1, [], .pointer (some ⟨b1, 0, none⟩))] [] H3 (by decide) (by kernel_rfl) trivial fun _ wd4 H5 hb => ?_
 clear H3
 replace hS := hS.below hb
 clear hb
 refine wl_end rfl ?_
 refine w_seq ?_
 refine wl_start ?_
 refine wl_batch 0 3 [(.int .u8 v_.Kind)] [1, 7] [(1, [], .pointer (some ⟨b1, 0, none⟩)), (7, [], .agg ⟨[.int .u8 v_.Kind, .string ⟨⟨[]⟩⟩, .int .i64 0, .int .u8 0, .int .u8 0, .int .u8 0, .int .u8 0]⟩)] [fun wz => V.at1 ⟨b1, 0, none⟩ (.int .u8 v_.Kind) wz] H5 (by decide) (by kernel_rfl) ⟨((hS.bk 0 rfl).at1 rfl), trivial⟩ fun _ wd6 H7 hb => ?_
 clear H5
 replace hS := hS.below hb
 clear hb
 have hd := hS.hand [] [0] rfl rfl
 refine m_stp [3, 1, 7] [(1, [], .pointer (some ⟨b1, 0, none⟩)), (7, [], .agg ⟨[.int .u8 v_.Kind, .string ⟨⟨[]⟩⟩, .int .i64 0, .int .u8 0, .int .u8 0, .int .u8 0, .int .u8 0]⟩)] H7 rfl rfl rfl rfl (o_alloc [.int .u8 0, .string ⟨⟨[]⟩⟩, .int .i64 0, .int .u8 0, .int .u8 0, .int .u8 0, .int .u8 0] (z := .agg ⟨[.int .u8 0, .string ⟨⟨[]⟩⟩, .int .i64 0, .int .u8 0, .int .u8 0, .int .u8 0, .int .u8 0]⟩) hd (by kernel_rfl) rfl) (fun _ => rfl) fun _ wd9 v H10 hq => ?_
 clear H7 hd
 obtain ⟨b8, rfl, hq⟩ := hq
 replace hS : SH M X w [Ent.blk b8 [.int .u8 0, .string ⟨⟨[]⟩⟩, .int .i64 0, .int .u8 0, .int .u8 0, .int .u8 0, .int .u8 0], Ent.blk b1 [.int .u8 v_.Kind, .string ⟨⟨v_.Word⟩⟩, .int .i64 v_.Num, .int .u8 v_.Color.Red, .int .u8 v_.Color.Green, .int .u8 v_.Color.Blue, .int .u8 v_.Color.Alpha]] _ := hS.join [] [0] rfl rfl hq
 clear hq
 have hd := hS.hand [0] [1] rfl rfl
 refine m_stp0 [1, 3] [(1, [], .pointer (some ⟨b1, 0, none⟩)), (3, [], .pointer (some ⟨b8, 0, none⟩))] H10 rfl rfl rfl (o_store [.int .u8 v_.Kind, .string ⟨⟨[]⟩⟩, .int .i64 0, .int .u8 0, .int .u8 0, .int .u8 0, .int .u8 0] H10 hd rfl rfl (by kernel_rfl) rfl rfl rfl) rfl fun _ wd11 H12 hq => ?_
 clear H10 hd
 obtain ⟨_, hq⟩ := hq
 replace hS : SH M X w [Ent.blk b8 [.int .u8 v_.Kind, .string ⟨⟨[]⟩⟩, .int .i64 0, .int .u8 0, .int .u8 0, .int .u8 0, .int .u8 0], Ent.blk b1 [.int .u8 v_.Kind, .string ⟨⟨v_.Word⟩⟩, .int .i64 v_.Num, .int .u8 v_.Color.Red, .int .u8 v_.Color.Green, .int .u8 v_.Color.Blue, .int .u8 v_.Color.Alpha]] _ := hS.join [0] [1] rfl rfl hq
 clear hq
 refine wl_end rfl ?_
 refine s_reg [] [1, 3, 4] [(1, [], .pointer (some ⟨b1, 0, none⟩)), (3, [], .pointer (some ⟨b8, 0, none⟩)), (4, [], .int .i64 1000000000000)] [] H12 (by kernel_rfl) trivial fun _ wd13 H14 hb => ?_
 clear H12
 replace hS := hS.below hb
 clear hb
 obtain ⟨z15, hz, hm_z15⟩ := bindE hm
 refine w_cut (fun a' w' => ∃ s_z15 : Str × Int × Int × Int × Int × Int, z15 = Sum.inr s_z15 ∧ Fr 52 [(1, [], .pointer (some ⟨b1, 0, none⟩)), (3, [], .pointer (some ⟨b8, 0, none⟩))] a' ∧ SH M X w [Ent.blk b8 [.int .u8 v_.Kind, .string ⟨⟨s_z15.1⟩⟩, .int .i64 s_z15.2.2.2.2.2, .int .u8 s_z15.2.1, .int .u8 s_z15.2.2.1, .int .u8 s_z15.2.2.2.1, .int .u8 s_z15.2.2.2.2.1], Ent.blk b1 [.int .u8 v_.Kind, .string ⟨⟨v_.Word⟩⟩, .int .i64 v_.Num, .int .u8 v_.Color.Red, .int .u8 v_.Color.Green, .int .u8 v_.Color.Blue, .int .u8 v_.Color.Alpha]] w') ?_ ?_
 ·replace hm := hz
  refine s_reg [(.int .u8 v_.Kind)] [1, 3, 4, 9] [(1, [], .pointer (some ⟨b1, 0, none⟩)), (3, [], .pointer (some ⟨b8, 0, none⟩)), (4, [], .int .i64 1000000000000), (9, [], .int .u8 v_.Kind)] [fun wz => V.at1 ⟨b1, 0, none⟩ (.int .u8 v_.Kind) wz] H14 (by kernel_rfl) ⟨((hS.bk 1 rfl).at1 rfl), trivial⟩ fun _ wd16 H17 hb => ?_
  clear H14
  replace hS := hS.below hb
  clear hb
  refine w_block ?_
  refine w_seq ?_
  refine w_block ?_
  refine w_seq ?_
  refine w_block ?_
  refine w_seq ?_
  refine w_block ?_
  obtain ⟨z18, hz, hm_z18⟩ := bindE hm
  refine w_cut (fun a' w' => ∃ s_z18 : Int, z18 = Sum.inr s_z18 ∧ Fr 52 [(1, [], .pointer (some ⟨b1, 0, none⟩)), (3, [], .pointer (some ⟨b8, 0, none⟩)), (4, [], .int .i64 s_z18)] a' ∧ SH M X w [Ent.blk b8 [.int .u8 v_.Kind, .string ⟨⟨[]⟩⟩, .int .i64 0, .int .u8 0, .int .u8 0, .int .u8 0, .int .u8 0], Ent.blk b1 [.int .u8 v_.Kind, .string ⟨⟨v_.Word⟩⟩, .int .i64 v_.Num, .int .u8 v_.Color.Red, .int .u8 v_.Color.Green, .int .u8 v_.Color.Blue, .int .u8 v_.Color.Alpha]] w') ?_ ?_
  ·replace hm := hz
   refine w_block ?_
   refine w_seq ?_
   refine w_block ?_
   refine w_seq ?_
   refine w_block ?_
   refine w_seq ?_
   refine w_seq ?_
   refine s_reg [] [1, 3, 4, 9, 10] [(1, [], .pointer (some ⟨b1, 0, none⟩)), (3, [], .pointer (some ⟨b8, 0, none⟩)), (4, [], .int .i64 1000000000000), (9, [], .int .u8 v_.Kind), (10, [], .bool (v_.Kind == 1))] [] H17 (by kernel_rfl) trivial fun _ wd19 H20 hb => ?_
   clear H17
   replace hS := hS.below hb
   clear hb
   refine w_if H20 rfl (fun hc => ?c60) (fun hc => ?_)
   case c60 =>
    replace hm := bT hc hm
    refine w_exit rfl ?_
    refine w_seq ?_
    refine wl_start ?_
    refine wl_batch 0 3 [(.string ⟨⟨v_.Word⟩⟩)] [1, 3, 24, 25] [(1, [], .pointer (some ⟨b1, 0, none⟩)), (3, [], .pointer (some ⟨b8, 0, none⟩)), (24, [], .string ⟨⟨v_.Word⟩⟩), (25, [], .pointer (some ⟨b8, 1, none⟩))] [fun wz => V.at1 ⟨b1, 1, none⟩ (.string ⟨⟨v_.Word⟩⟩) wz] H20 (by decide) (by kernel_rfl) ⟨((hS.bk 1 rfl).at1 rfl), trivial⟩ fun _ wd21 H22 hb => ?_
    clear H20
    replace hS := hS.below hb
    clear hb
    have hd := hS.hand [0] [1] rfl rfl
    refine m_stp0 [1, 3] [(1, [], .pointer (some ⟨b1, 0, none⟩)), (3, [], .pointer (some ⟨b8, 0, none⟩))] H22 rfl rfl rfl (o_store [.int .u8 v_.Kind, .string ⟨⟨v_.Word⟩⟩, .int .i64 0, .int .u8 0, .int .u8 0, .int .u8 0, .int .u8 0] H22 hd rfl rfl (by kernel_rfl) rfl rfl rfl) rfl fun _ wd23 H24 hq => ?_
    clear H22 hd
    obtain ⟨_, hq⟩ := hq
    replace hS : SH M X w [Ent.blk b8 [.int .u8 v_.Kind, .string ⟨⟨v_.Word⟩⟩, .int .i64 0, .int .u8 0, .int .u8 0, .int .u8 0, .int .u8 0], Ent.blk b1 [.int .u8 v_.Kind, .string ⟨⟨v_.Word⟩⟩, .int .i64 v_.Num, .int .u8 v_.Color.Red, .int .u8 v_.Color.Green, .int .u8 v_.Color.Blue, .int .u8 v_.Color.Alpha]] _ := hS.join [0] [1] rfl rfl hq
    clear hq
    refine wl_end rfl ?_
    refine w_exit rfl ?_
    obtain ⟨r25, hr_r25, hm⟩ := bindE hm
    obtain rfl := someE hm
    have hm := hm_z18
    obtain rfl := someE hm
    have hm := hr_r25
    clear hr_r25
    obtain rfl := someE hm
    exact ⟨_, rfl, FrG.keep (ks := [1, 3]) H24 (by kernel_rfl), hS⟩
   replace hm := bF hc hm
   refine w_skip ?_
   refine w_seq ?_
   refine s_reg [] [1, 3, 4, 9, 12] [(1, [], .pointer (some ⟨b1, 0, none⟩)), (3, [], .pointer (some ⟨b8, 0, none⟩)), (4, [], .int .i64 1000000000000), (9, [], .int .u8 v_.Kind), (12, [], .bool (v_.Kind == 6))] [] H20 (by kernel_rfl) trivial fun _ wd26 H27 hb => ?_
   clear H20
   replace hS := hS.below hb
   clear hb
   refine w_if H27 rfl (fun hc => ?c59) (fun hc => ?_)
   case c59 =>
    replace hm := bT hc hm
    refine w_exit rfl ?_
    refine w_reg [] [1, 3, 4] [(1, [], .pointer (some ⟨b1, 0, none⟩)), (3, [], .pointer (some ⟨b8, 0, none⟩)), (4, [], .int .i64 (w64 (Int.tdiv 1000000000000 1000)))] [fun _ => (1000 : Int) ≠ 0] H27 (by kernel_rfl) ⟨(by show (1000 : Int) ≠ 0; decide), trivial⟩ fun _ wd28 H29 hb => ?_
    clear H27
    replace hS := hS.below hb
    clear hb
    obtain rfl := someE hm
    exact ⟨_, rfl, FrG.keep (ks := [1, 3, 4]) H29 (by kernel_rfl), hS⟩
   replace hm := bF hc hm
   refine w_skip ?_
   refine w_seq ?_
   obtain ⟨z30, hz, hm⟩ := bindE hm
   refine w_cut (fun a' w' => Fr 52 [(1, [], .pointer (some ⟨b1, 0, none⟩)), (3, [], .pointer (some ⟨b8, 0, none⟩)), (4, [], .int .i64 1000000000000), (9, [], .int .u8 v_.Kind), (14, [], .bool z30)] a' ∧ SH M X w [Ent.blk b8 [.int .u8 v_.Kind, .string ⟨⟨[]⟩⟩, .int .i64 0, .int .u8 0, .int .u8 0, .int .u8 0, .int .u8 0], Ent.blk b1 [.int .u8 v_.Kind, .string ⟨⟨v_.Word⟩⟩, .int .i64 v_.Num, .int .u8 v_.Color.Red, .int .u8 v_.Color.Green, .int .u8 v_.Color.Blue, .int .u8 v_.Color.Alpha]] w') ?_ ?_
   ·replace hm := hz
    refine s_reg [] [1, 3, 4, 9, 14] [(1, [], .pointer (some ⟨b1, 0, none⟩)), (3, [], .pointer (some ⟨b8, 0, none⟩)), (4, [], .int .i64 1000000000000), (9, [], .int .u8 v_.Kind), (14, [], .bool (v_.Kind == 2))] [] H27 (by kernel_rfl) trivial fun _ wd31 H32 hb => ?_
    clear H27
    replace hS := hS.below hb
    clear hb
    refine w_if H32 rfl (fun hc => ?c41) (fun hc => ?_)
    case c41 =>
     replace hm := bT hc hm
     refine w_skip ?_
     obtain rfl := someE hm
     exact ⟨FrG.keep (ks := [1, 3, 4, 9, 14]) H32 (by kernel_rfl), hS⟩
    replace hm := bF hc hm
    refine s_reg [] [1, 3, 4, 9, 14] [(1, [], .pointer (some ⟨b1, 0, none⟩)), (3, [], .pointer (some ⟨b8, 0, none⟩)), (4, [], .int .i64 1000000000000), (9, [], .int .u8 v_.Kind), (14, [], .bool (v_.Kind == 3))] [] H32 (by kernel_rfl) trivial fun _ wd33 H34 hb => ?_
    clear H32
    replace hS := hS.below hb
    clear hb
    refine w_if H34 rfl (fun hc => ?c40) (fun hc => ?_)
    case c40 =>
     replace hm := bT hc hm
     refine w_skip ?_
     obtain rfl := someE hm
     exact ⟨FrG.keep (ks := [1, 3, 4, 9, 14]) H34 (by kernel_rfl), hS⟩
    replace hm := bF hc hm
    refine s_reg [] [1, 3, 4, 9, 14] [(1, [], .pointer (some ⟨b1, 0, none⟩)), (3, [], .pointer (some ⟨b8, 0, none⟩)), (4, [], .int .i64 1000000000000), (9, [], .int .u8 v_.Kind), (14, [], .bool (v_.Kind == 4))] [] H34 (by kernel_rfl) trivial fun _ wd35 H36 hb => ?_
    clear H34
    replace hS := hS.below hb
    clear hb
    refine w_if H36 rfl (fun hc => ?c39) (fun hc => ?_)
    case c39 =>
     replace hm := bT hc hm
     refine w_skip ?_
     obtain rfl := someE hm
     exact ⟨FrG.keep (ks := [1, 3, 4, 9, 14]) H36 (by kernel_rfl), hS⟩
    replace hm := bF hc hm
    refine w_reg [] [1, 3, 4, 9, 14] [(1, [], .pointer (some ⟨b1, 0, none⟩)), (3, [], .pointer (some ⟨b8, 0, none⟩)), (4, [], .int .i64 1000000000000), (9, [], .int .u8 v_.Kind), (14, [], .bool (v_.Kind == 5))] [] H36 (by kernel_rfl) trivial fun _ wd37 H38 hb => ?_
    clear H36
    replace hS := hS.below hb
    clear hb
    obtain rfl := someE hm
    exact ⟨FrG.keep (ks := [1, 3, 4, 9, 14]) H38 (by kernel_rfl), hS⟩
   ·rintro _ wd58 ⟨H, hS⟩
    refine w_if H rfl (fun hc => ?c57) (fun hc => ?_)
    case c57 =>
     replace hm := bT hc hm
     refine w_exit rfl ?_
     obtain rfl := someE hm
     exact ⟨_, rfl, FrG.keep (ks := [1, 3, 4]) H (by kernel_rfl), hS⟩
    replace hm := bF hc hm
    refine w_skip ?_
    refine w_seq ?_
    refine s_reg [] [1, 3, 9, 19] [(1, [], .pointer (some ⟨b1, 0, none⟩)), (3, [], .pointer (some ⟨b8, 0, none⟩)), (9, [], .int .u8 v_.Kind), (19, [], .bool (v_.Kind == 7))] [] H (by kernel_rfl) trivial fun _ wd42 H43 hb => ?_
    clear H
    replace hS := hS.below hb
    clear hb
    refine w_if H43 rfl (fun hc => ?c56) (fun hc => ?_)
    case c56 =>
     replace hm := bT hc hm
     refine w_exit rfl ?_
     obtain ⟨r48, hr_r48, hm⟩ := bindE hm
     obtain rfl := someE hm
     have hm := hm_z18
     obtain rfl := someE hm
     have hm := hr_r48
     clear hr_r48
     refine w_seq ?_
     refine wl_start ?_
     refine wl_batch 0 3 [(.agg ⟨[.int .u8 v_.Color.Red, .int .u8 v_.Color.Green, .int .u8 v_.Color.Blue, .int .u8 v_.Color.Alpha]⟩)] [1, 3, 37, 38] [(1, [], .pointer (some ⟨b1, 0, none⟩)), (3, [], .pointer (some ⟨b8, 0, none⟩)), (37, [], .agg ⟨[.int .u8 v_.Color.Red, .int .u8 v_.Color.Green, .int .u8 v_.Color.Blue, .int .u8 v_.Color.Alpha]⟩), (38, [], .pointer (some ⟨b8, 3, none⟩))] [fun wz => V.atN b1 3 [.int .u8 v_.Color.Red, .int .u8 v_.Color.Green, .int .u8 v_.Color.Blue, .int .u8 v_.Color.Alpha] 0 wz] H43 (by decide) (by kernel_rfl) ⟨((hS.bk 1 rfl).atD rfl), trivial⟩ fun _ wd44 H45 hb => ?_
     clear H43
     replace hS := hS.below hb
     clear hb
     have hd := hS.hand [0] [1] rfl rfl
     refine m_stp0 [1, 3] [(1, [], .pointer (some ⟨b1, 0, none⟩)), (3, [], .pointer (some ⟨b8, 0, none⟩))] H45 rfl rfl rfl (o_store [.int .u8 v_.Kind, .string ⟨⟨[]⟩⟩, .int .i64 0, .int .u8 v_.Color.Red, .int .u8 v_.Color.Green, .int .u8 v_.Color.Blue, .int .u8 v_.Color.Alpha] H45 hd rfl rfl (by kernel_rfl) rfl rfl rfl) rfl fun _ wd46 H47 hq => ?_
     clear H45 hd
     obtain ⟨_, hq⟩ := hq
     replace hS : SH M X w [Ent.blk b8 [.int .u8 v_.Kind, .string ⟨⟨[]⟩⟩, .int .i64 0, .int .u8 v_.Color.Red, .int .u8 v_.Color.Green, .int .u8 v_.Color.Blue, .int .u8 v_.Color.Alpha], Ent.blk b1 [.int .u8 v_.Kind, .string ⟨⟨v_.Word⟩⟩, .int .i64 v_.Num, .int .u8 v_.Color.Red, .int .u8 v_.Color.Green, .int .u8 v_.Color.Blue, .int .u8 v_.Color.Alpha]] _ := hS.join [0] [1] rfl rfl hq
     clear hq
     refine wl_end rfl ?_
     refine w_exit rfl ?_
     obtain rfl := someE hm
     exact ⟨_, rfl, FrG.keep (ks := [1, 3]) H47 (by kernel_rfl), hS⟩
    replace hm := bF hc hm
    refine w_skip ?_
    refine s_reg [] [1, 3, 21] [(1, [], .pointer (some ⟨b1, 0, none⟩)), (3, [], .pointer (some ⟨b8, 0, none⟩)), (21, [], .bool (v_.Kind == 8))] [] H43 (by kernel_rfl) trivial fun _ wd49 H50 hb => ?_
    clear H43
    replace hS := hS.below hb
    clear hb
    refine w_if H50 rfl (fun hc => ?c55) (fun hc => ?_)
    case c55 =>
     replace hm := bT hc hm
     refine w_exit rfl ?_
     obtain ⟨r51, hr_r51, hm⟩ := bindE hm
     obtain rfl := someE hm
     have hm := hm_z18
     obtain rfl := someE hm
     have hm := hr_r51
     clear hr_r51
     refine w_exit rfl ?_
     obtain rfl := someE hm
     exact ⟨_, rfl, FrG.keep (ks := [1, 3]) H50 (by kernel_rfl), hS⟩
    replace hm := bF hc hm
    refine w_skip ?_
    refine w_exit rfl ?_
    obtain ⟨r54, hr_r54, hm⟩ := bindE hm
    obtain rfl := someE hm
    have hm := hm_z18
    obtain rfl := someE hm
    have hm := hr_r54
    clear hr_r54
    refine w_seq ?_
    refine s_reg [] [2] [(2, [], .int .i64 8)] [] H50 (by kernel_rfl) trivial fun _ wd52 H53 hb => ?_
    clear H50
    replace hS := hS.below hb
    clear hb
    refine w_ret ?_
    obtain rfl := someE hm
    have hm := hm_z15
    obtain rfl := someE hm
    exact retR1 H53 rfl rfl ⟨_, rfl, rfl, (hS.sel [] rfl)⟩
  ·rintro _ wd66 ⟨s_z18, hz, H, hS⟩
   subst hz
   replace hm := sumR hm_z18
   refine w_seq ?_
   refine wl_start ?_
   obtain ⟨x61, hx61, hm⟩ := letE hm
   refine wl_batch 0 8 [(.int .i64 v_.Num)] [1, 3, 34, 35] [(1, [], .pointer (some ⟨b1, 0, none⟩)), (3, [], .pointer (some ⟨b8, 0, none⟩)), (34, [], .int .i64 x61), (35, [], .pointer (some ⟨b8, 2, none⟩))] [fun wz => V.at1 ⟨b1, 2, none⟩ (.int .i64 v_.Num) wz] H (by decide) (by subst hx61; kernel_rfl) ⟨((hS.bk 1 rfl).at1 rfl), trivial⟩ fun _ wd62 H63 hb => ?_
   clear H
   replace hS := hS.below hb
   clear hb
   have hd := hS.hand [0] [1] rfl rfl
   refine m_stp0 [1, 3] [(1, [], .pointer (some ⟨b1, 0, none⟩)), (3, [], .pointer (some ⟨b8, 0, none⟩))] H63 rfl rfl rfl (o_store [.int .u8 v_.Kind, .string ⟨⟨[]⟩⟩, .int .i64 x61, .int .u8 0, .int .u8 0, .int .u8 0, .int .u8 0] H63 hd rfl rfl (by kernel_rfl) rfl rfl rfl) rfl fun _ wd64 H65 hq => ?_
   clear H63 hd
   obtain ⟨_, hq⟩ := hq
   replace hS : SH M X w [Ent.blk b8 [.int .u8 v_.Kind, .string ⟨⟨[]⟩⟩, .int .i64 x61, .int .u8 0, .int .u8 0, .int .u8 0, .int .u8 0], Ent.blk b1 [.int .u8 v_.Kind, .string ⟨⟨v_.Word⟩⟩, .int .i64 v_.Num, .int .u8 v_.Color.Red, .int .u8 v_.Color.Green, .int .u8 v_.Color.Blue, .int .u8 v_.Color.Alpha]] _ := hS.join [0] [1] rfl rfl hq
   clear hq
   refine wl_end rfl ?_
   refine w_exit rfl ?_
   obtain rfl := someE hm
   exact ⟨_, rfl, FrG.keep (ks := [1, 3]) H65 (by kernel_rfl), hS⟩
 ·rintro _ wd76 ⟨s_z15, hz, H, hS⟩
  subst hz
  replace hm := sumR hm_z15
  refine w_seq ?_
  obtain ⟨x67, hx67, hm⟩ := letE hm
  obtain ⟨x68, hx68, hm⟩ := letE hm
  refine s_reg [(.agg ⟨[.int .u8 v_.Kind, .string ⟨⟨v_.Word⟩⟩, .int .i64 v_.Num, .int .u8 v_.Color.Red, .int .u8 v_.Color.Green, .int .u8 v_.Color.Blue, .int .u8 v_.Color.Alpha]⟩), (.agg ⟨[.int .u8 v_.Kind, .string ⟨⟨s_z15.1⟩⟩, .int .i64 s_z15.2.2.2.2.2, .int .u8 s_z15.2.1, .int .u8 s_z15.2.2.1, .int .u8 s_z15.2.2.2.1, .int .u8 s_z15.2.2.2.2.1]⟩), (.int .u8 v_.Kind), (.string ⟨⟨v_.Word⟩⟩)] [51] [(51, [], .bool x68)] [fun wz => V.atN b1 0 [.int .u8 v_.Kind, .string ⟨⟨v_.Word⟩⟩, .int .i64 v_.Num, .int .u8 v_.Color.Red, .int .u8 v_.Color.Green, .int .u8 v_.Color.Blue, .int .u8 v_.Color.Alpha] 0 wz, fun wz => V.atN b8 0 [.int .u8 v_.Kind, .string ⟨⟨s_z15.1⟩⟩, .int .i64 s_z15.2.2.2.2.2, .int .u8 s_z15.2.1, .int .u8 s_z15.2.2.1, .int .u8 s_z15.2.2.2.1, .int .u8 s_z15.2.2.2.2.1] 0 wz, fun wz => (x67 = false ∧ True → V.at1 ⟨b1, 0, none⟩ (.int .u8 v_.Kind) wz), fun wz => ((v_.Kind == 1) = true ∧ x67 = false ∧ True → V.at1 ⟨b1, 1, none⟩ (.string ⟨⟨v_.Word⟩⟩) wz)] H (by subst hx67 hx68; kernel_rfl) ⟨((hS.bk 1 rfl).atD rfl), ((hS.bk 0 rfl).atD rfl), fun hg => (hS.bk 1 rfl).at1 rfl, fun hg => (hS.bk 1 rfl).at1 rfl, trivial⟩ fun _ wd69 H70 hb => ?_
  clear H
  replace hS := hS.below hb
  clear hb
  replace hS : SH M X w [] _ := hS.sel [] rfl
  refine w_if H70 rfl (fun hc => ?c75) (fun hc => ?_)
  case c75 =>
   replace hm := bT hc hm
   refine s_reg [] [2] [(2, [], .int .i64 8)] [] H70 (by kernel_rfl) trivial fun _ wd71 H72 hb => ?_
   clear H70
   replace hS := hS.below hb
   clear hb
   refine w_ret ?_
   obtain rfl := someE hm
   exact retR1 H72 rfl rfl ⟨_, rfl, rfl, (hS.sel [] rfl)⟩
  replace hm := bF hc hm
  refine w_skip ?_
  refine s_reg [] [2] [(2, [], .int .i64 0)] [] H70 (by kernel_rfl) trivial fun _ wd73 H74 hb => ?_
  clear H70
  replace hS := hS.below hb
  clear hb
  refine w_ret ?_
  obtain rfl := someE hm
  exact retR1 H74 rfl rfl ⟨_, rfl, rfl, (hS.sel [] rfl)⟩
theorem props_Check_ok  (v_ : TVal) (r : Int) (hm : props_Check v_ = some r) : Ret Tryd.prog 17 ⟨[.agg ⟨[.int .u8 v_.Kind, .string ⟨⟨v_.Word⟩⟩, .int .i64 v_.Num, .int .u8 v_.Color.Red, .int .u8 v_.Color.Green, .int .u8 v_.Color.Blue, .int .u8 v_.Color.Alpha]⟩]⟩ (.int .i64 r) := retP_of (Tryd.call17 _) (fun w h => props_Check_w F0   v_ r hm w h)

def slices_Index_string_string_L1 (m : Nat) (s : List Str) (v_ : Str) : Nat → Int → Option (Sum (Int) (Unit))
  | 0, _ => none
  | kk + 1, v6 =>
    cond (decide (v6 < (ln s))) (
    chk (0 ≤ v6 ∧ v6 < ln s) <|
    cond (v_ == (gi s v6)) (
    some (.inl v6)) (
    slices_Index_string_string_L1 m s v_ kk (w64 (v6 + 1)))) (
    some (.inr ()))
def slices_Index_string_string (m : Nat) (s : List Str) (v_ : Str) : Option (Int) :=
  Option.bind (
  slices_Index_string_string_L1 m s v_ m 0) fun (z3 : Sum (Int) (Unit)) => sumK z3 fun s_z3 =>
  some (-1)
theorem slices_Index_string_string_w {g_s : Gh} (M : Av) (m : Nat) (s : List Str) (v_ : Str) (r : Int) (hm : slices_Index_string_string m s v_ = some r) (w : World) (hS : S0 M [Ent.im tS s g_s] w) : Calls Tryd.prog 37 ⟨[.slice g_s.a s.length g_s.c, .string ⟨⟨v_⟩⟩]⟩ w (fun e w' => ∃ v, e = .returned v ∧ v = .int .i64 r ∧ SH M (fpl [Ent.im tS s g_s]) w [] w') := by
 rw [slices_Index_string_string] at hm
 have hS0 : SH M (fpl [Ent.im tS s g_s]) w [Ent.im tS s g_s] w := hS
 generalize hX : fpl [Ent.im tS s g_s] = X at hS0 ⊢
 clear hS hX
 have hS := hS0
 clear hS0
 refine calls_entryP Tryd.func37 rfl Tryd.ntmps37 rfl fun _ H => ?_
 refine s_reg [] [0, 1] [(0, [], .slice g_s.a s.length g_s.c), (1, [], .string ⟨⟨v_⟩⟩)] [] H (by kernel_rfl) trivial fun _ wd1 H2 hb => ?_
 clear H
 replace hS := hS.below hb
 clear hb
 obtain ⟨z3, hz, hm_z3⟩ := bindE hm
 refine w_cut (fun a' w' => ∃ s_z3 : Unit, z3 = Sum.inr s_z3 ∧ Fr 19 [] a' ∧ SH M X w [Ent.im tS s g_s] w') ?_ ?_
 ·replace hm := hz
  refine s_reg [] [0, 1, 7, 8] [(0, [], .slice g_s.a s.length g_s.c), (1, [], .string ⟨⟨v_⟩⟩), (7, [], .int .i64 (ln s)), (8, [], .int .i64 0)] [] H2 (by kernel_rfl) trivial fun _ wd4 H5 hb => ?_
  clear H2
  replace hS := hS.below hb
  clear hb
  refine w_block ?_
  refine w_loop (fun kk a' w' => ∃ (v6 : Int), slices_Index_string_string_L1 m s v_ kk v6 = some _ ∧ Fr 19 [(0, [], .slice g_s.a s.length g_s.c), (1, [], .string ⟨⟨v_⟩⟩), (7, [], .int .i64 (ln s)), (8, [], .int .i64 v6)] a' ∧ SH M X w [Ent.im tS s g_s] w') ⟨_, 0, hm, FrG.keep (ks := [0, 1, 7, 8]) H5 (by kernel_rfl), hS⟩ ?_
  clear hm H5 hS
  rintro kk _ wd20 ⟨v6, hm, H, hS⟩
  cases kk with
  | zero => exact noneE hm
  | succ kk =>
   rw [slices_Index_string_string_L1] at hm
   refine s_reg [] [0, 1, 7, 8, 9] [(0, [], .slice g_s.a s.length g_s.c), (1, [], .string ⟨⟨v_⟩⟩), (7, [], .int .i64 (ln s)), (8, [], .int .i64 v6), (9, [], .bool (decide (v6 < (ln s))))] [] H (by kernel_rfl) trivial fun _ wd7 H8 hb => ?_
   clear H
   replace hS := hS.below hb
   clear hb
   refine w_seq ?_
   refine w_if H8 rfl (fun hc => ?_) (fun hc => ?c19)
   case c19 =>
    replace hm := bF hc hm
    refine w_exit rfl ?_
    obtain rfl := someE hm
    exact ⟨_, rfl, FrG.keep (ks := []) H8 (by kernel_rfl), hS⟩
   replace hm := bT hc hm
   refine w_skip ?_
   refine w_seq ?_
   refine w_block ?_
   refine s_reg [] [0, 1, 5, 7, 8] [(0, [], .slice g_s.a s.length g_s.c), (1, [], .string ⟨⟨v_⟩⟩), (5, [], .int .i64 v6), (7, [], .int .i64 (ln s)), (8, [], .int .i64 v6)] [] H8 (by kernel_rfl) trivial fun _ wd9 H10 hb => ?_
   clear H8
   replace hS := hS.below hb
   clear hb
   obtain ⟨ho11, hm⟩ := chkE hm
   refine s_reg [(.string ⟨⟨(gi s v6)⟩⟩)] [0, 1, 5, 7, 8, 16] [(0, [], .slice g_s.a s.length g_s.c), (1, [], .string ⟨⟨v_⟩⟩), (5, [], .int .i64 v6), (7, [], .int .i64 (ln s)), (8, [], .int .i64 v6), (16, [], .bool (v_ == (gi s v6)))] [fun _ => oka g_s.a ∧ 0 ≤ v6 ∧ v6 < ln s, fun wz => V.at1 ⟨ab g_s.a, ao g_s.a + (v6).toNat * 1, none⟩ (.string ⟨⟨(gi s v6)⟩⟩) wz] H10 (by kernel_rfl) ⟨((hS.im 0 rfl).oki ho11), ((hS.im 0 rfl).at1 ho11 0 rfl), trivial⟩ fun _ wd12 H13 hb => ?_
   clear H10
   replace hS := hS.below hb
   clear hb
   refine w_if H13 rfl (fun hc => ?_) (fun hc => ?c18)
   case c18 =>
    replace hm := bF hc hm
    refine w_skip ?_
    refine w_reg [] [0, 1, 7, 8] [(0, [], .slice g_s.a s.length g_s.c), (1, [], .string ⟨⟨v_⟩⟩), (7, [], .int .i64 (ln s)), (8, [], .int .i64 (w64 (v6 + 1)))] [] H13 (by kernel_rfl) trivial fun _ wd16 H17 hb => ?_
    clear H13
    replace hS := hS.below hb
    clear hb
    exact ⟨_, Nat.lt_succ_self _, w64 (v6 + 1), hm, FrG.keep (ks := [0, 1, 7, 8]) H17 (by kernel_rfl), hS⟩
   replace hm := bT hc hm
   refine s_reg [] [4] [(4, [], .int .i64 v6)] [] H13 (by kernel_rfl) trivial fun _ wd14 H15 hb => ?_
   clear H13
   replace hS := hS.below hb
   clear hb
   refine w_ret ?_
   obtain rfl := someE hm
   have hm := hm_z3
   obtain rfl := someE hm
   exact retR1 H15 rfl rfl ⟨_, rfl, rfl, (hS.sel [] rfl)⟩
 ·rintro _ wd23 ⟨s_z3, hz, H, hS⟩
  subst hz
  replace hm := sumR hm_z3
  replace hS : SH M X w [] _ := hS.sel [] rfl
  refine s_reg [] [4] [(4, [], .int .i64 (-1))] [] H (by kernel_rfl) trivial fun _ wd21 H22 hb => ?_
  clear H
  replace hS := hS.below hb
  clear hb
  refine w_ret ?_
  obtain rfl := someE hm
  exact retR1 H22 rfl rfl ⟨_, rfl, rfl, (hS.sel [] rfl)⟩
theorem slices_Index_string_string_ok {g_s : Gh} (m : Nat) (s : List Str) (v_ : Str) (r : Int) (hm : slices_Index_string_string m s v_ = some r) (w : World) (hL : S0 F0 [Ent.im tS s g_s] w ∧ fpl [Ent.im tS s g_s] = []) : RetB Tryd.prog 37 ⟨[.slice g_s.a s.length g_s.c, .string ⟨⟨v_⟩⟩]⟩ (.int .i64 r) w := retB_of hL (Tryd.call37 _) (fun w' h => slices_Index_string_string_w F0 m   s v_ r hm w' h)

def slices_Contains_string_string (m : Nat) (s : List Str) (v_ : Str) : Option (Bool) :=
  Option.bind (slices_Index_string_string m s v_) fun y3 =>
  some (decide (0 ≤ y3))
theorem slices_Contains_string_string_w {g_s : Gh} (M : Av) (m : Nat) (s : List Str) (v_ : Str) (r : Bool) (hm : slices_Contains_string_string m s v_ = some r) (w : World) (hS : S0 M [Ent.im tS s g_s] w) : Calls Tryd.prog 27 ⟨[.slice g_s.a s.length g_s.c, .string ⟨⟨v_⟩⟩]⟩ w (fun e w' => ∃ v, e = .returned v ∧ v = .bool r ∧ SH M (fpl [Ent.im tS s g_s]) w [] w') := by
 rw [slices_Contains_string_string] at hm
 have hS0 : SH M (fpl [Ent.im tS s g_s]) w [Ent.im tS s g_s] w := hS
 generalize hX : fpl [Ent.im tS s g_s] = X at hS0 ⊢
 clear hS hX
 have hS := hS0
 clear hS0
 refine calls_entryP Tryd.func27 rfl Tryd.ntmps27 rfl fun _ H => ?_
 refine s_reg [] [0, 1] [(0, [], .slice g_s.a s.length g_s.c), (1, [], .string ⟨⟨v_⟩⟩)] [] H (by kernel_rfl) trivial fun _ wd1 H2 hb => ?_
 clear H
 replace hS := hS.below hb
 clear hb
 obtain ⟨y3, hy3, hm⟩ := bindE hm
 refine s_reg [(.int .i64 y3)] [4] [(4, [], .bool (decide (0 ≤ y3)))] [fun wz => RetB Tryd.prog 37 ⟨[.slice g_s.a s.length g_s.c, .string ⟨⟨v_⟩⟩]⟩ (.int .i64 y3) wz] H2 (by kernel_rfl) ⟨(slices_Index_string_string_ok (g_s := g_s) m _ _ _ hy3 _ (s0im s0nil (hS.im 0 rfl))), trivial⟩ fun _ wd4 H5 hb => ?_
 clear H2
 replace hS := hS.below hb
 clear hb
 replace hS : SH M X w [] _ := hS.sel [] rfl
 refine w_ret ?_
 obtain rfl := someE hm
 exact retR1 H5 rfl rfl ⟨_, rfl, rfl, (hS.sel [] rfl)⟩
theorem slices_Contains_string_string_ok {g_s : Gh} (m : Nat) (s : List Str) (v_ : Str) (r : Bool) (hm : slices_Contains_string_string m s v_ = some r) (w : World) (hL : S0 F0 [Ent.im tS s g_s] w ∧ fpl [Ent.im tS s g_s] = []) : RetB Tryd.prog 27 ⟨[.slice g_s.a s.length g_s.c, .string ⟨⟨v_⟩⟩]⟩ (.bool r) w := retB_of hL (Tryd.call27 _) (fun w' h => slices_Contains_string_string_w F0 m   s v_ r hm w' h)

def slices_Index_uint8_uint8_L1 (m : Nat) (s : List Int) (v_ : Int) : Nat → Int → Option (Sum (Int) (Unit))
  | 0, _ => none
  | kk + 1, v6 =>
    cond (decide (v6 < (ln s))) (
    chk (0 ≤ v6 ∧ v6 < ln s) <|
    cond (v_ == (gi s v6)) (
    some (.inl v6)) (
    slices_Index_uint8_uint8_L1 m s v_ kk (w64 (v6 + 1)))) (
    some (.inr ()))
def slices_Index_uint8_uint8 (m : Nat) (s : List Int) (v_ : Int) : Option (Int) :=
  Option.bind (
  slices_Index_uint8_uint8_L1 m s v_ m 0) fun (z3 : Sum (Int) (Unit)) => sumK z3 fun s_z3 =>
  some (-1)
theorem slices_Index_uint8_uint8_w {g_s : Gh} (M : Av) (m : Nat) (s : List Int) (v_ : Int) (r : Int) (hm : slices_Index_uint8_uint8 m s v_ = some r) (w : World) (hS : S0 M [Ent.im (tI .u8) s g_s] w) : Calls Tryd.prog 38 ⟨[.slice g_s.a s.length g_s.c, .int .u8 v_]⟩ w (fun e w' => ∃ v, e = .returned v ∧ v = .int .i64 r ∧ SH M (fpl [Ent.im (tI .u8) s g_s]) w [] w') := by
 rw [slices_Index_uint8_uint8] at hm
 have hS0 : SH M (fpl [Ent.im (tI .u8) s g_s]) w [Ent.im (tI .u8) s g_s] w := hS
 generalize hX : fpl [Ent.im (tI .u8) s g_s] = X at hS0 ⊢
 clear hS hX
 have hS := hS0
 clear hS0
 refine calls_entryP Tryd.func38 rfl Tryd.ntmps38 rfl fun _ H => ?_
 refine s_reg [] [0, 1] [(0, [], .slice g_s.a s.length g_s.c), (1, [], .int .u8 v_)] [] H (by kernel_rfl) trivial fun _ wd1 H2 hb => ?_
 clear H
 replace hS := hS.below hb
 clear hb
 obtain ⟨z3, hz, hm_z3⟩ := bindE hm
 refine w_cut (fun a' w' => ∃ s_z3 : Unit, z3 = Sum.inr s_z3 ∧ Fr 19 [] a' ∧ SH M X w [Ent.im (tI .u8) s g_s] w') ?_ ?_
 ·replace hm := hz
  refine s_reg [] [0, 1, 7, 8] [(0, [], .slice g_s.a s.length g_s.c), (1, [], .int .u8 v_), (7, [], .int .i64 (ln s)), (8, [], .int .i64 0)] [] H2 (by kernel_rfl) trivial fun _ wd4 H5 hb => ?_
  clear H2
  replace hS := hS.below hb
  clear hb
  refine w_block ?_
  refine w_loop (fun kk a' w' => ∃ (v6 : Int), slices_Index_uint8_uint8_L1 m s v_ kk v6 = some _ ∧ Fr 19 [(0, [], .slice g_s.a s.length g_s.c), (1, [], .int .u8 v_), (7, [], .int .i64 (ln s)), (8, [], .int .i64 v6)] a' ∧ SH M X w [Ent.im (tI .u8) s g_s] w') ⟨_, 0, hm, FrG.keep (ks := [0, 1, 7, 8]) H5 (by kernel_rfl), hS⟩ ?_
  clear hm H5 hS
  rintro kk _ wd20 ⟨v6, hm, H, hS⟩
  cases kk with
  | zero => exact noneE hm
  | succ kk =>
   rw [slices_Index_uint8_uint8_L1] at hm
   refine s_reg [] [0, 1, 7, 8, 9] [(0, [], .slice g_s.a s.length g_s.c), (1, [], .int .u8 v_), (7, [], .int .i64 (ln s)), (8, [], .int .i64 v6), (9, [], .bool (decide (v6 < (ln s))))] [] H (by kernel_rfl) trivial fun _ wd7 H8 hb => ?_
   clear H
   replace hS := hS.below hb
   clear hb
   refine w_seq ?_
   refine w_if H8 rfl (fun hc => ?_) (fun hc => ?c19)
   case c19 =>
    replace hm := bF hc hm
    refine w_exit rfl ?_
    obtain rfl := someE hm
    exact ⟨_, rfl, FrG.keep (ks := []) H8 (by kernel_rfl), hS⟩
   replace hm := bT hc hm
   refine w_skip ?_
   refine w_seq ?_
   refine w_block ?_
   refine s_reg [] [0, 1, 5, 7, 8] [(0, [], .slice g_s.a s.length g_s.c), (1, [], .int .u8 v_), (5, [], .int .i64 v6), (7, [], .int .i64 (ln s)), (8, [], .int .i64 v6)] [] H8 (by kernel_rfl) trivial fun _ wd9 H10 hb => ?_
   clear H8
   replace hS := hS.below hb
   clear hb
   obtain ⟨ho11, hm⟩ := chkE hm
   refine s_reg [(.int .u8 (gi s v6))] [0, 1, 5, 7, 8, 16] [(0, [], .slice g_s.a s.length g_s.c), (1, [], .int .u8 v_), (5, [], .int .i64 v6), (7, [], .int .i64 (ln s)), (8, [], .int .i64 v6), (16, [], .bool (v_ == (gi s v6)))] [fun _ => oka g_s.a ∧ 0 ≤ v6 ∧ v6 < ln s, fun wz => V.at1 ⟨ab g_s.a, ao g_s.a + (v6).toNat * 1, none⟩ (.int .u8 (gi s v6)) wz] H10 (by kernel_rfl) ⟨((hS.im 0 rfl).oki ho11), ((hS.im 0 rfl).at1 ho11 0 rfl), trivial⟩ fun _ wd12 H13 hb => ?_
   clear H10
   replace hS := hS.below hb
   clear hb
   refine w_if H13 rfl (fun hc => ?_) (fun hc => ?c18)
   case c18 =>
    replace hm := bF hc hm
    refine w_skip ?_
    refine w_reg [] [0, 1, 7, 8] [(0, [], .slice g_s.a s.length g_s.c), (1, [], .int .u8 v_), (7, [], .int .i64 (ln s)), (8, [], .int .i64 (w64 (v6 + 1)))] [] H13 (by kernel_rfl) trivial fun _ wd16 H17 hb => ?_
    clear H13
    replace hS := hS.below hb
    clear hb
    exact ⟨_, Nat.lt_succ_self _, w64 (v6 + 1), hm, FrG.keep (ks := [0, 1, 7, 8]) H17 (by kernel_rfl), hS⟩
   replace hm := bT hc hm
   refine s_reg [] [4] [(4, [], .int .i64 v6)] [] H13 (by kernel_rfl) trivial fun _ wd14 H15 hb => ?_
   clear H13
   replace hS := hS.below hb
   clear hb
   refine w_ret ?_
   obtain rfl := someE hm
   have hm := hm_z3
   obtain rfl := someE hm
   exact retR1 H15 rfl rfl ⟨_, rfl, rfl, (hS.sel [] rfl)⟩
 ·rintro _ wd23 ⟨s_z3, hz, H, hS⟩
  subst hz
  replace hm := sumR hm_z3
  replace hS : SH M X w [] _ := hS.sel [] rfl
  refine s_reg [] [4] [(4, [], .int .i64 (-1))] [] H (by kernel_rfl) trivial fun _ wd21 H22 hb => ?_
  clear H
  replace hS := hS.below hb
  clear hb
  refine w_ret ?_
  obtain rfl := someE hm
  exact retR1 H22 rfl rfl ⟨_, rfl, rfl, (hS.sel [] rfl)⟩
theorem slices_Index_uint8_uint8_ok {g_s : Gh} (m : Nat) (s : List Int) (v_ : Int) (r : Int) (hm : slices_Index_uint8_uint8 m s v_ = some r) (w : World) (hL : S0 F0 [Ent.im (tI .u8) s g_s] w ∧ fpl [Ent.im (tI .u8) s g_s] = []) : RetB Tryd.prog 38 ⟨[.slice g_s.a s.length g_s.c, .int .u8 v_]⟩ (.int .i64 r) w := retB_of hL (Tryd.call38 _) (fun w' h => slices_Index_uint8_uint8_w F0 m   s v_ r hm w' h)

def slices_Contains_uint8_uint8 (m : Nat) (s : List Int) (v_ : Int) : Option (Bool) :=
  Option.bind (slices_Index_uint8_uint8 m s v_) fun y3 =>
  some (decide (0 ≤ y3))
theorem slices_Contains_uint8_uint8_w {g_s : Gh} (M : Av) (m : Nat) (s : List Int) (v_ : Int) (r : Bool) (hm : slices_Contains_uint8_uint8 m s v_ = some r) (w : World) (hS : S0 M [Ent.im (tI .u8) s g_s] w) : Calls Tryd.prog 28 ⟨[.slice g_s.a s.length g_s.c, .int .u8 v_]⟩ w (fun e w' => ∃ v, e = .returned v ∧ v = .bool r ∧ SH M (fpl [Ent.im (tI .u8) s g_s]) w [] w') := by
 rw [slices_Contains_uint8_uint8] at hm
 have hS0 : SH M (fpl [Ent.im (tI .u8) s g_s]) w [Ent.im (tI .u8) s g_s] w := hS
 generalize hX : fpl [Ent.im (tI .u8) s g_s] = X at hS0 ⊢
 clear hS hX
 have hS := hS0
 clear hS0
 refine calls_entryP Tryd.func28 rfl Tryd.ntmps28 rfl fun _ H => ?_
 refine s_reg [] [0, 1] [(0, [], .slice g_s.a s.length g_s.c), (1, [], .int .u8 v_)] [] H (by kernel_rfl) trivial fun _ wd1 H2 hb => ?_
 clear H
 replace hS := hS.below hb
 clear hb
 obtain ⟨y3, hy3, hm⟩ := bindE hm
 refine s_reg [(.int .i64 y3)] [4] [(4, [], .bool (decide (0 ≤ y3)))] [fun wz => RetB Tryd.prog 38 ⟨[.slice g_s.a s.length g_s.c, .int .u8 v_]⟩ (.int .i64 y3) wz] H2 (by kernel_rfl) ⟨(slices_Index_uint8_uint8_ok (g_s := g_s) m _ _ _ hy3 _ (s0im s0nil (hS.im 0 rfl))), trivial⟩ fun _ wd4 H5 hb => ?_
 clear H2
 replace hS := hS.below hb
 clear hb
 replace hS : SH M X w [] _ := hS.sel [] rfl
 refine w_ret ?_
 obtain rfl := someE hm
 exact retR1 H5 rfl rfl ⟨_, rfl, rfl, (hS.sel [] rfl)⟩
theorem slices_Contains_uint8_uint8_ok {g_s : Gh} (m : Nat) (s : List Int) (v_ : Int) (r : Bool) (hm : slices_Contains_uint8_uint8 m s v_ = some r) (w : World) (hL : S0 F0 [Ent.im (tI .u8) s g_s] w ∧ fpl [Ent.im (tI .u8) s g_s] = []) : RetB Tryd.prog 28 ⟨[.slice g_s.a s.length g_s.c, .int .u8 v_]⟩ (.bool r) w := retB_of hL (Tryd.call28 _) (fun w' h => slices_Contains_uint8_uint8_w F0 m   s v_ r hm w' h)

def props_Has (m : Nat) (prop : Int) (v_ : TVal) : Option (Bool × Int) :=
  lt (cond (decide (prop < 0)) true (decide (18 ≤ prop))) fun x6 =>
  cond x6 (
  some (false, 2)) (
  Option.bind (props_Table m) fun y11 =>
  chk (0 ≤ prop ∧ prop < ln y11) <|
  Option.bind (props_Check v_) fun y24 =>
  cond (y24 != 0) (
  some (false, 0)) (
  cond (v_.Kind == 1) (
  Option.bind (slices_Contains_string_string m ((gi y11 prop).Words) v_.Word) fun y31 =>
  some (y31, 0)) (
  Option.bind (slices_Contains_uint8_uint8 m ((gi y11 prop).Kinds) v_.Kind) fun y34 =>
  lt (cond y34 (cond (!((gi y11 prop).Least)) true (decide (0 ≤ v_.Num))) false) fun x35 =>
  some (x35, 0))))
theorem props_Has_w  (M : Av) (m : Nat) (prop : Int) (v_ : TVal) (r : Bool × Int) (hm : props_Has m prop v_ = some r) (w : World) (hS : S0 M [gE0] w) : Calls Tryd.prog 13 ⟨[.int .i64 prop, .agg ⟨[.int .u8 v_.Kind, .string ⟨⟨v_.Word⟩⟩, .int .i64 v_.Num, .int .u8 v_.Color.Red, .int .u8 v_.Color.Green, .int .u8 v_.Color.Blue, .int .u8 v_.Color.Alpha]⟩]⟩ w (fun e w' => ∃ v, e = .returned v ∧ v = .tuple ⟨[.bool r.1, .int .i64 r.2]⟩ ∧ SH M (fpl [gE0]) w [] w') := by
 rw [props_Has] at hm
 have hS0 : SH M (fpl [gE0]) w [gE0] w := hS
 generalize hX : fpl [gE0] = X at hS0 ⊢
 clear hS hX
 have hS := hS0
 clear hS0
 refine calls_entryP Tryd.func13 rfl Tryd.ntmps13 rfl fun _ H => ?_
 refine w_seq ?_
 refine wl_start ?_
 have hd := hS.hand [] [0] rfl rfl
 refine m_stp [3, 0] [(0, [], .int .i64 prop)] H rfl rfl rfl rfl (o_box [.int .u8 v_.Kind, .string ⟨⟨v_.Word⟩⟩, .int .i64 v_.Num, .int .u8 v_.Color.Red, .int .u8 v_.Color.Green, .int .u8 v_.Color.Blue, .int .u8 v_.Color.Alpha] H hd rfl rfl) (fun _ => rfl) fun _ wd2 v H3 hq => ?_
 clear H hd
 obtain ⟨b1, rfl, hq⟩ := hq
 replace hS : SH M X w [Ent.blk b1 [.int .u8 v_.Kind, .string ⟨⟨v_.Word⟩⟩, .int .i64 v_.Num, .int .u8 v_.Color.Red, .int .u8 v_.Color.Green, .int .u8 v_.Color.Blue, .int .u8 v_.Color.Alpha], gE0] _ := hS.join [] [0] rfl rfl hq
 clear hq
 refine wl_batch 1 3 [] [0, 3] [(0, [], .int .i64 prop), (3, [], .pointer (some ⟨b1, 0, none⟩))] [] H3 (by decide) (by kernel_rfl) trivial fun _ wd4 H5 hb => ?_
 clear H3
 replace hS := hS.below hb
 clear hb
 refine wl_end rfl ?_
 refine w_seq ?_
 obtain ⟨x6, hx6, hm⟩ := letE hm
 refine s_reg [] [0, 3, 12] [(0, [], .int .i64 prop), (3, [], .pointer (some ⟨b1, 0, none⟩)), (12, [], .bool x6)] [] H5 (by subst hx6; kernel_rfl) trivial fun _ wd7 H8 hb => ?_
 clear H5
 replace hS := hS.below hb
 clear hb
 refine w_if H8 rfl (fun hc => ?c40) (fun hc => ?_)
 case c40 =>
  replace hm := bT hc hm
  refine s_reg [] [4, 5] [(4, [], .bool false), (5, [], .int .i64 2)] [] H8 (by kernel_rfl) trivial fun _ wd9 H10 hb => ?_
  clear H8
  replace hS := hS.below hb
  clear hb
  replace hS : SH M X w [gE0] _ := hS.sel [1] rfl
  refine w_ret ?_
  obtain rfl := someE hm
  exact retR2 H10 rfl rfl rfl ⟨_, rfl, rfl, (hS.sel [] rfl)⟩
 replace hm := bF hc hm
 refine w_skip ?_
 refine w_seq ?_
 refine wl_start ?_
 obtain ⟨y11, hy11, hm⟩ := bindE hm
 have hd := hS.hand [1] [0, 1] rfl rfl
 refine m_stp [13, 0, 3] [(0, [], .int .i64 prop), (3, [], .pointer (some ⟨b1, 0, none⟩))] H8 rfl rfl rfl rfl (o_callx H8 rfl rfl (props_Table_ok m _ hy11 _ _ hd)) (fun _ => rfl) fun _ wd14 v H15 hq => ?_
 clear H8 hd
 obtain ⟨g12, rfl, hq⟩ := hq
 replace hS : SH M X w [Ent.own 51 tyProp y11 g12, Ent.blk b1 [.int .u8 v_.Kind, .string ⟨⟨v_.Word⟩⟩, .int .i64 v_.Num, .int .u8 v_.Color.Red, .int .u8 v_.Color.Green, .int .u8 v_.Color.Blue, .int .u8 v_.Color.Alpha], gE0] _ := hS.join [1] [0, 1] rfl rfl hq
 clear hq
 obtain ⟨ho16, hm⟩ := chkE hm
 refine wl_batch 1 4 [(.agg ⟨[.string ⟨⟨(gi y11 prop).Name⟩⟩, .bool ((gi y11 prop).Inherited), .int .u8 ((gi y11 prop).Initial.Kind), .string ⟨⟨(gi y11 prop).Initial.Word⟩⟩, .int .i64 ((gi y11 prop).Initial.Num), .int .u8 ((gi y11 prop).Initial.Color.Red), .int .u8 ((gi y11 prop).Initial.Color.Green), .int .u8 ((gi y11 prop).Initial.Color.Blue), .int .u8 ((gi y11 prop).Initial.Color.Alpha), .slice (g12.s (prop).toNat 0).a (((gi y11 prop).Words).length) (g12.s (prop).toNat 0).c, .slice (g12.s (prop).toNat 1).a (((gi y11 prop).Kinds).length) (g12.s (prop).toNat 1).c, .bool ((gi y11 prop).Least)]⟩)] [3, 16] [(3, [], .pointer (some ⟨b1, 0, none⟩)), (16, [], .agg ⟨[.string ⟨⟨(gi y11 prop).Name⟩⟩, .bool ((gi y11 prop).Inherited), .int .u8 ((gi y11 prop).Initial.Kind), .string ⟨⟨(gi y11 prop).Initial.Word⟩⟩, .int .i64 ((gi y11 prop).Initial.Num), .int .u8 ((gi y11 prop).Initial.Color.Red), .int .u8 ((gi y11 prop).Initial.Color.Green), .int .u8 ((gi y11 prop).Initial.Color.Blue), .int .u8 ((gi y11 prop).Initial.Color.Alpha), .slice (g12.s (prop).toNat 0).a (((gi y11 prop).Words).length) (g12.s (prop).toNat 0).c, .slice (g12.s (prop).toNat 1).a (((gi y11 prop).Kinds).length) (g12.s (prop).toNat 1).c, .bool ((gi y11 prop).Least)]⟩)] [fun _ => oka g12.a ∧ 0 ≤ prop ∧ prop < ln y11, fun wz => V.atN (ab g12.a) (ao g12.a + (prop).toNat * 12) [.string ⟨⟨(gi y11 prop).Name⟩⟩, .bool ((gi y11 prop).Inherited), .int .u8 ((gi y11 prop).Initial.Kind), .string ⟨⟨(gi y11 prop).Initial.Word⟩⟩, .int .i64 ((gi y11 prop).Initial.Num), .int .u8 ((gi y11 prop).Initial.Color.Red), .int .u8 ((gi y11 prop).Initial.Color.Green), .int .u8 ((gi y11 prop).Initial.Color.Blue), .int .u8 ((gi y11 prop).Initial.Color.Alpha), .slice (g12.s (prop).toNat 0).a (((gi y11 prop).Words).length) (g12.s (prop).toNat 0).c, .slice (g12.s (prop).toNat 1).a (((gi y11 prop).Kinds).length) (g12.s (prop).toNat 1).c, .bool ((gi y11 prop).Least)] 0 wz] H15 (by decide) (by kernel_rfl) ⟨((hS.osl 0 rfl).oki ho16), ((hS.osl 0 rfl).atA ho16 0 rfl), trivial⟩ fun _ wd17 H18 hb => ?_
 clear H15
 replace hS := hS.below hb
 clear hb
 have hd := hS.hand [] [0, 1, 2] rfl rfl
 refine m_stp [6, 3, 16] [(3, [], .pointer (some ⟨b1, 0, none⟩)), (16, [], .agg ⟨[.string ⟨⟨(gi y11 prop).Name⟩⟩, .bool ((gi y11 prop).Inherited), .int .u8 ((gi y11 prop).Initial.Kind), .string ⟨⟨(gi y11 prop).Initial.Word⟩⟩, .int .i64 ((gi y11 prop).Initial.Num), .int .u8 ((gi y11 prop).Initial.Color.Red), .int .u8 ((gi y11 prop).Initial.Color.Green), .int .u8 ((gi y11 prop).Initial.Color.Blue), .int .u8 ((gi y11 prop).Initial.Color.Alpha), .slice (g12.s (prop).toNat 0).a (((gi y11 prop).Words).length) (g12.s (prop).toNat 0).c, .slice (g12.s (prop).toNat 1).a (((gi y11 prop).Kinds).length) (g12.s (prop).toNat 1).c, .bool ((gi y11 prop).Least)]⟩)] H18 rfl rfl rfl rfl (o_alloc [.string ⟨⟨[]⟩⟩, .bool false, .int .u8 0, .string ⟨⟨[]⟩⟩, .int .i64 0, .int .u8 0, .int .u8 0, .int .u8 0, .int .u8 0, .slice none 0 0, .slice none 0 0, .bool false] (z := .agg ⟨[.string ⟨⟨[]⟩⟩, .bool false, .int .u8 0, .string ⟨⟨[]⟩⟩, .int .i64 0, .int .u8 0, .int .u8 0, .int .u8 0, .int .u8 0, .slice none 0 0, .slice none 0 0, .bool false]⟩) hd (by kernel_rfl) rfl) (fun _ => rfl) fun _ wd20 v H21 hq => ?_
 clear H18 hd
 obtain ⟨b19, rfl, hq⟩ := hq
 replace hS : SH M X w [Ent.blk b19 [.string ⟨⟨[]⟩⟩, .bool false, .int .u8 0, .string ⟨⟨[]⟩⟩, .int .i64 0, .int .u8 0, .int .u8 0, .int .u8 0, .int .u8 0, .slice none 0 0, .slice none 0 0, .bool false], Ent.own 51 tyProp y11 g12, Ent.blk b1 [.int .u8 v_.Kind, .string ⟨⟨v_.Word⟩⟩, .int .i64 v_.Num, .int .u8 v_.Color.Red, .int .u8 v_.Color.Green, .int .u8 v_.Color.Blue, .int .u8 v_.Color.Alpha], gE0] _ := hS.join [] [0, 1, 2] rfl rfl hq
 clear hq
 have hd := hS.hand [0] [1, 2, 3] rfl rfl
 refine m_stp0 [3, 6] [(3, [], .pointer (some ⟨b1, 0, none⟩)), (6, [], .pointer (some ⟨b19, 0, none⟩))] H21 rfl rfl rfl (o_store [.string ⟨⟨(gi y11 prop).Name⟩⟩, .bool ((gi y11 prop).Inherited), .int .u8 ((gi y11 prop).Initial.Kind), .string ⟨⟨(gi y11 prop).Initial.Word⟩⟩, .int .i64 ((gi y11 prop).Initial.Num), .int .u8 ((gi y11 prop).Initial.Color.Red), .int .u8 ((gi y11 prop).Initial.Color.Green), .int .u8 ((gi y11 prop).Initial.Color.Blue), .int .u8 ((gi y11 prop).Initial.Color.Alpha), .slice (g12.s (prop).toNat 0).a (((gi y11 prop).Words).length) (g12.s (prop).toNat 0).c, .slice (g12.s (prop).toNat 1).a (((gi y11 prop).Kinds).length) (g12.s (prop).toNat 1).c, .bool ((gi y11 prop).Least)] H21 hd rfl rfl (by kernel_rfl) rfl rfl rfl) rfl fun _ wd22 H23 hq => ?_
 clear H21 hd
 obtain ⟨_, hq⟩ := hq
 replace hS : SH M X w [Ent.blk b19 [.string ⟨⟨(gi y11 prop).Name⟩⟩, .bool ((gi y11 prop).Inherited), .int .u8 ((gi y11 prop).Initial.Kind), .string ⟨⟨(gi y11 prop).Initial.Word⟩⟩, .int .i64 ((gi y11 prop).Initial.Num), .int .u8 ((gi y11 prop).Initial.Color.Red), .int .u8 ((gi y11 prop).Initial.Color.Green), .int .u8 ((gi y11 prop).Initial.Color.Blue), .int .u8 ((gi y11 prop).Initial.Color.Alpha), .slice (g12.s (prop).toNat 0).a (((gi y11 prop).Words).length) (g12.s (prop).toNat 0).c, .slice (g12.s (prop).toNat 1).a (((gi y11 prop).Kinds).length) (g12.s (prop).toNat 1).c, .bool ((gi y11 prop).Least)], Ent.own 51 tyProp y11 g12, Ent.blk b1 [.int .u8 v_.Kind, .string ⟨⟨v_.Word⟩⟩, .int .i64 v_.Num, .int .u8 v_.Color.Red, .int .u8 v_.Color.Green, .int .u8 v_.Color.Blue, .int .u8 v_.Color.Alpha], gE0] _ := hS.join [0] [1, 2, 3] rfl rfl hq
 clear hq
 refine wl_end rfl ?_
 refine w_seq ?_
 refine w_block ?_
 obtain ⟨y24, hy24, hm⟩ := bindE hm
 refine s_reg [(.agg ⟨[.int .u8 v_.Kind, .string ⟨⟨v_.Word⟩⟩, .int .i64 v_.Num, .int .u8 v_.Color.Red, .int .u8 v_.Color.Green, .int .u8 v_.Color.Blue, .int .u8 v_.Color.Alpha]⟩), (.int .i64 y24)] [3, 6, 17] [(3, [], .pointer (some ⟨b1, 0, none⟩)), (6, [], .pointer (some ⟨b19, 0, none⟩)), (17, [], .bool (y24 != 0))] [fun wz => V.atN b1 0 [.int .u8 v_.Kind, .string ⟨⟨v_.Word⟩⟩, .int .i64 v_.Num, .int .u8 v_.Color.Red, .int .u8 v_.Color.Green, .int .u8 v_.Color.Blue, .int .u8 v_.Color.Alpha] 0 wz, fun wz => RetB Tryd.prog 17 ⟨[.agg ⟨[.int .u8 v_.Kind, .string ⟨⟨v_.Word⟩⟩, .int .i64 v_.Num, .int .u8 v_.Color.Red, .int .u8 v_.Color.Green, .int .u8 v_.Color.Blue, .int .u8 v_.Color.Alpha]⟩]⟩ (.int .i64 y24) wz] H23 (by kernel_rfl) ⟨((hS.bk 2 rfl).atD rfl), ((props_Check_ok _ _ hy24).b), trivial⟩ fun _ wd25 H26 hb => ?_
 clear H23
 replace hS := hS.below hb
 clear hb
 refine w_if H26 rfl (fun hc => ?c39) (fun hc => ?_)
 case c39 =>
  replace hm := bT hc hm
  refine s_reg [] [4, 5] [(4, [], .bool false), (5, [], .int .i64 0)] [] H26 (by kernel_rfl) trivial fun _ wd27 H28 hb => ?_
  clear H26
  replace hS := hS.below hb
  clear hb
  replace hS : SH M X w [gE0] _ := hS.sel [3] rfl
  refine w_ret ?_
  obtain rfl := someE hm
  exact retR2 H28 rfl rfl rfl ⟨_, rfl, rfl, (hS.sel [] rfl)⟩
 replace hm := bF hc hm
 refine s_reg [(.int .u8 v_.Kind)] [3, 6, 21] [(3, [], .pointer (some ⟨b1, 0, none⟩)), (6, [], .pointer (some ⟨b19, 0, none⟩)), (21, [], .bool (v_.Kind == 1))] [fun wz => V.at1 ⟨b1, 0, none⟩ (.int .u8 v_.Kind) wz] H26 (by kernel_rfl) ⟨((hS.bk 2 rfl).at1 rfl), trivial⟩ fun _ wd29 H30 hb => ?_
 clear H26
 replace hS := hS.below hb
 clear hb
 refine w_if H30 rfl (fun hc => ?c38) (fun hc => ?_)
 case c38 =>
  replace hm := bT hc hm
  obtain ⟨y31, hy31, hm⟩ := bindE hm
  refine s_reg [(.slice (g12.s (prop).toNat 0).a (((gi y11 prop).Words).length) (g12.s (prop).toNat 0).c), (.string ⟨⟨v_.Word⟩⟩), (.bool y31)] [4, 5] [(4, [], .bool y31), (5, [], .int .i64 0)] [fun wz => V.at1 ⟨b19, 9, none⟩ (.slice (g12.s (prop).toNat 0).a (((gi y11 prop).Words).length) (g12.s (prop).toNat 0).c) wz, fun wz => V.at1 ⟨b1, 1, none⟩ (.string ⟨⟨v_.Word⟩⟩) wz, fun wz => RetB Tryd.prog 27 ⟨[.slice (g12.s (prop).toNat 0).a (((gi y11 prop).Words).length) (g12.s (prop).toNat 0).c, .string ⟨⟨v_.Word⟩⟩]⟩ (.bool y31) wz] H30 (by kernel_rfl) ⟨((hS.bk 0 rfl).at1 rfl), ((hS.bk 2 rfl).at1 rfl), (slices_Contains_string_string_ok (g_s := (g12.s (prop).toNat 0)) m _ _ _ hy31 _ (s0im s0nil (tyProp_i0 ((hS.osl 1 rfl).el ho16)))), trivial⟩ fun _ wd32 H33 hb => ?_
  clear H30
  replace hS := hS.below hb
  clear hb
  replace hS : SH M X w [gE0] _ := hS.sel [3] rfl
  refine w_ret ?_
  obtain rfl := someE hm
  exact retR2 H33 rfl rfl rfl ⟨_, rfl, rfl, (hS.sel [] rfl)⟩
 replace hm := bF hc hm
 refine w_skip ?_
 obtain ⟨y34, hy34, hm⟩ := bindE hm
 obtain ⟨x35, hx35, hm⟩ := letE hm
 refine s_reg [(.slice (g12.s (prop).toNat 1).a (((gi y11 prop).Kinds).length) (g12.s (prop).toNat 1).c), (.int .u8 v_.Kind), (.bool y34), (.bool ((gi y11 prop).Least)), (.int .i64 v_.Num)] [4, 5] [(4, [], .bool x35), (5, [], .int .i64 0)] [fun wz => V.at1 ⟨b19, 10, none⟩ (.slice (g12.s (prop).toNat 1).a (((gi y11 prop).Kinds).length) (g12.s (prop).toNat 1).c) wz, fun wz => V.at1 ⟨b1, 0, none⟩ (.int .u8 v_.Kind) wz, fun wz => RetB Tryd.prog 28 ⟨[.slice (g12.s (prop).toNat 1).a (((gi y11 prop).Kinds).length) (g12.s (prop).toNat 1).c, .int .u8 v_.Kind]⟩ (.bool y34) wz, fun wz => (y34 = true ∧ True → V.at1 ⟨b19, 11, none⟩ (.bool ((gi y11 prop).Least)) wz), fun wz => ((!((gi y11 prop).Least)) = false ∧ y34 = true ∧ True → V.at1 ⟨b1, 2, none⟩ (.int .i64 v_.Num) wz)] H30 (by subst hx35; kernel_rfl) ⟨((hS.bk 0 rfl).at1 rfl), ((hS.bk 2 rfl).at1 rfl), (slices_Contains_uint8_uint8_ok (g_s := (g12.s (prop).toNat 1)) m _ _ _ hy34 _ (s0im s0nil (tyProp_i1 ((hS.osl 1 rfl).el ho16)))), fun hg => (hS.bk 0 rfl).at1 rfl, fun hg => (hS.bk 2 rfl).at1 rfl, trivial⟩ fun _ wd36 H37 hb => ?_
 clear H30
 replace hS := hS.below hb
 clear hb
 replace hS : SH M X w [gE0] _ := hS.sel [3] rfl
 refine w_ret ?_
 obtain rfl := someE hm
 exact retR2 H37 rfl rfl rfl ⟨_, rfl, rfl, (hS.sel [] rfl)⟩
theorem props_Has_ok  (m : Nat) (prop : Int) (v_ : TVal) (r : Bool × Int) (hm : props_Has m prop v_ = some r) (w : World) (hL : S0 F0 [gE0] w ∧ fpl [gE0] = []) : RetB Tryd.prog 13 ⟨[.int .i64 prop, .agg ⟨[.int .u8 v_.Kind, .string ⟨⟨v_.Word⟩⟩, .int .i64 v_.Num, .int .u8 v_.Color.Red, .int .u8 v_.Color.Green, .int .u8 v_.Color.Blue, .int .u8 v_.Color.Alpha]⟩]⟩ (.tuple ⟨[.bool r.1, .int .i64 r.2]⟩) w := retB_of hL (Tryd.call13 _) (fun w' h => props_Has_w F0 m   prop v_ r hm w' h)

def law25_has (m : Nat) (prop : Int) (v_ : TVal) : Option (Bool) :=
  Option.bind (props_Has m prop v_) fun y6 =>
  some (cond y6.1 (y6.2 == 0) false)
theorem law25_has_w  (M : Av) (m : Nat) (prop : Int) (v_ : TVal) (r : Bool) (hm : law25_has m prop v_ = some r) (w : World) (hS : S0 M [gE0] w) : Calls Tryd.prog 24 ⟨[.int .i64 prop, .agg ⟨[.int .u8 v_.Kind, .string ⟨⟨v_.Word⟩⟩, .int .i64 v_.Num, .int .u8 v_.Color.Red, .int .u8 v_.Color.Green, .int .u8 v_.Color.Blue, .int .u8 v_.Color.Alpha]⟩]⟩ w (fun e w' => ∃ v, e = .returned v ∧ v = .bool r ∧ SH M (fpl [gE0]) w [] w') := by
 rw [law25_has] at hm
 have hS0 : SH M (fpl [gE0]) w [gE0] w := hS
 generalize hX : fpl [gE0] = X at hS0 ⊢
 clear hS hX
 have hS := hS0
 clear hS0
 refine calls_entryP Tryd.func24 rfl Tryd.ntmps24 rfl fun _ H => ?_
 refine w_seq ?_
 refine wl_start ?_
 have hd := hS.hand [] [0] rfl rfl
 refine m_stp [3, 0] [(0, [], .int .i64 prop)] H rfl rfl rfl rfl (o_box [.int .u8 v_.Kind, .string ⟨⟨v_.Word⟩⟩, .int .i64 v_.Num, .int .u8 v_.Color.Red, .int .u8 v_.Color.Green, .int .u8 v_.Color.Blue, .int .u8 v_.Color.Alpha] H hd rfl rfl) (fun _ => rfl) fun _ wd2 v H3 hq => ?_
 clear H hd
 obtain ⟨b1, rfl, hq⟩ := hq
 replace hS : SH M X w [Ent.blk b1 [.int .u8 v_.Kind, .string ⟨⟨v_.Word⟩⟩, .int .i64 v_.Num, .int .u8 v_.Color.Red, .int .u8 v_.Color.Green, .int .u8 v_.Color.Blue, .int .u8 v_.Color.Alpha], gE0] _ := hS.join [] [0] rfl rfl hq
 clear hq
 refine wl_batch 1 2 [] [0, 3] [(0, [], .int .i64 prop), (3, [], .pointer (some ⟨b1, 0, none⟩))] [] H3 (by decide) (by kernel_rfl) trivial fun _ wd4 H5 hb => ?_
 clear H3
 replace hS := hS.below hb
 clear hb
 refine wl_end rfl ?_
 obtain ⟨y6, hy6, hm⟩ := bindE hm
 refine s_reg [(.agg ⟨[.int .u8 v_.Kind, .string ⟨⟨v_.Word⟩⟩, .int .i64 v_.Num, .int .u8 v_.Color.Red, .int .u8 v_.Color.Green, .int .u8 v_.Color.Blue, .int .u8 v_.Color.Alpha]⟩), (.tuple ⟨[.bool y6.1, .int .i64 y6.2]⟩)] [5, 6] [(5, [], .bool y6.1), (6, [], .int .i64 y6.2)] [fun wz => V.atN b1 0 [.int .u8 v_.Kind, .string ⟨⟨v_.Word⟩⟩, .int .i64 v_.Num, .int .u8 v_.Color.Red, .int .u8 v_.Color.Green, .int .u8 v_.Color.Blue, .int .u8 v_.Color.Alpha] 0 wz, fun wz => RetB Tryd.prog 13 ⟨[.int .i64 prop, .agg ⟨[.int .u8 v_.Kind, .string ⟨⟨v_.Word⟩⟩, .int .i64 v_.Num, .int .u8 v_.Color.Red, .int .u8 v_.Color.Green, .int .u8 v_.Color.Blue, .int .u8 v_.Color.Alpha]⟩]⟩ (.tuple ⟨[.bool y6.1, .int .i64 y6.2]⟩) wz] H5 (by kernel_rfl) ⟨((hS.bk 0 rfl).atD rfl), (props_Has_ok m _ _ _ hy6 _ (s0im s0nil (hS.im 1 rfl))), trivial⟩ fun _ wd7 H8 hb => ?_
 clear H5
 replace hS := hS.below hb
 clear hb
 replace hS : SH M X w [gE0] _ := hS.sel [1] rfl
 refine s_reg [] [4] [(4, [], .bool (cond y6.1 (y6.2 == 0) false))] [] H8 (by kernel_rfl) trivial fun _ wd9 H10 hb => ?_
 clear H8
 replace hS := hS.below hb
 clear hb
 refine w_ret ?_
 obtain rfl := someE hm
 exact retR1 H10 rfl rfl ⟨_, rfl, rfl, (hS.sel [] rfl)⟩
theorem law25_has_ok  (m : Nat) (prop : Int) (v_ : TVal) (r : Bool) (hm : law25_has m prop v_ = some r) (w : World) (hL : S0 F0 [gE0] w ∧ fpl [gE0] = []) : RetB Tryd.prog 24 ⟨[.int .i64 prop, .agg ⟨[.int .u8 v_.Kind, .string ⟨⟨v_.Word⟩⟩, .int .i64 v_.Num, .int .u8 v_.Color.Red, .int .u8 v_.Color.Green, .int .u8 v_.Color.Blue, .int .u8 v_.Color.Alpha]⟩]⟩ (.bool r) w := retB_of hL (Tryd.call24 _) (fun w' h => law25_has_w F0 m   prop v_ r hm w' h)

def law25_px (n_ : Int) : TVal :=
  (TVal.mk 2 [] n_ (TColor.mk 0 0 0 0))
theorem law25_px_w  (M : Av) (n_ : Int) (r : TVal) (hm : law25_px n_ = r) (w : World) (hS : S0 M [] w) : Calls Tryd.prog 19 ⟨[.int .i64 n_]⟩ w (fun e w' => ∃ v, e = .returned v ∧ v = .agg ⟨[.int .u8 r.Kind, .string ⟨⟨r.Word⟩⟩, .int .i64 r.Num, .int .u8 r.Color.Red, .int .u8 r.Color.Green, .int .u8 r.Color.Blue, .int .u8 r.Color.Alpha]⟩ ∧ SH M (fpl []) w [] w') := by
 rw [law25_px] at hm
 have hS0 : SH M (fpl []) w [] w := hS
 generalize hX : fpl [] = X at hS0 ⊢
 clear hS hX
 have hS := hS0
 clear hS0
 refine calls_entryP Tryd.func19 rfl Tryd.ntmps19 rfl fun _ H => ?_
 refine w_seq ?_
 refine wl_start ?_
 have hd := hS.hand [] [] rfl rfl
 refine m_stp [2, 0] [(0, [], .int .i64 n_)] H rfl rfl rfl rfl (o_alloc [.int .u8 0, .string ⟨⟨[]⟩⟩, .int .i64 0, .int .u8 0, .int .u8 0, .int .u8 0, .int .u8 0] (z := .agg ⟨[.int .u8 0, .string ⟨⟨[]⟩⟩, .int .i64 0, .int .u8 0, .int .u8 0, .int .u8 0, .int .u8 0]⟩) hd (by kernel_rfl) rfl) (fun _ => rfl) fun _ wd2 v H3 hq => ?_
 clear H hd
 obtain ⟨b1, rfl, hq⟩ := hq
 replace hS : SH M X w [Ent.blk b1 [.int .u8 0, .string ⟨⟨[]⟩⟩, .int .i64 0, .int .u8 0, .int .u8 0, .int .u8 0, .int .u8 0]] _ := hS.join [] [] rfl rfl hq
 clear hq
 refine wl_end rfl ?_
 refine w_seq ?_
 refine wl_start ?_
 refine wl_batch 0 2 [] [2, 4] [(2, [], .pointer (some ⟨b1, 0, none⟩)), (4, [], .agg ⟨[.int .u8 2, .string ⟨⟨[]⟩⟩, .int .i64 n_, .int .u8 0, .int .u8 0, .int .u8 0, .int .u8 0]⟩)] [] H3 (by decide) (by kernel_rfl) trivial fun _ wd4 H5 hb => ?_
 clear H3
 replace hS := hS.below hb
 clear hb
 have hd := hS.hand [0] [] rfl rfl
 refine m_stp0 [2] [(2, [], .pointer (some ⟨b1, 0, none⟩))] H5 rfl rfl rfl (o_store [.int .u8 2, .string ⟨⟨[]⟩⟩, .int .i64 n_, .int .u8 0, .int .u8 0, .int .u8 0, .int .u8 0] H5 hd rfl rfl (by kernel_rfl) rfl rfl rfl) rfl fun _ wd6 H7 hq => ?_
 clear H5 hd
 obtain ⟨_, hq⟩ := hq
 replace hS : SH M X w [Ent.blk b1 [.int .u8 2, .string ⟨⟨[]⟩⟩, .int .i64 n_, .int .u8 0, .int .u8 0, .int .u8 0, .int .u8 0]] _ := hS.join [0] [] rfl rfl hq
 clear hq
 refine wl_end rfl ?_
 refine w_ret ?_
 subst hm
 exact retR1 H7 rfl (oneRes_agg rfl (hS.bk 0 rfl) Tryd.underlying25 rfl (by kernel_rfl)) ⟨_, rfl, rfl, (hS.sel [] rfl)⟩
theorem law25_px_ok  (n_ : Int) : Ret Tryd.prog 19 ⟨[.int .i64 n_]⟩ (.agg ⟨[.int .u8 (law25_px n_).Kind, .string ⟨⟨(law25_px n_).Word⟩⟩, .int .i64 (law25_px n_).Num, .int .u8 (law25_px n_).Color.Red, .int .u8 (law25_px n_).Color.Green, .int .u8 (law25_px n_).Color.Blue, .int .u8 (law25_px n_).Color.Alpha]⟩) := retP_of (Tryd.call19 _) (fun w h => law25_px_w F0   n_ _ rfl w h)

def law25_alive (m : Nat)  : Option (Bool) :=
  Option.bind (props_Find m [102, 111, 110, 116, 45, 115, 105, 122, 101]) fun y3 =>
  Option.bind (props_Inherited m [102, 111, 110, 116, 45, 115, 105, 122, 101]) fun y6 =>
  Option.bind (props_Find m [109, 97, 114, 103, 105, 110]) fun y9 =>
  lt (cond (cond (y3.2 == 0) (y3.1 == 12) false) (y6.2 == 0) false) fun x12 =>
  lt (cond (cond x12 y6.1 false) (y9.2 == 6) false) fun x13 =>
  Option.bind (cond x13 (props_Custom [45, 45, 97]) (some default)) fun y14 =>
  Option.bind (cond (cond x13 y14 false) (props_Custom [45, 45]) (some default)) fun y15 =>
  Option.bind (cond (cond (cond x13 y14 false) (!y15) false) (props_Custom [45, 97]) (some default)) fun y16 =>
  lt (cond (cond (cond x13 y14 false) (!y15) false) (!y16) false) fun x17 =>
  Option.bind (cond x17 (law25_has m 6 (TVal.mk 1 [97, 117, 116, 111] 0 (TColor.mk 0 0 0 0))) (some default)) fun y18 =>
  lt (law25_px 0) fun y19 =>
  Option.bind (cond (cond x17 y18 false) (law25_has m 6 y19) (some default)) fun y20 =>
  lt (law25_px (-1)) fun y21 =>
  Option.bind (cond (cond (cond x17 y18 false) y20 false) (law25_has m 6 y21) (some default)) fun y22 =>
  lt (cond (cond (cond x17 y18 false) y20 false) (!y22) false) fun x23 =>
  Option.bind (cond x23 (law25_has m 6 (TVal.mk 5 [] 0 (TColor.mk 0 0 0 0))) (some default)) fun y24 =>
  some (cond x23 (!y24) false)
theorem law25_alive_w  (M : Av) (m : Nat)  (r : Bool) (hm : law25_alive m = some r) (w : World) (hS : S0 M [gE0] w) : Calls Tryd.prog 20 ⟨[]⟩ w (fun e w' => ∃ v, e = .returned v ∧ v = .bool r ∧ SH M (fpl [gE0]) w [] w') := by
 rw [law25_alive] at hm
 have hS0 : SH M (fpl [gE0]) w [gE0] w := hS
 generalize hX : fpl [gE0] = X at hS0 ⊢
 clear hS hX
 have hS := hS0
 clear hS0
 refine calls_entryP Tryd.func20 rfl Tryd.ntmps20 rfl fun _ H => ?_
 refine s_reg [] [] [] [] H (by kernel_rfl) trivial fun _ wd1 H2 hb => ?_
 clear H
 replace hS := hS.below hb
 clear hb
 obtain ⟨y3, hy3, hm⟩ := bindE hm
 refine s_reg [(.tuple ⟨[.int .i64 y3.1, .int .i64 y3.2]⟩)] [1, 2] [(1, [], .int .i64 y3.1), (2, [], .int .i64 y3.2)] [fun wz => RetB Tryd.prog 9 ⟨[.string ⟨⟨[102, 111, 110, 116, 45, 115, 105, 122, 101]⟩⟩]⟩ (.tuple ⟨[.int .i64 y3.1, .int .i64 y3.2]⟩) wz] H2 (by kernel_rfl) ⟨(props_Find_ok m _ _ hy3 _ (s0im s0nil (hS.im 0 rfl))), trivial⟩ fun _ wd4 H5 hb => ?_
 clear H2
 replace hS := hS.below hb
 clear hb
 obtain ⟨y6, hy6, hm⟩ := bindE hm
 refine s_reg [(.tuple ⟨[.bool y6.1, .int .i64 y6.2]⟩)] [1, 2, 3, 4] [(1, [], .int .i64 y3.1), (2, [], .int .i64 y3.2), (3, [], .bool y6.1), (4, [], .int .i64 y6.2)] [fun wz => RetB Tryd.prog 11 ⟨[.string ⟨⟨[102, 111, 110, 116, 45, 115, 105, 122, 101]⟩⟩]⟩ (.tuple ⟨[.bool y6.1, .int .i64 y6.2]⟩) wz] H5 (by kernel_rfl) ⟨(props_Inherited_ok m _ _ hy6 _ (s0im s0nil (hS.im 0 rfl))), trivial⟩ fun _ wd7 H8 hb => ?_
 clear H5
 replace hS := hS.below hb
 clear hb
 obtain ⟨y9, hy9, hm⟩ := bindE hm
 refine s_reg [(.tuple ⟨[.int .i64 y9.1, .int .i64 y9.2]⟩)] [1, 2, 3, 4, 6] [(1, [], .int .i64 y3.1), (2, [], .int .i64 y3.2), (3, [], .bool y6.1), (4, [], .int .i64 y6.2), (6, [], .int .i64 y9.2)] [fun wz => RetB Tryd.prog 9 ⟨[.string ⟨⟨[109, 97, 114, 103, 105, 110]⟩⟩]⟩ (.tuple ⟨[.int .i64 y9.1, .int .i64 y9.2]⟩) wz] H8 (by kernel_rfl) ⟨(props_Find_ok m _ _ hy9 _ (s0im s0nil (hS.im 0 rfl))), trivial⟩ fun _ wd10 H11 hb => ?_
 clear H8
 replace hS := hS.below hb
 clear hb
 obtain ⟨x12, hx12, hm⟩ := letE hm
 obtain ⟨x13, hx13, hm⟩ := letE hm
 obtain ⟨y14, hy14, hm⟩ := bindE hm
 obtain ⟨y15, hy15, hm⟩ := bindE hm
 obtain ⟨y16, hy16, hm⟩ := bindE hm
 obtain ⟨x17, hx17, hm⟩ := letE hm
 obtain ⟨y18, hy18, hm⟩ := bindE hm
 obtain ⟨y19, hy19, hm⟩ := letE hm
 obtain ⟨y20, hy20, hm⟩ := bindE hm
 obtain ⟨y21, hy21, hm⟩ := letE hm
 obtain ⟨y22, hy22, hm⟩ := bindE hm
 obtain ⟨x23, hx23, hm⟩ := letE hm
 obtain ⟨y24, hy24, hm⟩ := bindE hm
 refine s_reg [(.bool y14), (.bool y15), (.bool y16), (.bool y18), (.agg ⟨[.int .u8 y19.Kind, .string ⟨⟨y19.Word⟩⟩, .int .i64 y19.Num, .int .u8 y19.Color.Red, .int .u8 y19.Color.Green, .int .u8 y19.Color.Blue, .int .u8 y19.Color.Alpha]⟩), (.bool y20), (.agg ⟨[.int .u8 y21.Kind, .string ⟨⟨y21.Word⟩⟩, .int .i64 y21.Num, .int .u8 y21.Color.Red, .int .u8 y21.Color.Green, .int .u8 y21.Color.Blue, .int .u8 y21.Color.Alpha]⟩), (.bool y22), (.bool y24)] [0] [(0, [], .bool (cond x23 (!y24) false))] [fun wz => (x13 = true ∧ True → RetB Tryd.prog 15 ⟨[.string ⟨⟨[45, 45, 97]⟩⟩]⟩ (.bool y14) wz), fun wz => ((cond x13 y14 false) = true ∧ True → RetB Tryd.prog 15 ⟨[.string ⟨⟨[45, 45]⟩⟩]⟩ (.bool y15) wz), fun wz => ((cond (cond x13 y14 false) (!y15) false) = true ∧ True → RetB Tryd.prog 15 ⟨[.string ⟨⟨[45, 97]⟩⟩]⟩ (.bool y16) wz), fun wz => (x17 = true ∧ True → RetB Tryd.prog 24 ⟨[.int .i64 6, .agg ⟨[.int .u8 1, .string ⟨⟨[97, 117, 116, 111]⟩⟩, .int .i64 0, .int .u8 0, .int .u8 0, .int .u8 0, .int .u8 0]⟩]⟩ (.bool y18) wz), fun wz => ((cond x17 y18 false) = true ∧ True → RetB Tryd.prog 19 ⟨[.int .i64 0]⟩ (.agg ⟨[.int .u8 y19.Kind, .string ⟨⟨y19.Word⟩⟩, .int .i64 y19.Num, .int .u8 y19.Color.Red, .int .u8 y19.Color.Green, .int .u8 y19.Color.Blue, .int .u8 y19.Color.Alpha]⟩) wz), fun wz => ((cond x17 y18 false) = true ∧ True → RetB Tryd.prog 24 ⟨[.int .i64 6, .agg ⟨[.int .u8 y19.Kind, .string ⟨⟨y19.Word⟩⟩, .int .i64 y19.Num, .int .u8 y19.Color.Red, .int .u8 y19.Color.Green, .int .u8 y19.Color.Blue, .int .u8 y19.Color.Alpha]⟩]⟩ (.bool y20) wz), fun wz => ((cond (cond x17 y18 false) y20 false) = true ∧ True → RetB Tryd.prog 19 ⟨[.int .i64 (-1)]⟩ (.agg ⟨[.int .u8 y21.Kind, .string ⟨⟨y21.Word⟩⟩, .int .i64 y21.Num, .int .u8 y21.Color.Red, .int .u8 y21.Color.Green, .int .u8 y21.Color.Blue, .int .u8 y21.Color.Alpha]⟩) wz), fun wz => ((cond (cond x17 y18 false) y20 false) = true ∧ True → RetB Tryd.prog 24 ⟨[.int .i64 6, .agg ⟨[.int .u8 y21.Kind, .string ⟨⟨y21.Word⟩⟩, .int .i64 y21.Num, .int .u8 y21.Color.Red, .int .u8 y21.Color.Green, .int .u8 y21.Color.Blue, .int .u8 y21.Color.Alpha]⟩]⟩ (.bool y22) wz), fun wz => (x23 = true ∧ True → RetB Tryd.prog 24 ⟨[.int .i64 6, .agg ⟨[.int .u8 5, .string ⟨⟨[]⟩⟩, .int .i64 0, .int .u8 0, .int .u8 0, .int .u8 0, .int .u8 0]⟩]⟩ (.bool y24) wz)] H11 (by subst hx12 hx13 hx17 hy19 hy21 hx23; kernel_rfl) ⟨fun hg => (props_Custom_ok _ _ (bT (hg.1) hy14)).b, fun hg => (props_Custom_ok _ _ (bT (hg.1) hy15)).b, fun hg => (props_Custom_ok _ _ (bT (hg.1) hy16)).b, fun hg => law25_has_ok m _ _ _ (bT (hg.1) hy18) _ (s0im s0nil (hS.im 0 rfl)), fun hg => (by rw [hy19]; exact (law25_px_ok _).b), fun hg => law25_has_ok m _ _ _ (bT (hg.1) hy20) _ (s0im s0nil (hS.im 0 rfl)), fun hg => (by rw [hy21]; exact (law25_px_ok _).b), fun hg => law25_has_ok m _ _ _ (bT (hg.1) hy22) _ (s0im s0nil (hS.im 0 rfl)), fun hg => law25_has_ok m _ _ _ (bT (hg.1) hy24) _ (s0im s0nil (hS.im 0 rfl)), trivial⟩ fun _ wd25 H26 hb => ?_
 clear H11
 replace hS := hS.below hb
 clear hb
 refine w_ret ?_
 obtain rfl := someE hm
 exact retR1 H26 rfl rfl ⟨_, rfl, rfl, (hS.sel [] rfl)⟩
theorem law25_alive_ok  (m : Nat)  (r : Bool) (hm : law25_alive m = some r) (w : World) (hL : S0 F0 [gE0] w ∧ fpl [gE0] = []) : RetB Tryd.prog 20 ⟨[]⟩ (.bool r) w := retB_of hL (Tryd.call20 _) (fun w' h => law25_alive_w F0 m    r hm w' h)

def r25_word (s : Str) : TVal :=
  (TVal.mk 1 s 0 (TColor.mk 0 0 0 0))
theorem r25_word_w  (M : Av) (s : Str) (r : TVal) (hm : r25_word s = r) (w : World) (hS : S0 M [] w) : Calls Tryd.prog 35 ⟨[.string ⟨⟨s⟩⟩]⟩ w (fun e w' => ∃ v, e = .returned v ∧ v = .agg ⟨[.int .u8 r.Kind, .string ⟨⟨r.Word⟩⟩, .int .i64 r.Num, .int .u8 r.Color.Red, .int .u8 r.Color.Green, .int .u8 r.Color.Blue, .int .u8 r.Color.Alpha]⟩ ∧ SH M (fpl []) w [] w') := by
 rw [r25_word] at hm
 have hS0 : SH M (fpl []) w [] w := hS
 generalize hX : fpl [] = X at hS0 ⊢
 clear hS hX
 have hS := hS0
 clear hS0
 refine calls_entryP Tryd.func35 rfl Tryd.ntmps35 rfl fun _ H => ?_
 refine w_seq ?_
 refine wl_start ?_
 have hd := hS.hand [] [] rfl rfl
 refine m_stp [2, 0] [(0, [], .string ⟨⟨s⟩⟩)] H rfl rfl rfl rfl (o_alloc [.int .u8 0, .string ⟨⟨[]⟩⟩, .int .i64 0, .int .u8 0, .int .u8 0, .int .u8 0, .int .u8 0] (z := .agg ⟨[.int .u8 0, .string ⟨⟨[]⟩⟩, .int .i64 0, .int .u8 0, .int .u8 0, .int .u8 0, .int .u8 0]⟩) hd (by kernel_rfl) rfl) (fun _ => rfl) fun _ wd2 v H3 hq => ?_
 clear H hd
 obtain ⟨b1, rfl, hq⟩ := hq
 replace hS : SH M X w [Ent.blk b1 [.int .u8 0, .string ⟨⟨[]⟩⟩, .int .i64 0, .int .u8 0, .int .u8 0, .int .u8 0, .int .u8 0]] _ := hS.join [] [] rfl rfl hq
 clear hq
 refine wl_end rfl ?_
 refine w_seq ?_
 refine wl_start ?_
 refine wl_batch 0 2 [] [2, 4] [(2, [], .pointer (some ⟨b1, 0, none⟩)), (4, [], .agg ⟨[.int .u8 1, .string ⟨⟨s⟩⟩, .int .i64 0, .int .u8 0, .int .u8 0, .int .u8 0, .int .u8 0]⟩)] [] H3 (by decide) (by kernel_rfl) trivial fun _ wd4 H5 hb => ?_
 clear H3
 replace hS := hS.below hb
 clear hb
 have hd := hS.hand [0] [] rfl rfl
 refine m_stp0 [2] [(2, [], .pointer (some ⟨b1, 0, none⟩))] H5 rfl rfl rfl (o_store [.int .u8 1, .string ⟨⟨s⟩⟩, .int .i64 0, .int .u8 0, .int .u8 0, .int .u8 0, .int .u8 0] H5 hd rfl rfl (by kernel_rfl) rfl rfl rfl) rfl fun _ wd6 H7 hq => ?_
 clear H5 hd
 obtain ⟨_, hq⟩ := hq
 replace hS : SH M X w [Ent.blk b1 [.int .u8 1, .string ⟨⟨s⟩⟩, .int .i64 0, .int .u8 0, .int .u8 0, .int .u8 0, .int .u8 0]] _ := hS.join [0] [] rfl rfl hq
 clear hq
 refine wl_end rfl ?_
 refine w_ret ?_
 subst hm
 exact retR1 H7 rfl (oneRes_agg rfl (hS.bk 0 rfl) Tryd.underlying25 rfl (by kernel_rfl)) ⟨_, rfl, rfl, (hS.sel [] rfl)⟩
theorem r25_word_ok  (s : Str) : Ret Tryd.prog 35 ⟨[.string ⟨⟨s⟩⟩]⟩ (.agg ⟨[.int .u8 (r25_word s).Kind, .string ⟨⟨(r25_word s).Word⟩⟩, .int .i64 (r25_word s).Num, .int .u8 (r25_word s).Color.Red, .int .u8 (r25_word s).Color.Green, .int .u8 (r25_word s).Color.Blue, .int .u8 (r25_word s).Color.Alpha]⟩) := retP_of (Tryd.call35 _) (fun w h => r25_word_w F0   s _ rfl w h)

def r25_px (n_ : Int) : TVal :=
  (TVal.mk 2 [] n_ (TColor.mk 0 0 0 0))
theorem r25_px_w  (M : Av) (n_ : Int) (r : TVal) (hm : r25_px n_ = r) (w : World) (hS : S0 M [] w) : Calls Tryd.prog 36 ⟨[.int .i64 n_]⟩ w (fun e w' => ∃ v, e = .returned v ∧ v = .agg ⟨[.int .u8 r.Kind, .string ⟨⟨r.Word⟩⟩, .int .i64 r.Num, .int .u8 r.Color.Red, .int .u8 r.Color.Green, .int .u8 r.Color.Blue, .int .u8 r.Color.Alpha]⟩ ∧ SH M (fpl []) w [] w') := by
 rw [r25_px] at hm
 have hS0 : SH M (fpl []) w [] w := hS
 generalize hX : fpl [] = X at hS0 ⊢
 clear hS hX
 have hS := hS0
 clear hS0
 refine calls_entryP Tryd.func36 rfl Tryd.ntmps36 rfl fun _ H => ?_
 refine w_seq ?_
 refine wl_start ?_
 have hd := hS.hand [] [] rfl rfl
 refine m_stp [2, 0] [(0, [], .int .i64 n_)] H rfl rfl rfl rfl (o_alloc [.int .u8 0, .string ⟨⟨[]⟩⟩, .int .i64 0, .int .u8 0, .int .u8 0, .int .u8 0, .int .u8 0] (z := .agg ⟨[.int .u8 0, .string ⟨⟨[]⟩⟩, .int .i64 0, .int .u8 0, .int .u8 0, .int .u8 0, .int .u8 0]⟩) hd (by kernel_rfl) rfl) (fun _ => rfl) fun _ wd2 v H3 hq => ?_
 clear H hd
 obtain ⟨b1, rfl, hq⟩ := hq
 replace hS : SH M X w [Ent.blk b1 [.int .u8 0, .string ⟨⟨[]⟩⟩, .int .i64 0, .int .u8 0, .int .u8 0, .int .u8 0, .int .u8 0]] _ := hS.join [] [] rfl rfl hq
 clear hq
 refine wl_end rfl ?_
 refine w_seq ?_
 refine wl_start ?_
 refine wl_batch 0 2 [] [2, 4] [(2, [], .pointer (some ⟨b1, 0, none⟩)), (4, [], .agg ⟨[.int .u8 2, .string ⟨⟨[]⟩⟩, .int .i64 n_, .int .u8 0, .int .u8 0, .int .u8 0, .int .u8 0]⟩)] [] H3 (by decide) (by kernel_rfl) trivial fun _ wd4 H5 hb => ?_
 clear H3
 replace hS := hS.below hb
 clear hb
 have hd := hS.hand [0] [] rfl rfl
 refine m_stp0 [2] [(2, [], .pointer (some ⟨b1, 0, none⟩))] H5 rfl rfl rfl (o_store [.int .u8 2, .string ⟨⟨[]⟩⟩, .int .i64 n_, .int .u8 0, .int .u8 0, .int .u8 0, .int .u8 0] H5 hd rfl rfl (by kernel_rfl) rfl rfl rfl) rfl fun _ wd6 H7 hq => ?_
 clear H5 hd
 obtain ⟨_, hq⟩ := hq
 replace hS : SH M X w [Ent.blk b1 [.int .u8 2, .string ⟨⟨[]⟩⟩, .int .i64 n_, .int .u8 0, .int .u8 0, .int .u8 0, .int .u8 0]] _ := hS.join [0] [] rfl rfl hq
 clear hq
 refine wl_end rfl ?_
 refine w_ret ?_
 subst hm
 exact retR1 H7 rfl (oneRes_agg rfl (hS.bk 0 rfl) Tryd.underlying25 rfl (by kernel_rfl)) ⟨_, rfl, rfl, (hS.sel [] rfl)⟩
theorem r25_px_ok  (n_ : Int) : Ret Tryd.prog 36 ⟨[.int .i64 n_]⟩ (.agg ⟨[.int .u8 (r25_px n_).Kind, .string ⟨⟨(r25_px n_).Word⟩⟩, .int .i64 (r25_px n_).Num, .int .u8 (r25_px n_).Color.Red, .int .u8 (r25_px n_).Color.Green, .int .u8 (r25_px n_).Color.Blue, .int .u8 (r25_px n_).Color.Alpha]⟩) := retP_of (Tryd.call36 _) (fun w h => r25_px_w F0   n_ _ rfl w h)

def r25_Table  : Option (List TProp) :=
  lt (r25_word [105, 110, 108, 105, 110, 101]) fun y30 =>
  lt (r25_word [118, 105, 115, 105, 98, 108, 101]) fun y33 =>
  lt (r25_px 0) fun y40 =>
  lt (r25_px 0) fun y43 =>
  lt (r25_px 0) fun y46 =>
  lt (r25_px 0) fun y49 =>
  lt (r25_px 16000) fun y52 =>
  lt (r25_word [110, 111, 114, 109, 97, 108]) fun y53 =>
  chk (ln ([] : List Int) + ln ([2, 3, 4] : List Int) ≤ 1099511627776) <|
  lt (([] : List Int) ++ ([2, 3, 4] : List Int)) fun q59 =>
  chk (ln q59 + ln ([5] : List Int) ≤ 1099511627776) <|
  lt (q59 ++ ([5] : List Int)) fun q64 =>
  lt (r25_word [108, 101, 102, 116]) fun y66 =>
  some ([(TProp.mk [99, 111, 108, 111, 114] true (TVal.mk 7 [] 0 (TColor.mk 0 0 0 255)) [] ([7, 8] : List Int) false), (TProp.mk [98, 97, 99, 107, 103, 114, 111, 117, 110, 100, 45, 99, 111, 108, 111, 114] false (TVal.mk 7 [] 0 (TColor.mk 0 0 0 0)) [] ([7, 8] : List Int) false), (TProp.mk [98, 111, 114, 100, 101, 114, 45, 99, 111, 108, 111, 114] false (TVal.mk 8 [] 0 (TColor.mk 0 0 0 0)) [] ([7, 8] : List Int) false), (TProp.mk [111, 117, 116, 108, 105, 110, 101, 45, 99, 111, 108, 111, 114] false (TVal.mk 8 [] 0 (TColor.mk 0 0 0 0)) [] ([7, 8] : List Int) false), (TProp.mk [100, 105, 115, 112, 108, 97, 121] false y30 ([[98, 108, 111, 99, 107], [102, 108, 101, 120], [105, 110, 108, 105, 110, 101], [105, 110, 108, 105, 110, 101, 45, 98, 108, 111, 99, 107], [110, 111, 110, 101]] : List Str) [] false), (TProp.mk [118, 105, 115, 105, 98, 105, 108, 105, 116, 121] true y33 ([[99, 111, 108, 108, 97, 112, 115, 101], [104, 105, 100, 100, 101, 110], [118, 105, 115, 105, 98, 108, 101]] : List Str) [] false), (TProp.mk [119, 105, 100, 116, 104] false (TVal.mk 1 [97, 117, 116, 111] 0 (TColor.mk 0 0 0 0)) ([[97, 117, 116, 111]] : List Str) ([2, 3, 4] : List Int) true), (TProp.mk [104, 101, 105, 103, 104, 116] false (TVal.mk 1 [97, 117, 116, 111] 0 (TColor.mk 0 0 0 0)) ([[97, 117, 116, 111]] : List Str) ([2, 3, 4] : List Int) true), (TProp.mk [109, 97, 114, 103, 105, 110, 45, 116, 111, 112] false y40 ([[97, 117, 116, 111]] : List Str) ([2, 3, 4] : List Int) false), (TProp.mk [109, 97, 114, 103, 105, 110, 45, 114, 105, 103, 104, 116] false y43 ([[97, 117, 116, 111]] : List Str) ([2, 3, 4] : List Int) false), (TProp.mk [109, 97, 114, 103, 105, 110, 45, 98, 111, 116, 116, 111, 109] false y46 ([[97, 117, 116, 111]] : List Str) ([2, 3, 4] : List Int) false), (TProp.mk [109, 97, 114, 103, 105, 110, 45, 108, 101, 102, 116] false y49 ([[97, 117, 116, 111]] : List Str) ([2, 3, 4] : List Int) false), (TProp.mk [102, 111, 110, 116, 45, 115, 105, 122, 101] true y52 [] ([2, 3, 4] : List Int) true), (TProp.mk [108, 105, 110, 101, 45, 104, 101, 105, 103, 104, 116] true y53 ([[110, 111, 114, 109, 97, 108]] : List Str) q64 true), (TProp.mk [116, 101, 120, 116, 45, 97, 108, 105, 103, 110] true y66 ([[99, 101, 110, 116, 101, 114], [106, 117, 115, 116, 105, 102, 121], [108, 101, 102, 116], [114, 105, 103, 104, 116]] : List Str) [] false), (TProp.mk [111, 112, 97, 99, 105, 116, 121] false (TVal.mk 5 [] 1000 (TColor.mk 0 0 0 0)) [] ([5] : List Int) false), (TProp.mk [122, 45, 105, 110, 100, 101, 120] false (TVal.mk 1 [97, 117, 116, 111] 0 (TColor.mk 0 0 0 0)) ([[97, 117, 116, 111]] : List Str) ([6] : List Int) false), (TProp.mk [111, 114, 100, 101, 114] false (TVal.mk 6 [] 0 (TColor.mk 0 0 0 0)) [] ([6] : List Int) false)] : List TProp)
end Go.Proofs.YtfcnkhiohnjepaaDoor
