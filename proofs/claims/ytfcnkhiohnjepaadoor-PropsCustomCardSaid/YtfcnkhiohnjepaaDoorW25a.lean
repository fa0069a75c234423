/-
  What the Go functions compute, as Lean functions, and that a call returns just that. Printed by a program.
-/
import Derived.Test.YtfcnkhiohnjepaaDoorRows
import Derived.Test.YtfcnkhiohnjepaaDoorD
set_option linter.unusedVariables false
set_option maxRecDepth 20000
set_option maxHeartbeats 4000000
namespace Go.Proofs.YtfcnkhiohnjepaaDoor
open Go.V Go.RowKit

def gl_strings_asciiSpace : List Int := [0, 0, 0, 0, 0, 0, 0, 0, 0, 1, 1, 1, 1, 1, 0, 0, 0, 0, 0, 0, 0, 0, 0, 0, 0, 0, 0, 0, 0, 0, 0, 0, 1, 0, 0, 0, 0, 0, 0, 0, 0, 0, 0, 0, 0, 0, 0, 0, 0, 0, 0, 0, 0, 0, 0, 0, 0, 0, 0, 0, 0, 0, 0, 0, 0, 0, 0, 0, 0, 0, 0, 0, 0, 0, 0, 0, 0, 0, 0, 0, 0, 0, 0, 0, 0, 0, 0, 0, 0, 0, 0, 0, 0, 0, 0, 0, 0, 0, 0, 0, 0, 0, 0, 0, 0, 0, 0, 0, 0, 0, 0, 0, 0, 0, 0, 0, 0, 0, 0, 0, 0, 0, 0, 0, 0, 0, 0, 0, 0, 0, 0, 0, 0, 0, 0, 0, 0, 0, 0, 0, 0, 0, 0, 0, 0, 0, 0, 0, 0, 0, 0, 0, 0, 0, 0, 0, 0, 0, 0, 0, 0, 0, 0, 0, 0, 0, 0, 0, 0, 0, 0, 0, 0, 0, 0, 0, 0, 0, 0, 0, 0, 0, 0, 0, 0, 0, 0, 0, 0, 0, 0, 0, 0, 0, 0, 0, 0, 0, 0, 0, 0, 0, 0, 0, 0, 0, 0, 0, 0, 0, 0, 0, 0, 0, 0, 0, 0, 0, 0, 0, 0, 0, 0, 0, 0, 0, 0, 0, 0, 0, 0, 0, 0, 0, 0, 0, 0, 0, 0, 0, 0, 0, 0, 0, 0, 0, 0, 0, 0, 0, 0, 0, 0, 0, 0, 0]
structure TColor where
  Red : Int
  Green : Int
  Blue : Int
  Alpha : Int
instance : Inhabited TColor := ⟨⟨default, default, default, default⟩⟩
def tyColor : Ty TColor where
  z := 4
  enc := fun x g => [.int .u8 x.Red, .int .u8 x.Green, .int .u8 x.Blue, .int .u8 x.Alpha]
  inn := fun _ _ _ _ => True
  len := fun _ _ => rfl
  one := fun _ _ => rfl
  kp := fun _ _ _ => trivial
  anti := fun _ _ => trivial
  fresh := fun _ => trivial
structure TVal where
  Kind : Int
  Word : Str
  Num : Int
  Color : TColor
instance : Inhabited TVal := ⟨⟨default, default, default, default⟩⟩
def tyVal : Ty TVal where
  z := 7
  enc := fun x g => [.int .u8 x.Kind, .string ⟨⟨x.Word⟩⟩, .int .i64 x.Num, .int .u8 x.Color.Red, .int .u8 x.Color.Green, .int .u8 x.Color.Blue, .int .u8 x.Color.Alpha]
  inn := fun _ _ _ _ => True
  len := fun _ _ => rfl
  one := fun _ _ => rfl
  kp := fun _ _ _ => trivial
  anti := fun _ _ => trivial
  fresh := fun _ => trivial
def props_word (s : Str) : TVal :=
  (TVal.mk 1 s 0 (TColor.mk 0 0 0 0))
theorem props_word_w  (M : Av) (s : Str) (r : TVal) (hm : props_word s = r) (w : World) (hS : S0 M [] w) : Calls Tryd.prog 31 ⟨[.string ⟨⟨s⟩⟩]⟩ w (fun e w' => ∃ v, e = .returned v ∧ v = .agg ⟨[.int .u8 r.Kind, .string ⟨⟨r.Word⟩⟩, .int .i64 r.Num, .int .u8 r.Color.Red, .int .u8 r.Color.Green, .int .u8 r.Color.Blue, .int .u8 r.Color.Alpha]⟩ ∧ SH M (fpl []) w [] w') := by
  rw [props_word] at hm
  have hS0 : SH M (fpl []) w [] w := hS
  generalize hX : fpl [] = X at hS0 ⊢
  clear hS hX
  have hS := hS0
  clear hS0
  refine calls_entryP Tryd.func31 rfl Tryd.ntmps31 rfl fun _ H => ?_
  refine w_seq ?_
  refine wl_start ?_
  have hd : S0 (AvL M []) [] _ := hS.hand [] [] rfl rfl
  refine m_stp [2, 0] [(0, [], .string ⟨⟨s⟩⟩)] H rfl rfl rfl rfl (o_alloc [.int .u8 0, .string ⟨⟨[]⟩⟩, .int .i64 0, .int .u8 0, .int .u8 0, .int .u8 0, .int .u8 0] (z := .agg ⟨[.int .u8 0, .string ⟨⟨[]⟩⟩, .int .i64 0, .int .u8 0, .int .u8 0, .int .u8 0, .int .u8 0]⟩) hd (by kernel_rfl) rfl) (fun _ => rfl) fun _ wd2 v H3 hq => ?_
  clear H hd
  obtain ⟨b1, rfl, hq⟩ := hq
  replace hS : SH M X w [Ent.blk b1 [.int .u8 0, .string ⟨⟨[]⟩⟩, .int .i64 0, .int .u8 0, .int .u8 0, .int .u8 0, .int .u8 0]] _ := hS.join [] [] rfl rfl hq
  clear hq
  refine wl_end rfl ?_
  refine w_seq ?_
  refine wl_start ?_
  refine wl_batch 0 2 [] [2, 4] [(2, [], .pointer (some ⟨b1, 0, none⟩)), (4, [], .agg ⟨[.int .u8 1, .string ⟨⟨s⟩⟩, .int .i64 0, .int .u8 0, .int .u8 0, .int .u8 0, .int .u8 0]⟩)] [] H3 (by decide) (by kernel_rfl) trivial fun _ wd4 H5 hb => ?_
  clear H3
  replace hS := hS.below hb
  clear hb
  have hd : S0 (AvL M []) [Ent.blk b1 [.int .u8 0, .string ⟨⟨[]⟩⟩, .int .i64 0, .int .u8 0, .int .u8 0, .int .u8 0, .int .u8 0]] _ := hS.hand [0] [] rfl rfl
  refine m_stp0 [2] [(2, [], .pointer (some ⟨b1, 0, none⟩))] H5 rfl rfl rfl (o_store [.int .u8 1, .string ⟨⟨s⟩⟩, .int .i64 0, .int .u8 0, .int .u8 0, .int .u8 0, .int .u8 0] H5 hd rfl rfl (by kernel_rfl) rfl rfl rfl) rfl fun _ wd6 H7 hq => ?_
  clear H5 hd
  obtain ⟨_, hq⟩ := hq
  replace hS : SH M X w [Ent.blk b1 [.int .u8 1, .string ⟨⟨s⟩⟩, .int .i64 0, .int .u8 0, .int .u8 0, .int .u8 0, .int .u8 0]] _ := hS.join [0] [] rfl rfl hq
  clear hq
  refine wl_end rfl ?_
  refine w_ret ?_
  subst hm
  exact retR1 H7 rfl (oneRes_agg rfl (hS.bk 0 rfl) Tryd.underlying25 rfl (by kernel_rfl)) ⟨_, rfl, rfl, (hS.sel [] rfl)⟩
theorem props_word_ok  (s : Str) : Ret Tryd.prog 31 ⟨[.string ⟨⟨s⟩⟩]⟩ (.agg ⟨[.int .u8 (props_word s).Kind, .string ⟨⟨(props_word s).Word⟩⟩, .int .i64 (props_word s).Num, .int .u8 (props_word s).Color.Red, .int .u8 (props_word s).Color.Green, .int .u8 (props_word s).Color.Blue, .int .u8 (props_word s).Color.Alpha]⟩) := retP_of (Tryd.call31 _) (fun w h => props_word_w F0   s _ rfl w h)

structure TProp where
  Name : Str
  Inherited : Bool
  Initial : TVal
  Words : List Str
  Kinds : List Int
  Least : Bool
instance : Inhabited TProp := ⟨⟨default, default, default, default, default, default⟩⟩
def tyProp : Ty TProp where
  z := 12
  enc := fun x g => [.string ⟨⟨x.Name⟩⟩, .bool x.Inherited, .int .u8 x.Initial.Kind, .string ⟨⟨x.Initial.Word⟩⟩, .int .i64 x.Initial.Num, .int .u8 x.Initial.Color.Red, .int .u8 x.Initial.Color.Green, .int .u8 x.Initial.Color.Blue, .int .u8 x.Initial.Color.Alpha, .slice (g 0).a x.Words.length (g 0).c, .slice (g 1).a x.Kinds.length (g 1).c, .bool x.Least]
  inn := fun M w x g => SlG tS M w x.Words (g 0) ∧ SlG (tI .u8) M w x.Kinds (g 1) ∧ True
  len := fun _ _ => rfl
  one := fun _ _ => rfl
  kp := fun h k hX => ⟨h.1.kp k hX, h.2.1.kp k hX, trivial⟩
  anti := fun h hM => ⟨h.1.anti hM, h.2.1.anti hM, trivial⟩
  fresh := fun h => ⟨h.1.fresh, h.2.1.fresh, trivial⟩
theorem tyProp_i0 {M : Av} {w : World} {x : TProp} {g : Nat → Gh} (h : tyProp.inn M w x g) : SlG tS M w x.Words (g 0) := (show SlG tS M w x.Words (g 0) ∧ SlG (tI .u8) M w x.Kinds (g 1) ∧ True from h).1
theorem tyProp_i1 {M : Av} {w : World} {x : TProp} {g : Nat → Gh} (h : tyProp.inn M w x g) : SlG (tI .u8) M w x.Kinds (g 1) := (show SlG tS M w x.Words (g 0) ∧ SlG (tI .u8) M w x.Kinds (g 1) ∧ True from h).2.1
theorem tyProp_mk {M : Av} {w : World} {x : TProp} {g : Nat → Gh} (h0 : SlG tS M w x.Words (g 0)) (h1 : SlG (tI .u8) M w x.Kinds (g 1)) : tyProp.inn M w x g := show SlG tS M w x.Words (g 0) ∧ SlG (tI .u8) M w x.Kinds (g 1) ∧ True from ⟨h0, h1, trivial⟩
def props_color (name_ : Str) (inherited : Bool) (first : TVal) : TProp :=
  (TProp.mk name_ inherited first ([] : List Str) ([7, 8] : List Int) false)
theorem props_color_w  (M : Av) (name_ : Str) (inherited : Bool) (first : TVal) (r : TProp) (hm : props_color name_ inherited first = r) (w : World) (hS : S0 M [] w) : Calls Tryd.prog 32 ⟨[.string ⟨⟨name_⟩⟩, .bool inherited, .agg ⟨[.int .u8 first.Kind, .string ⟨⟨first.Word⟩⟩, .int .i64 first.Num, .int .u8 first.Color.Red, .int .u8 first.Color.Green, .int .u8 first.Color.Blue, .int .u8 first.Color.Alpha]⟩]⟩ w (fun e w' => ∃ v, e = .returned v ∧ ∃ (g901 : Gh) (g903 : Gh), v = .agg ⟨[.string ⟨⟨r.Name⟩⟩, .bool r.Inherited, .int .u8 r.Initial.Kind, .string ⟨⟨r.Initial.Word⟩⟩, .int .i64 r.Initial.Num, .int .u8 r.Initial.Color.Red, .int .u8 r.Initial.Color.Green, .int .u8 r.Initial.Color.Blue, .int .u8 r.Initial.Color.Alpha, .slice g901.a r.Words.length g901.c, .slice g903.a r.Kinds.length g903.c, .bool r.Least]⟩ ∧ SH M (fpl []) w [Ent.own 9 tS r.Words g901, Ent.own 5 (tI .u8) r.Kinds g903] w') := by
  rw [props_color] at hm
  have hS0 : SH M (fpl []) w [] w := hS
  generalize hX : fpl [] = X at hS0 ⊢
  clear hS hX
  have hS := hS0
  clear hS0
  refine calls_entryP Tryd.func32 rfl Tryd.ntmps32 rfl fun _ H => ?_
  refine w_seq ?_
  refine wl_start ?_
  have hd : S0 (AvL M []) [] _ := hS.hand [] [] rfl rfl
  refine m_stp [5, 0, 1] [(0, [], .string ⟨⟨name_⟩⟩), (1, [], .bool inherited)] H rfl rfl rfl rfl (o_box [.int .u8 first.Kind, .string ⟨⟨first.Word⟩⟩, .int .i64 first.Num, .int .u8 first.Color.Red, .int .u8 first.Color.Green, .int .u8 first.Color.Blue, .int .u8 first.Color.Alpha] H hd rfl rfl) (fun _ => rfl) fun _ wd2 v H3 hq => ?_
  clear H hd
  obtain ⟨b1, rfl, hq⟩ := hq
  replace hS : SH M X w [Ent.blk b1 [.int .u8 first.Kind, .string ⟨⟨first.Word⟩⟩, .int .i64 first.Num, .int .u8 first.Color.Red, .int .u8 first.Color.Green, .int .u8 first.Color.Blue, .int .u8 first.Color.Alpha]] _ := hS.join [] [] rfl rfl hq
  clear hq
  have hd : S0 (AvL M [Ent.blk b1 [.int .u8 first.Kind, .string ⟨⟨first.Word⟩⟩, .int .i64 first.Num, .int .u8 first.Color.Red, .int .u8 first.Color.Green, .int .u8 first.Color.Blue, .int .u8 first.Color.Alpha]]) [] _ := hS.hand [] [0] rfl rfl
  refine m_stp [6, 0, 1, 5] [(0, [], .string ⟨⟨name_⟩⟩), (1, [], .bool inherited), (5, [], .pointer (some ⟨b1, 0, none⟩))] H3 rfl rfl rfl rfl (o_alloc [.string ⟨⟨[]⟩⟩, .bool false, .int .u8 0, .string ⟨⟨[]⟩⟩, .int .i64 0, .int .u8 0, .int .u8 0, .int .u8 0, .int .u8 0, .slice none 0 0, .slice none 0 0, .bool false] (z := .agg ⟨[.string ⟨⟨[]⟩⟩, .bool false, .int .u8 0, .string ⟨⟨[]⟩⟩, .int .i64 0, .int .u8 0, .int .u8 0, .int .u8 0, .int .u8 0, .slice none 0 0, .slice none 0 0, .bool false]⟩) hd (by kernel_rfl) rfl) (fun _ => rfl) fun _ wd5 v H6 hq => ?_
  clear H3 hd
  obtain ⟨b4, rfl, hq⟩ := hq
  replace hS : SH M X w [Ent.blk b4 [.string ⟨⟨[]⟩⟩, .bool false, .int .u8 0, .string ⟨⟨[]⟩⟩, .int .i64 0, .int .u8 0, .int .u8 0, .int .u8 0, .int .u8 0, .slice none 0 0, .slice none 0 0, .bool false], Ent.blk b1 [.int .u8 first.Kind, .string ⟨⟨first.Word⟩⟩, .int .i64 first.Num, .int .u8 first.Color.Red, .int .u8 first.Color.Green, .int .u8 first.Color.Blue, .int .u8 first.Color.Alpha]] _ := hS.join [] [0] rfl rfl hq
  clear hq
  refine wl_end rfl ?_
  refine w_seq ?_
  refine wl_start ?_
  refine wl_batch 0 3 [(.agg ⟨[.int .u8 first.Kind, .string ⟨⟨first.Word⟩⟩, .int .i64 first.Num, .int .u8 first.Color.Red, .int .u8 first.Color.Green, .int .u8 first.Color.Blue, .int .u8 first.Color.Alpha]⟩)] [6, 7, 8, 9] [(6, [], .pointer (some ⟨b4, 0, none⟩)), (7, [], .string ⟨⟨name_⟩⟩), (8, [], .bool inherited), (9, [], .agg ⟨[.int .u8 first.Kind, .string ⟨⟨first.Word⟩⟩, .int .i64 first.Num, .int .u8 first.Color.Red, .int .u8 first.Color.Green, .int .u8 first.Color.Blue, .int .u8 first.Color.Alpha]⟩)] [fun wz => V.atN b1 0 [.int .u8 first.Kind, .string ⟨⟨first.Word⟩⟩, .int .i64 first.Num, .int .u8 first.Color.Red, .int .u8 first.Color.Green, .int .u8 first.Color.Blue, .int .u8 first.Color.Alpha] 0 wz] H6 (by decide) (by kernel_rfl) ⟨((hS.bk 1 rfl).atD rfl), trivial⟩ fun _ wd7 H8 hb => ?_
  clear H6
  replace hS := hS.below hb
  clear hb
  have hd : S0 (AvL M [Ent.blk b4 [.string ⟨⟨[]⟩⟩, .bool false, .int .u8 0, .string ⟨⟨[]⟩⟩, .int .i64 0, .int .u8 0, .int .u8 0, .int .u8 0, .int .u8 0, .slice none 0 0, .slice none 0 0, .bool false], Ent.blk b1 [.int .u8 first.Kind, .string ⟨⟨first.Word⟩⟩, .int .i64 first.Num, .int .u8 first.Color.Red, .int .u8 first.Color.Green, .int .u8 first.Color.Blue, .int .u8 first.Color.Alpha]]) [] _ := hS.hand [] [0, 1] rfl rfl
  refine m_stp [10, 6, 7, 8, 9] [(6, [], .pointer (some ⟨b4, 0, none⟩)), (7, [], .string ⟨⟨name_⟩⟩), (8, [], .bool inherited), (9, [], .agg ⟨[.int .u8 first.Kind, .string ⟨⟨first.Word⟩⟩, .int .i64 first.Num, .int .u8 first.Color.Red, .int .u8 first.Color.Green, .int .u8 first.Color.Blue, .int .u8 first.Color.Alpha]⟩)] H8 rfl rfl rfl rfl (o_lit (T := (tI .u8)) (E := 5) (zv := .int .u8 0) [.int .u8 7, .int .u8 8] ([7, 8] : List Int) [gL [], gL []] _ H8 hd rfl (by kernel_rfl) (by kernel_rfl) (by kernel_rfl) (by kernel_rfl) (by kernel_rfl) (by kernel_rfl) (by kernel_rfl) rfl (InnL.cons trivial (InnL.cons trivial InnL.nil))) (fun _ => rfl) fun _ wd11 v H12 hq => ?_
  clear H8 hd
  obtain ⟨g9, rfl, hq⟩ := hq
  replace hS : SH M X w [Ent.own 5 (tI .u8) ([7, 8] : List Int) g9, Ent.blk b4 [.string ⟨⟨[]⟩⟩, .bool false, .int .u8 0, .string ⟨⟨[]⟩⟩, .int .i64 0, .int .u8 0, .int .u8 0, .int .u8 0, .int .u8 0, .slice none 0 0, .slice none 0 0, .bool false], Ent.blk b1 [.int .u8 first.Kind, .string ⟨⟨first.Word⟩⟩, .int .i64 first.Num, .int .u8 first.Color.Red, .int .u8 first.Color.Green, .int .u8 first.Color.Blue, .int .u8 first.Color.Alpha]] _ := hS.join [] [0, 1] rfl rfl hq
  clear hq
  refine wl_batch 4 5 [] [6, 11] [(6, [], .pointer (some ⟨b4, 0, none⟩)), (11, [], .agg ⟨[.string ⟨⟨name_⟩⟩, .bool inherited, .int .u8 first.Kind, .string ⟨⟨first.Word⟩⟩, .int .i64 first.Num, .int .u8 first.Color.Red, .int .u8 first.Color.Green, .int .u8 first.Color.Blue, .int .u8 first.Color.Alpha, .slice none 0 0, .slice g9.a 2 g9.c, .bool false]⟩)] [] H12 (by decide) (by kernel_rfl) trivial fun _ wd13 H14 hb => ?_
  clear H12
  replace hS := hS.below hb
  clear hb
  have hd : S0 (AvL M [Ent.own 5 (tI .u8) ([7, 8] : List Int) g9, Ent.blk b1 [.int .u8 first.Kind, .string ⟨⟨first.Word⟩⟩, .int .i64 first.Num, .int .u8 first.Color.Red, .int .u8 first.Color.Green, .int .u8 first.Color.Blue, .int .u8 first.Color.Alpha]]) [Ent.blk b4 [.string ⟨⟨[]⟩⟩, .bool false, .int .u8 0, .string ⟨⟨[]⟩⟩, .int .i64 0, .int .u8 0, .int .u8 0, .int .u8 0, .int .u8 0, .slice none 0 0, .slice none 0 0, .bool false]] _ := hS.hand [1] [0, 2] rfl rfl
  refine m_stp0 [6] [(6, [], .pointer (some ⟨b4, 0, none⟩))] H14 rfl rfl rfl (o_store [.string ⟨⟨name_⟩⟩, .bool inherited, .int .u8 first.Kind, .string ⟨⟨first.Word⟩⟩, .int .i64 first.Num, .int .u8 first.Color.Red, .int .u8 first.Color.Green, .int .u8 first.Color.Blue, .int .u8 first.Color.Alpha, .slice none 0 0, .slice g9.a 2 g9.c, .bool false] H14 hd rfl rfl (by kernel_rfl) rfl rfl rfl) rfl fun _ wd15 H16 hq => ?_
  clear H14 hd
  obtain ⟨_, hq⟩ := hq
  replace hS : SH M X w [Ent.blk b4 [.string ⟨⟨name_⟩⟩, .bool inherited, .int .u8 first.Kind, .string ⟨⟨first.Word⟩⟩, .int .i64 first.Num, .int .u8 first.Color.Red, .int .u8 first.Color.Green, .int .u8 first.Color.Blue, .int .u8 first.Color.Alpha, .slice none 0 0, .slice g9.a 2 g9.c, .bool false], Ent.own 5 (tI .u8) ([7, 8] : List Int) g9, Ent.blk b1 [.int .u8 first.Kind, .string ⟨⟨first.Word⟩⟩, .int .i64 first.Num, .int .u8 first.Color.Red, .int .u8 first.Color.Green, .int .u8 first.Color.Blue, .int .u8 first.Color.Alpha]] _ := hS.join [1] [0, 2] rfl rfl hq
  clear hq
  refine wl_end rfl ?_
  replace hS : SH M X w [Ent.blk b4 [.string ⟨⟨name_⟩⟩, .bool inherited, .int .u8 first.Kind, .string ⟨⟨first.Word⟩⟩, .int .i64 first.Num, .int .u8 first.Color.Red, .int .u8 first.Color.Green, .int .u8 first.Color.Blue, .int .u8 first.Color.Alpha, .slice none 0 0, .slice g9.a 2 g9.c, .bool false], Ent.own 5 (tI .u8) ([7, 8] : List Int) g9] _ := hS.sel [0, 1] rfl
  refine w_ret ?_
  subst hm
  replace hS : SH M X w [Ent.own 9 tS ([] : List Str) (.nil), Ent.blk b4 [.string ⟨⟨name_⟩⟩, .bool inherited, .int .u8 first.Kind, .string ⟨⟨first.Word⟩⟩, .int .i64 first.Num, .int .u8 first.Color.Red, .int .u8 first.Color.Green, .int .u8 first.Color.Blue, .int .u8 first.Color.Alpha, .slice none 0 0, .slice g9.a 2 g9.c, .bool false], Ent.own 5 (tI .u8) ([7, 8] : List Int) g9] _ := hS.addNil 9 tS
  exact retR1 H16 rfl (oneRes_agg rfl (hS.bk 1 rfl) Tryd.underlying51 rfl (by kernel_rfl)) ⟨_, rfl, Gh.nil, g9, rfl, (hS.sel [0, 2] rfl)⟩
theorem props_color_ok  (name_ : Str) (inherited : Bool) (first : TVal) (r : TProp) (hm : props_color name_ inherited first = r) (M : Av) (w : World) (hS : S0 M [] w) : DoesX Tryd.prog 32 ⟨[.string ⟨⟨name_⟩⟩, .bool inherited, .agg ⟨[.int .u8 first.Kind, .string ⟨⟨first.Word⟩⟩, .int .i64 first.Num, .int .u8 first.Color.Red, .int .u8 first.Color.Green, .int .u8 first.Color.Blue, .int .u8 first.Color.Alpha]⟩]⟩ w (fun v w' => ∃ (g901 : Gh) (g903 : Gh), v = .agg ⟨[.string ⟨⟨r.Name⟩⟩, .bool r.Inherited, .int .u8 r.Initial.Kind, .string ⟨⟨r.Initial.Word⟩⟩, .int .i64 r.Initial.Num, .int .u8 r.Initial.Color.Red, .int .u8 r.Initial.Color.Green, .int .u8 r.Initial.Color.Blue, .int .u8 r.Initial.Color.Alpha, .slice g901.a r.Words.length g901.c, .slice g903.a r.Kinds.length g903.c, .bool r.Least]⟩ ∧ SH M (fpl []) w [Ent.own 9 tS r.Words g901, Ent.own 5 (tI .u8) r.Kinds g903] w') := ⟨Tryd.call32 _, props_color_w M   name_ inherited first r hm w hS⟩

structure Tstrings_span where
  start : Int
  end_ : Int
instance : Inhabited Tstrings_span := ⟨⟨default, default⟩⟩
def tystrings_span : Ty Tstrings_span where
  z := 2
  enc := fun x g => [.int .i64 x.start, .int .i64 x.end_]
  inn := fun _ _ _ _ => True
  len := fun _ _ => rfl
  one := fun _ _ => rfl
  kp := fun _ _ _ => trivial
  anti := fun _ _ => trivial
  fresh := fun _ => trivial
def strings_Fields_L1 (m : Nat) (s : Str) : Nat → Int → Int → Int → Int → Option (Int × Int)
  | 0, _, _, _, _ => none
  | kk + 1, v12, v13, v14, v15 =>
    cond (decide (v15 < (ln s))) (
    chk (0 ≤ v15 ∧ v15 < ln s) <|
    chk (0 ≤ (bat s v15) ∧ (bat s v15) < (256 : Int)) <|
    lt (w64 (gi gl_strings_asciiSpace (bat s v15))) fun x24 =>
    lt (ibit .and .i64 v13 (ibit .xor .i64 (-1) x24)) fun x27 =>
    strings_Fields_L1 m s kk (w64 (v12 + x27)) x24 (ibit .or .u8 v14 (bat s v15)) (w64 (v15 + 1))) (
    some (v12, v14))
def strings_Fields_L2 (m : Nat) (s : Str) : Nat → Int → Option (Int)
  | 0, _ => none
  | kk + 1, v54 =>
    chk ((decide (v54 < (ln s))) = true → 0 ≤ v54 ∧ v54 < ln s) <|
    chk ((decide (v54 < (ln s))) = true → 0 ≤ (bat s v54) ∧ (bat s v54) < (256 : Int)) <|
    lt (cond (decide (v54 < (ln s))) ((gi gl_strings_asciiSpace (bat s v54)) != 0) false) fun x57 =>
    cond x57 (
    strings_Fields_L2 m s kk (w64 (v54 + 1))) (
    some v54)
def strings_Fields_L4 (m : Nat) (s : Str) : Nat → Int → Option (Int)
  | 0, _ => none
  | kk + 1, v93 =>
    chk ((decide (v93 < (ln s))) = true → 0 ≤ v93 ∧ v93 < ln s) <|
    chk ((decide (v93 < (ln s))) = true → 0 ≤ (bat s v93) ∧ (bat s v93) < (256 : Int)) <|
    lt (cond (decide (v93 < (ln s))) ((gi gl_strings_asciiSpace (bat s v93)) != 0) false) fun x96 =>
    cond x96 (
    strings_Fields_L4 m s kk (w64 (v93 + 1))) (
    some v93)
def strings_Fields_L3 (m : Nat) (s : Str) : Nat → (List Str) → Int → Int → Int → Option (Int × Int × (List Str))
  | 0, _, _, _, _ => none
  | kk + 1, v66, v68, v69, v70 =>
    cond (decide (v70 < (ln s))) (
    chk (0 ≤ v70 ∧ v70 < ln s) <|
    chk (0 ≤ (bat s v70) ∧ (bat s v70) < (256 : Int)) <|
    lt ((gi gl_strings_asciiSpace (bat s v70)) == 0) fun x75 =>
    cond x75 (
    strings_Fields_L3 m s kk v66 v68 v69 (w64 (v70 + 1))) (
    chk (0 ≤ v69 ∧ v69 ≤ v70 ∧ v70 ≤ ln s) <|
    chk (0 ≤ v68 ∧ v68 < ln v66) <|
    lt (setl v66 v68 (sub s v69 v70)) fun q87 =>
    Option.bind (
    strings_Fields_L4 m s m (w64 (v70 + 1))) fun (z92 : Int) =>
    strings_Fields_L3 m s kk q87 (w64 (v68 + 1)) z92 z92)) (
    some (v68, v69, v66))
def strings_Fields (m : Nat) (s : Str) : Option (List Str) :=
  Option.bind (
  strings_Fields_L1 m s m 0 1 0 0) fun (z9 : Int × Int) =>
  cond (decide (128 ≤ z9.2)) (
  none) (
  chk (0 ≤ z9.1 ∧ z9.1 ≤ z9.1 ∧ z9.1 ≤ 1099511627776) <|
  lt (List.replicate (z9.1).toNat ([] : Str)) fun q40 =>
  Option.bind (
  strings_Fields_L2 m s m 0) fun (z53 : Int) =>
  Option.bind (
  strings_Fields_L3 m s m q40 0 z53 z53) fun (z65 : Int × Int × (List Str)) =>
  Option.bind (
  cond (decide (z65.2.1 < (ln s))) (
  chk (0 ≤ z65.2.1 ∧ z65.2.1 ≤ ln s) <|
  chk (0 ≤ z65.1 ∧ z65.1 < ln z65.2.2) <|
  lt (setl z65.2.2 z65.1 (sub s z65.2.1 (ln s))) fun q117 =>
  some q117) (
  some z65.2.2)) fun (z107 : List Str) =>
  some z107)
theorem strings_Fields_w  (M : Av) (m : Nat) (s : Str) (r : List Str) (hm : strings_Fields m s = some r) (w : World) (hS : S0 M [Ent.im (tI .u8) gl_strings_asciiSpace (Gh.mk (some ⟨0, 0, none⟩) 256 fun _ _ => .nil)] w) : Calls Tryd.prog 40 ⟨[.string ⟨⟨s⟩⟩]⟩ w (fun e w' => ∃ v, e = .returned v ∧ ∃ (g901 : Gh), v = .slice g901.a r.length g901.c ∧ SH M (fpl [Ent.im (tI .u8) gl_strings_asciiSpace (Gh.mk (some ⟨0, 0, none⟩) 256 fun _ _ => .nil)]) w [Ent.own 9 tS r g901] w') := by
  rw [strings_Fields] at hm
  have hS0 : SH M (fpl [Ent.im (tI .u8) gl_strings_asciiSpace (Gh.mk (some ⟨0, 0, none⟩) 256 fun _ _ => .nil)]) w [Ent.im (tI .u8) gl_strings_asciiSpace (Gh.mk (some ⟨0, 0, none⟩) 256 fun _ _ => .nil)] w := hS
  generalize hX : fpl [Ent.im (tI .u8) gl_strings_asciiSpace (Gh.mk (some ⟨0, 0, none⟩) 256 fun _ _ => .nil)] = X at hS0 ⊢
  clear hS hX
  have hS := hS0
  clear hS0
  refine calls_entryP Tryd.func40 rfl Tryd.ntmps40 rfl fun _ H => ?_
  refine s_reg [] [0] [(0, [], .string ⟨⟨s⟩⟩)] [] H (by kernel_rfl) trivial fun _ wd1 H2 hb => ?_
  clear H
  replace hS := hS.below hb
  clear hb
  refine s_reg [] [0, 3] [(0, [], .string ⟨⟨s⟩⟩), (3, [], .int .i64 0)] [] H2 (by kernel_rfl) trivial fun _ wd3 H4 hb => ?_
  clear H2
  replace hS := hS.below hb
  clear hb
  refine s_reg [] [0, 3, 4] [(0, [], .string ⟨⟨s⟩⟩), (3, [], .int .i64 0), (4, [], .int .i64 1)] [] H4 (by kernel_rfl) trivial fun _ wd5 H6 hb => ?_
  clear H4
  replace hS := hS.below hb
  clear hb
  refine s_reg [] [0, 3, 4, 5] [(0, [], .string ⟨⟨s⟩⟩), (3, [], .int .i64 0), (4, [], .int .i64 1), (5, [], .int .u8 0)] [] H6 (by kernel_rfl) trivial fun _ wd7 H8 hb => ?_
  clear H6
  replace hS := hS.below hb
  clear hb
  obtain ⟨z9, hz, hm⟩ := bindE hm
  refine w_cut (fun a' w' => Fr 106 [(0, [], .string ⟨⟨s⟩⟩), (3, [], .int .i64 z9.1), (5, [], .int .u8 z9.2)] a' ∧ SH M X w [Ent.im (tI .u8) gl_strings_asciiSpace (Gh.mk (some ⟨0, 0, none⟩) 256 fun _ _ => .nil)] w') ?_ ?_
  · replace hm := hz
    refine s_reg [] [0, 3, 4, 5, 6] [(0, [], .string ⟨⟨s⟩⟩), (3, [], .int .i64 0), (4, [], .int .i64 1), (5, [], .int .u8 0), (6, [], .int .i64 0)] [] H8 (by kernel_rfl) trivial fun _ wd10 H11 hb => ?_
    clear H8
    replace hS := hS.below hb
    clear hb
    refine w_block ?_
    refine w_loop (fun kk a' w' => ∃ (v12 : Int) (v13 : Int) (v14 : Int) (v15 : Int), strings_Fields_L1 m s kk v12 v13 v14 v15 = some _ ∧ Fr 106 [(0, [], .string ⟨⟨s⟩⟩), (3, [], .int .i64 v12), (4, [], .int .i64 v13), (5, [], .int .u8 v14), (6, [], .int .i64 v15)] a' ∧ SH M X w [Ent.im (tI .u8) gl_strings_asciiSpace (Gh.mk (some ⟨0, 0, none⟩) 256 fun _ _ => .nil)] w') ⟨_, 0, 1, 0, 0, hm, Fr.keep (ks := [0, 3, 4, 5, 6]) H11 (by kernel_rfl), hS⟩ ?_
    clear hm H11 hS
    rintro kk _ wd34 ⟨v12, v13, v14, v15, hm, H, hS⟩
    cases kk with
    | zero => exact noneE hm
    | succ kk =>
      rw [strings_Fields_L1] at hm
      refine w_seq ?_
      refine s_reg [] [0, 3, 4, 5, 6, 16] [(0, [], .string ⟨⟨s⟩⟩), (3, [], .int .i64 v12), (4, [], .int .i64 v13), (5, [], .int .u8 v14), (6, [], .int .i64 v15), (16, [], .bool (decide (v15 < (ln s))))] [] H (by kernel_rfl) trivial fun _ wd16 H17 hb => ?_
      clear H
      replace hS := hS.below hb
      clear hb
      refine w_if H17 rfl (fun hc => ?_) (fun hc => ?_)
      · replace hm := bT hc hm
        refine w_skip ?_
        refine w_seq ?_
        refine w_block ?_
        obtain ⟨ho18, hm⟩ := chkE hm
        refine s_reg [] [0, 3, 4, 5, 6, 7] [(0, [], .string ⟨⟨s⟩⟩), (3, [], .int .i64 v12), (4, [], .int .i64 v13), (5, [], .int .u8 v14), (6, [], .int .i64 v15), (7, [], .int .u8 (bat s v15))] [fun _ => 0 ≤ v15 ∧ v15 < ln s] H17 (by kernel_rfl) ⟨ho18, trivial⟩ fun _ wd19 H20 hb => ?_
        clear H17
        replace hS := hS.below hb
        clear hb
        refine s_reg [] [0, 3, 4, 5, 6, 7] [(0, [], .string ⟨⟨s⟩⟩), (3, [], .int .i64 v12), (4, [], .int .i64 v13), (5, [], .int .u8 (ibit .or .u8 v14 (bat s v15))), (6, [], .int .i64 v15), (7, [], .int .u8 (bat s v15))] [] H20 (by kernel_rfl) trivial fun _ wd21 H22 hb => ?_
        clear H20
        replace hS := hS.below hb
        clear hb
        obtain ⟨ho23, hm⟩ := chkE hm
        obtain ⟨x24, hx24, hm⟩ := letE hm
        refine s_reg [(.int .u8 (gi gl_strings_asciiSpace (bat s v15)))] [0, 3, 4, 5, 6, 8] [(0, [], .string ⟨⟨s⟩⟩), (3, [], .int .i64 v12), (4, [], .int .i64 v13), (5, [], .int .u8 (ibit .or .u8 v14 (bat s v15))), (6, [], .int .i64 v15), (8, [], .int .i64 x24)] [fun _ => 0 ≤ (bat s v15) ∧ (bat s v15) < (256 : Int), fun wz => V.at1 ⟨0, 0 + ((bat s v15)).toNat * 1, none⟩ (.int .u8 (gi gl_strings_asciiSpace (bat s v15))) wz] H22 (by subst hx24; kernel_rfl) ⟨ho23, ((hS.im 0 rfl).at1 ho23 0 rfl), trivial⟩ fun _ wd25 H26 hb => ?_
        clear H22
        replace hS := hS.below hb
        clear hb
        obtain ⟨x27, hx27, hm⟩ := letE hm
        refine s_reg [] [0, 3, 5, 6, 8] [(0, [], .string ⟨⟨s⟩⟩), (3, [], .int .i64 (w64 (v12 + x27))), (5, [], .int .u8 (ibit .or .u8 v14 (bat s v15))), (6, [], .int .i64 v15), (8, [], .int .i64 x24)] [] H26 (by subst hx27; kernel_rfl) trivial fun _ wd28 H29 hb => ?_
        clear H26
        replace hS := hS.below hb
        clear hb
        refine w_reg [] [0, 3, 4, 5, 6] [(0, [], .string ⟨⟨s⟩⟩), (3, [], .int .i64 (w64 (v12 + x27))), (4, [], .int .i64 x24), (5, [], .int .u8 (ibit .or .u8 v14 (bat s v15))), (6, [], .int .i64 v15)] [] H29 (by kernel_rfl) trivial fun _ wd30 H31 hb => ?_
        clear H29
        replace hS := hS.below hb
        clear hb
        refine w_reg [] [0, 3, 4, 5, 6] [(0, [], .string ⟨⟨s⟩⟩), (3, [], .int .i64 (w64 (v12 + x27))), (4, [], .int .i64 x24), (5, [], .int .u8 (ibit .or .u8 v14 (bat s v15))), (6, [], .int .i64 (w64 (v15 + 1)))] [] H31 (by kernel_rfl) trivial fun _ wd32 H33 hb => ?_
        clear H31
        replace hS := hS.below hb
        clear hb
        exact ⟨_, Nat.lt_succ_self _, w64 (v12 + x27), x24, ibit .or .u8 v14 (bat s v15), w64 (v15 + 1), hm, Fr.keep (ks := [0, 3, 4, 5, 6]) H33 (by kernel_rfl), hS⟩
      · replace hm := bF hc hm
        refine w_exit rfl ?_
        obtain rfl := someE hm
        exact ⟨Fr.keep (ks := [0, 3, 5]) H17 (by kernel_rfl), hS⟩
  · rintro _ wd124 ⟨H, hS⟩
    refine w_seq ?_
    refine s_reg [] [0, 3, 37] [(0, [], .string ⟨⟨s⟩⟩), (3, [], .int .i64 z9.1), (37, [], .bool (decide (128 ≤ z9.2)))] [] H (by kernel_rfl) trivial fun _ wd35 H36 hb => ?_
    clear H
    replace hS := hS.below hb
    clear hb
    refine w_if H36 rfl (fun hc => ?_) (fun hc => ?_)
    · replace hm := bT hc hm
      exact noneE hm
    · replace hm := bF hc hm
      refine w_skip ?_
      refine w_seq ?_
      refine wl_start ?_
      refine wl_batch 0 1 [] [0, 40] [(0, [], .string ⟨⟨s⟩⟩), (40, [], .int .i64 z9.1)] [] H36 (by decide) (by kernel_rfl) trivial fun _ wd37 H38 hb => ?_
      clear H36
      replace hS := hS.below hb
      clear hb
      obtain ⟨ho39, hm⟩ := chkE hm
      obtain ⟨q40, hq40, hm⟩ := letE hm
      have hd : S0 (AvL M [Ent.im (tI .u8) gl_strings_asciiSpace (Gh.mk (some ⟨0, 0, none⟩) 256 fun _ _ => .nil)]) [] _ := hS.hand [] [0] rfl rfl
      refine m_stp [41, 0] [(0, [], .string ⟨⟨s⟩⟩)] H38 rfl rfl rfl rfl (o_make (T := tS) (E := 9) (zv := .string ⟨⟨[]⟩⟩) ([] : Str) H38 hd rfl rfl (by kernel_rfl) (by kernel_rfl) rfl rfl (fun _ _ => trivial) ho39) (fun _ => rfl) fun _ wd41 v H42 hq => ?_
      clear H38 hd
      obtain ⟨g43, rfl, hq⟩ := hq
      rw [← hq40] at hq
      rw [← hq40] at H42
      replace hS : SH M X w [Ent.own 9 tS q40 g43, Ent.im (tI .u8) gl_strings_asciiSpace (Gh.mk (some ⟨0, 0, none⟩) 256 fun _ _ => .nil)] _ := hS.join [] [0] rfl rfl hq
      clear hq
      refine wl_batch 2 3 [] [0, 9] [(0, [], .string ⟨⟨s⟩⟩), (9, [], .slice g43.a q40.length g43.c)] [] H42 (by decide) (by kernel_rfl) trivial fun _ wd45 H46 hb => ?_
      clear H42
      replace hS := hS.below hb
      clear hb
      refine wl_end rfl ?_
      refine s_reg [] [0, 9, 10] [(0, [], .string ⟨⟨s⟩⟩), (9, [], .slice g43.a q40.length g43.c), (10, [], .int .i64 0)] [] H46 (by kernel_rfl) trivial fun _ wd47 H48 hb => ?_
      clear H46
      replace hS := hS.below hb
      clear hb
      refine s_reg [] [0, 9, 10] [(0, [], .string ⟨⟨s⟩⟩), (9, [], .slice g43.a q40.length g43.c), (10, [], .int .i64 0)] [] H48 (by kernel_rfl) trivial fun _ wd49 H50 hb => ?_
      clear H48
      replace hS := hS.below hb
      clear hb
      refine s_reg [] [0, 9, 10, 12] [(0, [], .string ⟨⟨s⟩⟩), (9, [], .slice g43.a q40.length g43.c), (10, [], .int .i64 0), (12, [], .int .i64 0)] [] H50 (by kernel_rfl) trivial fun _ wd51 H52 hb => ?_
      clear H50
      replace hS := hS.below hb
      clear hb
      obtain ⟨z53, hz, hm⟩ := bindE hm
      refine w_cut (fun a' w' => Fr 106 [(0, [], .string ⟨⟨s⟩⟩), (9, [], .slice g43.a q40.length g43.c), (10, [], .int .i64 0), (12, [], .int .i64 z53)] a' ∧ SH M X w [Ent.own 9 tS q40 g43, Ent.im (tI .u8) gl_strings_asciiSpace (Gh.mk (some ⟨0, 0, none⟩) 256 fun _ _ => .nil)] w') ?_ ?_
      · replace hm := hz
        refine w_block ?_
        refine w_loop (fun kk a' w' => ∃ (v54 : Int), strings_Fields_L2 m s kk v54 = some _ ∧ Fr 106 [(0, [], .string ⟨⟨s⟩⟩), (9, [], .slice g43.a q40.length g43.c), (10, [], .int .i64 0), (12, [], .int .i64 v54)] a' ∧ SH M X w [Ent.own 9 tS q40 g43, Ent.im (tI .u8) gl_strings_asciiSpace (Gh.mk (some ⟨0, 0, none⟩) 256 fun _ _ => .nil)] w') ⟨_, 0, hm, Fr.keep (ks := [0, 9, 10, 12]) H52 (by kernel_rfl), hS⟩ ?_
        clear hm H52 hS
        rintro kk _ wd62 ⟨v54, hm, H, hS⟩
        cases kk with
        | zero => exact noneE hm
        | succ kk =>
          rw [strings_Fields_L2] at hm
          refine w_seq ?_
          obtain ⟨ho55, hm⟩ := chkE hm
          obtain ⟨ho56, hm⟩ := chkE hm
          obtain ⟨x57, hx57, hm⟩ := letE hm
          refine s_reg [(.int .u8 (gi gl_strings_asciiSpace (bat s v54)))] [0, 9, 10, 12, 53] [(0, [], .string ⟨⟨s⟩⟩), (9, [], .slice g43.a q40.length g43.c), (10, [], .int .i64 0), (12, [], .int .i64 v54), (53, [], .bool x57)] [fun _ => ((decide (v54 < (ln s))) = true ∧ True → 0 ≤ v54 ∧ v54 < ln s), fun _ => ((decide (v54 < (ln s))) = true ∧ True → 0 ≤ (bat s v54) ∧ (bat s v54) < (256 : Int)), fun wz => ((decide (v54 < (ln s))) = true ∧ True → V.at1 ⟨0, 0 + ((bat s v54)).toNat * 1, none⟩ (.int .u8 (gi gl_strings_asciiSpace (bat s v54))) wz)] H (by subst hx57; kernel_rfl) ⟨fun hg => (ho55 hg.1), fun hg => (ho56 hg.1), fun hg => (hS.im 1 rfl).at1 (ho56 hg.1) 0 rfl, trivial⟩ fun _ wd58 H59 hb => ?_
          clear H
          replace hS := hS.below hb
          clear hb
          refine w_if H59 rfl (fun hc => ?_) (fun hc => ?_)
          · replace hm := bT hc hm
            refine w_skip ?_
            refine w_block ?_
            refine w_reg [] [0, 9, 10, 12] [(0, [], .string ⟨⟨s⟩⟩), (9, [], .slice g43.a q40.length g43.c), (10, [], .int .i64 0), (12, [], .int .i64 (w64 (v54 + 1)))] [] H59 (by kernel_rfl) trivial fun _ wd60 H61 hb => ?_
            clear H59
            replace hS := hS.below hb
            clear hb
            exact ⟨_, Nat.lt_succ_self _, w64 (v54 + 1), hm, Fr.keep (ks := [0, 9, 10, 12]) H61 (by kernel_rfl), hS⟩
          · replace hm := bF hc hm
            refine w_exit rfl ?_
            obtain rfl := someE hm
            exact ⟨Fr.keep (ks := [0, 9, 10, 12]) H59 (by kernel_rfl), hS⟩
      · rintro _ wd123 ⟨H, hS⟩
        refine s_reg [] [0, 9, 10, 11, 12] [(0, [], .string ⟨⟨s⟩⟩), (9, [], .slice g43.a q40.length g43.c), (10, [], .int .i64 0), (11, [], .int .i64 z53), (12, [], .int .i64 z53)] [] H (by kernel_rfl) trivial fun _ wd63 H64 hb => ?_
        clear H
        replace hS := hS.below hb
        clear hb
        obtain ⟨z65, hz, hm⟩ := bindE hm
        refine w_cut (fun a' w' => ∃ (g106 : Gh), Fr 106 [(0, [], .string ⟨⟨s⟩⟩), (9, [], .slice g106.a z65.2.2.length g106.c), (10, [], .int .i64 z65.1), (11, [], .int .i64 z65.2.1)] a' ∧ SH M X w [Ent.own 9 tS z65.2.2 g106, Ent.im (tI .u8) gl_strings_asciiSpace (Gh.mk (some ⟨0, 0, none⟩) 256 fun _ _ => .nil)] w') ?_ ?_
        · replace hm := hz
          refine w_block ?_
          refine w_loop (fun kk a' w' => ∃ (v66 : List Str) (v68 : Int) (v69 : Int) (v70 : Int) (g67 : Gh), strings_Fields_L3 m s kk v66 v68 v69 v70 = some _ ∧ Fr 106 [(0, [], .string ⟨⟨s⟩⟩), (9, [], .slice g67.a v66.length g67.c), (10, [], .int .i64 v68), (11, [], .int .i64 v69), (12, [], .int .i64 v70)] a' ∧ SH M X w [Ent.own 9 tS v66 g67, Ent.im (tI .u8) gl_strings_asciiSpace (Gh.mk (some ⟨0, 0, none⟩) 256 fun _ _ => .nil)] w') ⟨_, q40, 0, z53, z53, g43, hm, Fr.keep (ks := [0, 9, 10, 11, 12]) H64 (by kernel_rfl), hS⟩ ?_
          clear hm H64 hS
          rintro kk _ wd105 ⟨v66, v68, v69, v70, g67, hm, H, hS⟩
          cases kk with
          | zero => exact noneE hm
          | succ kk =>
            rw [strings_Fields_L3] at hm
            refine w_seq ?_
            refine s_reg [] [0, 9, 10, 11, 12, 60] [(0, [], .string ⟨⟨s⟩⟩), (9, [], .slice g67.a v66.length g67.c), (10, [], .int .i64 v68), (11, [], .int .i64 v69), (12, [], .int .i64 v70), (60, [], .bool (decide (v70 < (ln s))))] [] H (by kernel_rfl) trivial fun _ wd71 H72 hb => ?_
            clear H
            replace hS := hS.below hb
            clear hb
            refine w_if H72 rfl (fun hc => ?_) (fun hc => ?_)
            · replace hm := bT hc hm
              refine w_skip ?_
              refine w_block ?_
              refine w_seq ?_
              obtain ⟨ho73, hm⟩ := chkE hm
              obtain ⟨ho74, hm⟩ := chkE hm
              obtain ⟨x75, hx75, hm⟩ := letE hm
              refine s_reg [(.int .u8 (gi gl_strings_asciiSpace (bat s v70)))] [0, 9, 10, 11, 12, 66] [(0, [], .string ⟨⟨s⟩⟩), (9, [], .slice g67.a v66.length g67.c), (10, [], .int .i64 v68), (11, [], .int .i64 v69), (12, [], .int .i64 v70), (66, [], .bool x75)] [fun _ => 0 ≤ v70 ∧ v70 < ln s, fun _ => 0 ≤ (bat s v70) ∧ (bat s v70) < (256 : Int), fun wz => V.at1 ⟨0, 0 + ((bat s v70)).toNat * 1, none⟩ (.int .u8 (gi gl_strings_asciiSpace (bat s v70))) wz] H72 (by subst hx75; kernel_rfl) ⟨ho73, ho74, ((hS.im 1 rfl).at1 ho74 0 rfl), trivial⟩ fun _ wd76 H77 hb => ?_
              clear H72
              replace hS := hS.below hb
              clear hb
              refine w_if H77 rfl (fun hc => ?_) (fun hc => ?_)
              · replace hm := bT hc hm
                refine s_reg [] [0, 9, 10, 11, 12] [(0, [], .string ⟨⟨s⟩⟩), (9, [], .slice g67.a v66.length g67.c), (10, [], .int .i64 v68), (11, [], .int .i64 v69), (12, [], .int .i64 (w64 (v70 + 1)))] [] H77 (by kernel_rfl) trivial fun _ wd78 H79 hb => ?_
                clear H77
                replace hS := hS.below hb
                clear hb
                refine w_exit rfl ?_
                exact ⟨_, Nat.lt_succ_self _, v66, v68, v69, w64 (v70 + 1), g67, hm, Fr.keep (ks := [0, 9, 10, 11, 12]) H79 (by kernel_rfl), hS⟩
              · replace hm := bF hc hm
                refine w_skip ?_
                refine w_seq ?_
                refine wl_start ?_
                obtain ⟨ho80, hm⟩ := chkE hm
                obtain ⟨ho81, hm⟩ := chkE hm
                refine wl_batch 0 7 [] [0, 9, 10, 12, 74, 75] [(0, [], .string ⟨⟨s⟩⟩), (9, [], .slice g67.a v66.length g67.c), (10, [], .int .i64 v68), (12, [], .int .i64 v70), (74, [], .string ⟨⟨sub s v69 v70⟩⟩), (75, [], .pointer (some ⟨ab g67.a, ao g67.a + (v68).toNat * 1, none⟩))] [fun _ => 0 ≤ v69 ∧ v69 ≤ v70 ∧ v70 ≤ ln s, fun _ => oka g67.a ∧ 0 ≤ v68 ∧ v68 < ln v66] H77 (by decide) (by kernel_rfl) ⟨ho80, ((hS.osl 0 rfl).oki ho81), trivial⟩ fun _ wd82 H83 hb => ?_
                clear H77
                replace hS := hS.below hb
                clear hb
                have hd : S0 (AvL M [Ent.im (tI .u8) gl_strings_asciiSpace (Gh.mk (some ⟨0, 0, none⟩) 256 fun _ _ => .nil)]) [Ent.own 9 tS v66 g67] _ := hS.hand [0] [1] rfl rfl
                refine m_stp0 [0, 9, 10, 12] [(0, [], .string ⟨⟨s⟩⟩), (9, [], .slice g67.a v66.length g67.c), (10, [], .int .i64 v68), (12, [], .int .i64 v70)] H83 rfl rfl rfl (o_estore (T := tS) (g := g67) (q := v66) (ix := v68) (off := 0) (sub s v69 v70) (gL []) H83 hd rfl rfl rfl rfl (by kernel_rfl) rfl rfl ho81 rfl trivial rfl) rfl fun _ wd84 H85 hq => ?_
                clear H83 hd
                obtain ⟨_, hq⟩ := hq
                obtain ⟨s86, hq⟩ := hq
                obtain ⟨q87, hq87, hm⟩ := letE hm
                rw [← hq87] at hq
                have hn : v66.length = q87.length := by rw [hq87, setl_len]
                first | rw [hn] at H85 | skip
                clear hn
                replace hS : SH M X w [Ent.own 9 tS q87 (Gh.mk g67.a g67.c s86), Ent.im (tI .u8) gl_strings_asciiSpace (Gh.mk (some ⟨0, 0, none⟩) 256 fun _ _ => .nil)] _ := hS.join [0] [1] rfl rfl hq
                clear hq
                refine wl_end rfl ?_
                refine s_reg [] [0, 9, 10, 12] [(0, [], .string ⟨⟨s⟩⟩), (9, [], .slice (Gh.mk g67.a g67.c s86).a q87.length (Gh.mk g67.a g67.c s86).c), (10, [], .int .i64 (w64 (v68 + 1))), (12, [], .int .i64 v70)] [] H85 (by kernel_rfl) trivial fun _ wd88 H89 hb => ?_
                clear H85
                replace hS := hS.below hb
                clear hb
                refine s_reg [] [0, 9, 10, 12] [(0, [], .string ⟨⟨s⟩⟩), (9, [], .slice (Gh.mk g67.a g67.c s86).a q87.length (Gh.mk g67.a g67.c s86).c), (10, [], .int .i64 (w64 (v68 + 1))), (12, [], .int .i64 (w64 (v70 + 1)))] [] H89 (by kernel_rfl) trivial fun _ wd90 H91 hb => ?_
                clear H89
                replace hS := hS.below hb
                clear hb
                obtain ⟨z92, hz, hm⟩ := bindE hm
                refine w_cut (fun a' w' => Fr 106 [(0, [], .string ⟨⟨s⟩⟩), (9, [], .slice (Gh.mk g67.a g67.c s86).a q87.length (Gh.mk g67.a g67.c s86).c), (10, [], .int .i64 (w64 (v68 + 1))), (12, [], .int .i64 z92)] a' ∧ SH M X w [Ent.own 9 tS q87 (Gh.mk g67.a g67.c s86), Ent.im (tI .u8) gl_strings_asciiSpace (Gh.mk (some ⟨0, 0, none⟩) 256 fun _ _ => .nil)] w') ?_ ?_
                · replace hm := hz
                  refine w_block ?_
                  refine w_loop (fun kk a' w' => ∃ (v93 : Int), strings_Fields_L4 m s kk v93 = some _ ∧ Fr 106 [(0, [], .string ⟨⟨s⟩⟩), (9, [], .slice (Gh.mk g67.a g67.c s86).a q87.length (Gh.mk g67.a g67.c s86).c), (10, [], .int .i64 (w64 (v68 + 1))), (12, [], .int .i64 v93)] a' ∧ SH M X w [Ent.own 9 tS q87 (Gh.mk g67.a g67.c s86), Ent.im (tI .u8) gl_strings_asciiSpace (Gh.mk (some ⟨0, 0, none⟩) 256 fun _ _ => .nil)] w') ⟨_, w64 (v70 + 1), hm, Fr.keep (ks := [0, 9, 10, 12]) H91 (by kernel_rfl), hS⟩ ?_
                  clear hm H91 hS
                  rintro kk _ wd101 ⟨v93, hm, H, hS⟩
                  cases kk with
                  | zero => exact noneE hm
                  | succ kk =>
                    rw [strings_Fields_L4] at hm
                    refine w_seq ?_
                    obtain ⟨ho94, hm⟩ := chkE hm
                    obtain ⟨ho95, hm⟩ := chkE hm
                    obtain ⟨x96, hx96, hm⟩ := letE hm
                    refine s_reg [(.int .u8 (gi gl_strings_asciiSpace (bat s v93)))] [0, 9, 10, 12, 91] [(0, [], .string ⟨⟨s⟩⟩), (9, [], .slice (Gh.mk g67.a g67.c s86).a q87.length (Gh.mk g67.a g67.c s86).c), (10, [], .int .i64 (w64 (v68 + 1))), (12, [], .int .i64 v93), (91, [], .bool x96)] [fun _ => ((decide (v93 < (ln s))) = true ∧ True → 0 ≤ v93 ∧ v93 < ln s), fun _ => ((decide (v93 < (ln s))) = true ∧ True → 0 ≤ (bat s v93) ∧ (bat s v93) < (256 : Int)), fun wz => ((decide (v93 < (ln s))) = true ∧ True → V.at1 ⟨0, 0 + ((bat s v93)).toNat * 1, none⟩ (.int .u8 (gi gl_strings_asciiSpace (bat s v93))) wz)] H (by subst hx96; kernel_rfl) ⟨fun hg => (ho94 hg.1), fun hg => (ho95 hg.1), fun hg => (hS.im 1 rfl).at1 (ho95 hg.1) 0 rfl, trivial⟩ fun _ wd97 H98 hb => ?_
                    clear H
                    replace hS := hS.below hb
                    clear hb
                    refine w_if H98 rfl (fun hc => ?_) (fun hc => ?_)
                    · replace hm := bT hc hm
                      refine w_skip ?_
                      refine w_block ?_
                      refine w_reg [] [0, 9, 10, 12] [(0, [], .string ⟨⟨s⟩⟩), (9, [], .slice (Gh.mk g67.a g67.c s86).a q87.length (Gh.mk g67.a g67.c s86).c), (10, [], .int .i64 (w64 (v68 + 1))), (12, [], .int .i64 (w64 (v93 + 1)))] [] H98 (by kernel_rfl) trivial fun _ wd99 H100 hb => ?_
                      clear H98
                      replace hS := hS.below hb
                      clear hb
                      exact ⟨_, Nat.lt_succ_self _, w64 (v93 + 1), hm, Fr.keep (ks := [0, 9, 10, 12]) H100 (by kernel_rfl), hS⟩
                    · replace hm := bF hc hm
                      refine w_exit rfl ?_
                      obtain rfl := someE hm
                      exact ⟨Fr.keep (ks := [0, 9, 10, 12]) H98 (by kernel_rfl), hS⟩
                · rintro _ wd104 ⟨H, hS⟩
                  refine w_reg [] [0, 9, 10, 11, 12] [(0, [], .string ⟨⟨s⟩⟩), (9, [], .slice (Gh.mk g67.a g67.c s86).a q87.length (Gh.mk g67.a g67.c s86).c), (10, [], .int .i64 (w64 (v68 + 1))), (11, [], .int .i64 z92), (12, [], .int .i64 z92)] [] H (by kernel_rfl) trivial fun _ wd102 H103 hb => ?_
                  clear H
                  replace hS := hS.below hb
                  clear hb
                  exact ⟨_, Nat.lt_succ_self _, q87, w64 (v68 + 1), z92, z92, (Gh.mk g67.a g67.c s86), hm, Fr.keep (ks := [0, 9, 10, 11, 12]) H103 (by kernel_rfl), hS⟩
            · replace hm := bF hc hm
              refine w_exit rfl ?_
              obtain rfl := someE hm
              exact ⟨g67, Fr.keep (ks := [0, 9, 10, 11]) H72 (by kernel_rfl), hS⟩
        · rintro _ wd122 ⟨g106, H, hS⟩
          obtain ⟨z107, hz, hm⟩ := bindE hm
          refine w_cut (fun a' w' => ∃ (g118 : Gh), Fr 106 [(9, [], .slice g118.a z107.length g118.c)] a' ∧ SH M X w [Ent.own 9 tS z107 g118, Ent.im (tI .u8) gl_strings_asciiSpace (Gh.mk (some ⟨0, 0, none⟩) 256 fun _ _ => .nil)] w') ?_ ?_
          · replace hm := hz
            refine s_reg [] [0, 9, 10, 11, 98] [(0, [], .string ⟨⟨s⟩⟩), (9, [], .slice g106.a z65.2.2.length g106.c), (10, [], .int .i64 z65.1), (11, [], .int .i64 z65.2.1), (98, [], .bool (decide (z65.2.1 < (ln s))))] [] H (by kernel_rfl) trivial fun _ wd108 H109 hb => ?_
            clear H
            replace hS := hS.below hb
            clear hb
            refine w_if H109 rfl (fun hc => ?_) (fun hc => ?_)
            · replace hm := bT hc hm
              refine wl_start ?_
              obtain ⟨ho110, hm⟩ := chkE hm
              obtain ⟨ho111, hm⟩ := chkE hm
              refine wl_batch 0 6 [] [9, 103, 104] [(9, [], .slice g106.a z65.2.2.length g106.c), (103, [], .string ⟨⟨sub s z65.2.1 (ln s)⟩⟩), (104, [], .pointer (some ⟨ab g106.a, ao g106.a + (z65.1).toNat * 1, none⟩))] [fun _ => 0 ≤ z65.2.1 ∧ z65.2.1 ≤ ln s, fun _ => oka g106.a ∧ 0 ≤ z65.1 ∧ z65.1 < ln z65.2.2] H109 (by decide) (by kernel_rfl) ⟨ho110, ((hS.osl 0 rfl).oki ho111), trivial⟩ fun _ wd112 H113 hb => ?_
              clear H109
              replace hS := hS.below hb
              clear hb
              have hd : S0 (AvL M [Ent.im (tI .u8) gl_strings_asciiSpace (Gh.mk (some ⟨0, 0, none⟩) 256 fun _ _ => .nil)]) [Ent.own 9 tS z65.2.2 g106] _ := hS.hand [0] [1] rfl rfl
              refine m_stp0 [9] [(9, [], .slice g106.a z65.2.2.length g106.c)] H113 rfl rfl rfl (o_estore (T := tS) (g := g106) (q := z65.2.2) (ix := z65.1) (off := 0) (sub s z65.2.1 (ln s)) (gL []) H113 hd rfl rfl rfl rfl (by kernel_rfl) rfl rfl ho111 rfl trivial rfl) rfl fun _ wd114 H115 hq => ?_
              clear H113 hd
              obtain ⟨_, hq⟩ := hq
              obtain ⟨s116, hq⟩ := hq
              obtain ⟨q117, hq117, hm⟩ := letE hm
              rw [← hq117] at hq
              have hn : z65.2.2.length = q117.length := by rw [hq117, setl_len]
              first | rw [hn] at H115 | skip
              clear hn
              replace hS : SH M X w [Ent.own 9 tS q117 (Gh.mk g106.a g106.c s116), Ent.im (tI .u8) gl_strings_asciiSpace (Gh.mk (some ⟨0, 0, none⟩) 256 fun _ _ => .nil)] _ := hS.join [0] [1] rfl rfl hq
              clear hq
              refine wl_end rfl ?_
              obtain rfl := someE hm
              exact ⟨(Gh.mk g106.a g106.c s116), Fr.keep (ks := [9]) H115 (by kernel_rfl), hS⟩
            · replace hm := bF hc hm
              refine w_skip ?_
              obtain rfl := someE hm
              exact ⟨g106, Fr.keep (ks := [9]) H109 (by kernel_rfl), hS⟩
          · rintro _ wd121 ⟨g118, H, hS⟩
            refine s_reg [] [2] [(2, [], .slice g118.a z107.length g118.c)] [] H (by kernel_rfl) trivial fun _ wd119 H120 hb => ?_
            clear H
            replace hS := hS.below hb
            clear hb
            refine w_ret ?_
            obtain rfl := someE hm
            exact retR1 H120 rfl rfl ⟨_, rfl, g118, rfl, (hS.sel [0] rfl)⟩
theorem strings_Fields_ok  (m : Nat) (s : Str) (r : List Str) (hm : strings_Fields m s = some r) (M : Av) (w : World) (hS : S0 M [Ent.im (tI .u8) gl_strings_asciiSpace (Gh.mk (some ⟨0, 0, none⟩) 256 fun _ _ => .nil)] w) : DoesX Tryd.prog 40 ⟨[.string ⟨⟨s⟩⟩]⟩ w (fun v w' => ∃ (g901 : Gh), v = .slice g901.a r.length g901.c ∧ SH M (fpl [Ent.im (tI .u8) gl_strings_asciiSpace (Gh.mk (some ⟨0, 0, none⟩) 256 fun _ _ => .nil)]) w [Ent.own 9 tS r g901] w') := ⟨Tryd.call40 _, strings_Fields_w M m   s r hm w hS⟩

def props_words (m : Nat) (name_ : Str) (inherited : Bool) (first : Str) (all_ : Str) : Option (TProp) :=
  lt (props_word first) fun y4 =>
  Option.bind (strings_Fields m all_) fun y7 =>
  some (TProp.mk name_ inherited y4 y7 ([] : List Int) false)
theorem props_words_w  (M : Av) (m : Nat) (name_ : Str) (inherited : Bool) (first : Str) (all_ : Str) (r : TProp) (hm : props_words m name_ inherited first all_ = some r) (w : World) (hS : S0 M [Ent.im (tI .u8) gl_strings_asciiSpace (Gh.mk (some ⟨0, 0, none⟩) 256 fun _ _ => .nil)] w) : Calls Tryd.prog 33 ⟨[.string ⟨⟨name_⟩⟩, .bool inherited, .string ⟨⟨first⟩⟩, .string ⟨⟨all_⟩⟩]⟩ w (fun e w' => ∃ v, e = .returned v ∧ ∃ (g901 : Gh) (g903 : Gh), v = .agg ⟨[.string ⟨⟨r.Name⟩⟩, .bool r.Inherited, .int .u8 r.Initial.Kind, .string ⟨⟨r.Initial.Word⟩⟩, .int .i64 r.Initial.Num, .int .u8 r.Initial.Color.Red, .int .u8 r.Initial.Color.Green, .int .u8 r.Initial.Color.Blue, .int .u8 r.Initial.Color.Alpha, .slice g901.a r.Words.length g901.c, .slice g903.a r.Kinds.length g903.c, .bool r.Least]⟩ ∧ SH M (fpl [Ent.im (tI .u8) gl_strings_asciiSpace (Gh.mk (some ⟨0, 0, none⟩) 256 fun _ _ => .nil)]) w [Ent.own 9 tS r.Words g901, Ent.own 5 (tI .u8) r.Kinds g903] w') := by
  rw [props_words] at hm
  have hS0 : SH M (fpl [Ent.im (tI .u8) gl_strings_asciiSpace (Gh.mk (some ⟨0, 0, none⟩) 256 fun _ _ => .nil)]) w [Ent.im (tI .u8) gl_strings_asciiSpace (Gh.mk (some ⟨0, 0, none⟩) 256 fun _ _ => .nil)] w := hS
  generalize hX : fpl [Ent.im (tI .u8) gl_strings_asciiSpace (Gh.mk (some ⟨0, 0, none⟩) 256 fun _ _ => .nil)] = X at hS0 ⊢
  clear hS hX
  have hS := hS0
  clear hS0
  refine calls_entryP Tryd.func33 rfl Tryd.ntmps33 rfl fun _ H => ?_
  refine w_seq ?_
  refine wl_start ?_
  have hd : S0 (AvL M [Ent.im (tI .u8) gl_strings_asciiSpace (Gh.mk (some ⟨0, 0, none⟩) 256 fun _ _ => .nil)]) [] _ := hS.hand [] [0] rfl rfl
  refine m_stp [8, 0, 1, 2, 3] [(0, [], .string ⟨⟨name_⟩⟩), (1, [], .bool inherited), (2, [], .string ⟨⟨first⟩⟩), (3, [], .string ⟨⟨all_⟩⟩)] H rfl rfl rfl rfl (o_alloc [.string ⟨⟨[]⟩⟩, .bool false, .int .u8 0, .string ⟨⟨[]⟩⟩, .int .i64 0, .int .u8 0, .int .u8 0, .int .u8 0, .int .u8 0, .slice none 0 0, .slice none 0 0, .bool false] (z := .agg ⟨[.string ⟨⟨[]⟩⟩, .bool false, .int .u8 0, .string ⟨⟨[]⟩⟩, .int .i64 0, .int .u8 0, .int .u8 0, .int .u8 0, .int .u8 0, .slice none 0 0, .slice none 0 0, .bool false]⟩) hd (by kernel_rfl) rfl) (fun _ => rfl) fun _ wd2 v H3 hq => ?_
  clear H hd
  obtain ⟨b1, rfl, hq⟩ := hq
  replace hS : SH M X w [Ent.blk b1 [.string ⟨⟨[]⟩⟩, .bool false, .int .u8 0, .string ⟨⟨[]⟩⟩, .int .i64 0, .int .u8 0, .int .u8 0, .int .u8 0, .int .u8 0, .slice none 0 0, .slice none 0 0, .bool false], Ent.im (tI .u8) gl_strings_asciiSpace (Gh.mk (some ⟨0, 0, none⟩) 256 fun _ _ => .nil)] _ := hS.join [] [0] rfl rfl hq
  clear hq
  refine wl_end rfl ?_
  refine w_seq ?_
  refine wl_start ?_
  obtain ⟨y4, hy4, hm⟩ := letE hm
  refine wl_batch 0 5 [(.agg ⟨[.int .u8 y4.Kind, .string ⟨⟨y4.Word⟩⟩, .int .i64 y4.Num, .int .u8 y4.Color.Red, .int .u8 y4.Color.Green, .int .u8 y4.Color.Blue, .int .u8 y4.Color.Alpha]⟩)] [8, 9, 10, 12, 13] [(8, [], .pointer (some ⟨b1, 0, none⟩)), (9, [], .string ⟨⟨name_⟩⟩), (10, [], .bool inherited), (12, [], .agg ⟨[.int .u8 y4.Kind, .string ⟨⟨y4.Word⟩⟩, .int .i64 y4.Num, .int .u8 y4.Color.Red, .int .u8 y4.Color.Green, .int .u8 y4.Color.Blue, .int .u8 y4.Color.Alpha]⟩), (13, [], .string ⟨⟨all_⟩⟩)] [fun wz => RetB Tryd.prog 31 ⟨[.string ⟨⟨first⟩⟩]⟩ (.agg ⟨[.int .u8 y4.Kind, .string ⟨⟨y4.Word⟩⟩, .int .i64 y4.Num, .int .u8 y4.Color.Red, .int .u8 y4.Color.Green, .int .u8 y4.Color.Blue, .int .u8 y4.Color.Alpha]⟩) wz] H3 (by decide) (by subst hy4; kernel_rfl) ⟨((by rw [hy4]; exact (props_word_ok _).b)), trivial⟩ fun _ wd5 H6 hb => ?_
  clear H3
  replace hS := hS.below hb
  clear hb
  obtain ⟨y7, hy7, hm⟩ := bindE hm
  have hd : S0 (AvL M [Ent.blk b1 [.string ⟨⟨[]⟩⟩, .bool false, .int .u8 0, .string ⟨⟨[]⟩⟩, .int .i64 0, .int .u8 0, .int .u8 0, .int .u8 0, .int .u8 0, .slice none 0 0, .slice none 0 0, .bool false], Ent.im (tI .u8) gl_strings_asciiSpace (Gh.mk (some ⟨0, 0, none⟩) 256 fun _ _ => .nil)]) [Ent.im (tI .u8) gl_strings_asciiSpace (Gh.mk (some ⟨0, 0, none⟩) 256 fun _ _ => .nil)] _ := hS.hand [1] [0, 1] rfl rfl
  refine m_stp [14, 8, 9, 10, 12] [(8, [], .pointer (some ⟨b1, 0, none⟩)), (9, [], .string ⟨⟨name_⟩⟩), (10, [], .bool inherited), (12, [], .agg ⟨[.int .u8 y4.Kind, .string ⟨⟨y4.Word⟩⟩, .int .i64 y4.Num, .int .u8 y4.Color.Red, .int .u8 y4.Color.Green, .int .u8 y4.Color.Blue, .int .u8 y4.Color.Alpha]⟩)] H6 rfl rfl rfl rfl (o_callx H6 rfl rfl (strings_Fields_ok m _ _ hy7 _ _ hd)) (fun _ => rfl) fun _ wd10 v H11 hq => ?_
  clear H6 hd
  obtain ⟨g8, rfl, hq⟩ := hq
  replace hS : SH M X w [Ent.own 9 tS y7 g8, Ent.blk b1 [.string ⟨⟨[]⟩⟩, .bool false, .int .u8 0, .string ⟨⟨[]⟩⟩, .int .i64 0, .int .u8 0, .int .u8 0, .int .u8 0, .int .u8 0, .slice none 0 0, .slice none 0 0, .bool false], Ent.im (tI .u8) gl_strings_asciiSpace (Gh.mk (some ⟨0, 0, none⟩) 256 fun _ _ => .nil)] _ := hS.join [1] [0, 1] rfl rfl hq
  clear hq
  refine wl_batch 6 7 [] [8, 15] [(8, [], .pointer (some ⟨b1, 0, none⟩)), (15, [], .agg ⟨[.string ⟨⟨name_⟩⟩, .bool inherited, .int .u8 y4.Kind, .string ⟨⟨y4.Word⟩⟩, .int .i64 y4.Num, .int .u8 y4.Color.Red, .int .u8 y4.Color.Green, .int .u8 y4.Color.Blue, .int .u8 y4.Color.Alpha, .slice g8.a y7.length g8.c, .slice none 0 0, .bool false]⟩)] [] H11 (by decide) (by kernel_rfl) trivial fun _ wd12 H13 hb => ?_
  clear H11
  replace hS := hS.below hb
  clear hb
  have hd : S0 (AvL M [Ent.own 9 tS y7 g8, Ent.im (tI .u8) gl_strings_asciiSpace (Gh.mk (some ⟨0, 0, none⟩) 256 fun _ _ => .nil)]) [Ent.blk b1 [.string ⟨⟨[]⟩⟩, .bool false, .int .u8 0, .string ⟨⟨[]⟩⟩, .int .i64 0, .int .u8 0, .int .u8 0, .int .u8 0, .int .u8 0, .slice none 0 0, .slice none 0 0, .bool false]] _ := hS.hand [1] [0, 2] rfl rfl
  refine m_stp0 [8] [(8, [], .pointer (some ⟨b1, 0, none⟩))] H13 rfl rfl rfl (o_store [.string ⟨⟨name_⟩⟩, .bool inherited, .int .u8 y4.Kind, .string ⟨⟨y4.Word⟩⟩, .int .i64 y4.Num, .int .u8 y4.Color.Red, .int .u8 y4.Color.Green, .int .u8 y4.Color.Blue, .int .u8 y4.Color.Alpha, .slice g8.a y7.length g8.c, .slice none 0 0, .bool false] H13 hd rfl rfl (by kernel_rfl) rfl rfl rfl) rfl fun _ wd14 H15 hq => ?_
  clear H13 hd
  obtain ⟨_, hq⟩ := hq
  replace hS : SH M X w [Ent.blk b1 [.string ⟨⟨name_⟩⟩, .bool inherited, .int .u8 y4.Kind, .string ⟨⟨y4.Word⟩⟩, .int .i64 y4.Num, .int .u8 y4.Color.Red, .int .u8 y4.Color.Green, .int .u8 y4.Color.Blue, .int .u8 y4.Color.Alpha, .slice g8.a y7.length g8.c, .slice none 0 0, .bool false], Ent.own 9 tS y7 g8, Ent.im (tI .u8) gl_strings_asciiSpace (Gh.mk (some ⟨0, 0, none⟩) 256 fun _ _ => .nil)] _ := hS.join [1] [0, 2] rfl rfl hq
  clear hq
  refine wl_end rfl ?_
  refine w_ret ?_
  obtain rfl := someE hm
  replace hS : SH M X w [Ent.own 5 (tI .u8) ([] : List Int) (.nil), Ent.blk b1 [.string ⟨⟨name_⟩⟩, .bool inherited, .int .u8 y4.Kind, .string ⟨⟨y4.Word⟩⟩, .int .i64 y4.Num, .int .u8 y4.Color.Red, .int .u8 y4.Color.Green, .int .u8 y4.Color.Blue, .int .u8 y4.Color.Alpha, .slice g8.a y7.length g8.c, .slice none 0 0, .bool false], Ent.own 9 tS y7 g8, Ent.im (tI .u8) gl_strings_asciiSpace (Gh.mk (some ⟨0, 0, none⟩) 256 fun _ _ => .nil)] _ := hS.addNil 5 (tI .u8)
  exact retR1 H15 rfl (oneRes_agg rfl (hS.bk 1 rfl) Tryd.underlying51 rfl (by kernel_rfl)) ⟨_, rfl, g8, Gh.nil, rfl, (hS.sel [2, 0] rfl)⟩
theorem props_words_ok  (m : Nat) (name_ : Str) (inherited : Bool) (first : Str) (all_ : Str) (r : TProp) (hm : props_words m name_ inherited first all_ = some r) (M : Av) (w : World) (hS : S0 M [Ent.im (tI .u8) gl_strings_asciiSpace (Gh.mk (some ⟨0, 0, none⟩) 256 fun _ _ => .nil)] w) : DoesX Tryd.prog 33 ⟨[.string ⟨⟨name_⟩⟩, .bool inherited, .string ⟨⟨first⟩⟩, .string ⟨⟨all_⟩⟩]⟩ w (fun v w' => ∃ (g901 : Gh) (g903 : Gh), v = .agg ⟨[.string ⟨⟨r.Name⟩⟩, .bool r.Inherited, .int .u8 r.Initial.Kind, .string ⟨⟨r.Initial.Word⟩⟩, .int .i64 r.Initial.Num, .int .u8 r.Initial.Color.Red, .int .u8 r.Initial.Color.Green, .int .u8 r.Initial.Color.Blue, .int .u8 r.Initial.Color.Alpha, .slice g901.a r.Words.length g901.c, .slice g903.a r.Kinds.length g903.c, .bool r.Least]⟩ ∧ SH M (fpl [Ent.im (tI .u8) gl_strings_asciiSpace (Gh.mk (some ⟨0, 0, none⟩) 256 fun _ _ => .nil)]) w [Ent.own 9 tS r.Words g901, Ent.own 5 (tI .u8) r.Kinds g903] w') := ⟨Tryd.call33 _, props_words_w M m   name_ inherited first all_ r hm w hS⟩

def props_length (m : Nat) (name_ : Str) (inherited : Bool) (first : TVal) (all_ : Str) (least : Bool) (more : List Int) : Option (TProp) :=
  Option.bind (strings_Fields m all_) fun y8 =>
  chk (ln ([2, 3, 4] : List Int) + ln more ≤ 1099511627776) <|
  lt (([2, 3, 4] : List Int) ++ more) fun q14 =>
  some (TProp.mk name_ inherited first y8 q14 least)
theorem props_length_w {g_more : Gh} (M : Av) (m : Nat) (name_ : Str) (inherited : Bool) (first : TVal) (all_ : Str) (least : Bool) (more : List Int) (r : TProp) (hm : props_length m name_ inherited first all_ least more = some r) (w : World) (hS : S0 M [Ent.im (tI .u8) more g_more, Ent.im (tI .u8) gl_strings_asciiSpace (Gh.mk (some ⟨0, 0, none⟩) 256 fun _ _ => .nil)] w) : Calls Tryd.prog 34 ⟨[.string ⟨⟨name_⟩⟩, .bool inherited, .agg ⟨[.int .u8 first.Kind, .string ⟨⟨first.Word⟩⟩, .int .i64 first.Num, .int .u8 first.Color.Red, .int .u8 first.Color.Green, .int .u8 first.Color.Blue, .int .u8 first.Color.Alpha]⟩, .string ⟨⟨all_⟩⟩, .bool least, .slice g_more.a more.length g_more.c]⟩ w (fun e w' => ∃ v, e = .returned v ∧ ∃ (g901 : Gh) (g903 : Gh), v = .agg ⟨[.string ⟨⟨r.Name⟩⟩, .bool r.Inherited, .int .u8 r.Initial.Kind, .string ⟨⟨r.Initial.Word⟩⟩, .int .i64 r.Initial.Num, .int .u8 r.Initial.Color.Red, .int .u8 r.Initial.Color.Green, .int .u8 r.Initial.Color.Blue, .int .u8 r.Initial.Color.Alpha, .slice g901.a r.Words.length g901.c, .slice g903.a r.Kinds.length g903.c, .bool r.Least]⟩ ∧ SH M (fpl [Ent.im (tI .u8) more g_more, Ent.im (tI .u8) gl_strings_asciiSpace (Gh.mk (some ⟨0, 0, none⟩) 256 fun _ _ => .nil)]) w [Ent.own 9 tS r.Words g901, Ent.own 5 (tI .u8) r.Kinds g903] w') := by
  rw [props_length] at hm
  have hS0 : SH M (fpl [Ent.im (tI .u8) more g_more, Ent.im (tI .u8) gl_strings_asciiSpace (Gh.mk (some ⟨0, 0, none⟩) 256 fun _ _ => .nil)]) w [Ent.im (tI .u8) more g_more, Ent.im (tI .u8) gl_strings_asciiSpace (Gh.mk (some ⟨0, 0, none⟩) 256 fun _ _ => .nil)] w := hS
  generalize hX : fpl [Ent.im (tI .u8) more g_more, Ent.im (tI .u8) gl_strings_asciiSpace (Gh.mk (some ⟨0, 0, none⟩) 256 fun _ _ => .nil)] = X at hS0 ⊢
  clear hS hX
  have hS := hS0
  clear hS0
  refine calls_entryP Tryd.func34 rfl Tryd.ntmps34 rfl fun _ H => ?_
  refine w_seq ?_
  refine wl_start ?_
  have hd : S0 (AvL M [Ent.im (tI .u8) more g_more, Ent.im (tI .u8) gl_strings_asciiSpace (Gh.mk (some ⟨0, 0, none⟩) 256 fun _ _ => .nil)]) [] _ := hS.hand [] [0, 1] rfl rfl
  refine m_stp [8, 0, 1, 3, 4, 5] [(0, [], .string ⟨⟨name_⟩⟩), (1, [], .bool inherited), (3, [], .string ⟨⟨all_⟩⟩), (4, [], .bool least), (5, [], .slice g_more.a more.length g_more.c)] H rfl rfl rfl rfl (o_box [.int .u8 first.Kind, .string ⟨⟨first.Word⟩⟩, .int .i64 first.Num, .int .u8 first.Color.Red, .int .u8 first.Color.Green, .int .u8 first.Color.Blue, .int .u8 first.Color.Alpha] H hd rfl rfl) (fun _ => rfl) fun _ wd2 v H3 hq => ?_
  clear H hd
  obtain ⟨b1, rfl, hq⟩ := hq
  replace hS : SH M X w [Ent.blk b1 [.int .u8 first.Kind, .string ⟨⟨first.Word⟩⟩, .int .i64 first.Num, .int .u8 first.Color.Red, .int .u8 first.Color.Green, .int .u8 first.Color.Blue, .int .u8 first.Color.Alpha], Ent.im (tI .u8) more g_more, Ent.im (tI .u8) gl_strings_asciiSpace (Gh.mk (some ⟨0, 0, none⟩) 256 fun _ _ => .nil)] _ := hS.join [] [0, 1] rfl rfl hq
  clear hq
  have hd : S0 (AvL M [Ent.blk b1 [.int .u8 first.Kind, .string ⟨⟨first.Word⟩⟩, .int .i64 first.Num, .int .u8 first.Color.Red, .int .u8 first.Color.Green, .int .u8 first.Color.Blue, .int .u8 first.Color.Alpha], Ent.im (tI .u8) more g_more, Ent.im (tI .u8) gl_strings_asciiSpace (Gh.mk (some ⟨0, 0, none⟩) 256 fun _ _ => .nil)]) [] _ := hS.hand [] [0, 1, 2] rfl rfl
  refine m_stp [12, 0, 1, 3, 4, 5, 8] [(0, [], .string ⟨⟨name_⟩⟩), (1, [], .bool inherited), (3, [], .string ⟨⟨all_⟩⟩), (4, [], .bool least), (5, [], .slice g_more.a more.length g_more.c), (8, [], .pointer (some ⟨b1, 0, none⟩))] H3 rfl rfl rfl rfl (o_alloc [.string ⟨⟨[]⟩⟩, .bool false, .int .u8 0, .string ⟨⟨[]⟩⟩, .int .i64 0, .int .u8 0, .int .u8 0, .int .u8 0, .int .u8 0, .slice none 0 0, .slice none 0 0, .bool false] (z := .agg ⟨[.string ⟨⟨[]⟩⟩, .bool false, .int .u8 0, .string ⟨⟨[]⟩⟩, .int .i64 0, .int .u8 0, .int .u8 0, .int .u8 0, .int .u8 0, .slice none 0 0, .slice none 0 0, .bool false]⟩) hd (by kernel_rfl) rfl) (fun _ => rfl) fun _ wd5 v H6 hq => ?_
  clear H3 hd
  obtain ⟨b4, rfl, hq⟩ := hq
  replace hS : SH M X w [Ent.blk b4 [.string ⟨⟨[]⟩⟩, .bool false, .int .u8 0, .string ⟨⟨[]⟩⟩, .int .i64 0, .int .u8 0, .int .u8 0, .int .u8 0, .int .u8 0, .slice none 0 0, .slice none 0 0, .bool false], Ent.blk b1 [.int .u8 first.Kind, .string ⟨⟨first.Word⟩⟩, .int .i64 first.Num, .int .u8 first.Color.Red, .int .u8 first.Color.Green, .int .u8 first.Color.Blue, .int .u8 first.Color.Alpha], Ent.im (tI .u8) more g_more, Ent.im (tI .u8) gl_strings_asciiSpace (Gh.mk (some ⟨0, 0, none⟩) 256 fun _ _ => .nil)] _ := hS.join [] [0, 1, 2] rfl rfl hq
  clear hq
  refine wl_end rfl ?_
  obtain ⟨y8, hy8, hm⟩ := bindE hm
  obtain ⟨ho13, hm⟩ := chkE hm
  obtain ⟨q14, hq14, hm⟩ := letE hm
  refine s_drawS (base := [(0, [], .string ⟨⟨name_⟩⟩), (1, [], .bool inherited), (3, [], .string ⟨⟨all_⟩⟩), (4, [], .bool least), (5, [], .slice g_more.a more.length g_more.c), (8, [], .pointer (some ⟨b1, 0, none⟩)), (12, [], .pointer (some ⟨b4, 0, none⟩))]) (L := [Ent.blk b4 [.string ⟨⟨[]⟩⟩, .bool false, .int .u8 0, .string ⟨⟨[]⟩⟩, .int .i64 0, .int .u8 0, .int .u8 0, .int .u8 0, .int .u8 0, .slice none 0 0, .slice none 0 0, .bool false], Ent.blk b1 [.int .u8 first.Kind, .string ⟨⟨first.Word⟩⟩, .int .i64 first.Num, .int .u8 first.Color.Red, .int .u8 first.Color.Green, .int .u8 first.Color.Blue, .int .u8 first.Color.Alpha], Ent.im (tI .u8) more g_more, Ent.im (tI .u8) gl_strings_asciiSpace (Gh.mk (some ⟨0, 0, none⟩) 256 fun _ _ => .nil)]) 11 4 (fun yg7 => [.string ⟨⟨name_⟩⟩, .bool inherited, .agg ⟨[.int .u8 first.Kind, .string ⟨⟨first.Word⟩⟩, .int .i64 first.Num, .int .u8 first.Color.Red, .int .u8 first.Color.Green, .int .u8 first.Color.Blue, .int .u8 first.Color.Alpha]⟩, .string ⟨⟨all_⟩⟩, .slice (yg7 4 0).a y8.length (yg7 4 0).c, .slice (yg7 5 0).a 3 (yg7 5 0).c, .slice g_more.a more.length g_more.c, .slice (yg7 7 0).a q14.length (yg7 7 0).c, .bool least, .agg ⟨[.string ⟨⟨name_⟩⟩, .bool inherited, .int .u8 first.Kind, .string ⟨⟨first.Word⟩⟩, .int .i64 first.Num, .int .u8 first.Color.Red, .int .u8 first.Color.Green, .int .u8 first.Color.Blue, .int .u8 first.Color.Alpha, .slice (yg7 4 0).a y8.length (yg7 4 0).c, .slice (yg7 7 0).a q14.length (yg7 7 0).c, .bool least]⟩, undef]) (fun yg7 => [[], [], [], [], [Ent.own 9 tS y8 (yg7 4 0)], [Ent.own 5 (tI .u8) ([2, 3, 4] : List Int) (yg7 5 0)], [], [Ent.own 5 (tI .u8) q14 (yg7 7 0)], [], [], [Ent.blk b4 [.string ⟨⟨name_⟩⟩, .bool inherited, .int .u8 first.Kind, .string ⟨⟨first.Word⟩⟩, .int .i64 first.Num, .int .u8 first.Color.Red, .int .u8 first.Color.Green, .int .u8 first.Color.Blue, .int .u8 first.Color.Alpha, .slice (yg7 4 0).a y8.length (yg7 4 0).c, .slice (yg7 7 0).a q14.length (yg7 7 0).c, .bool least]]]) [[], [], [12], [], [14], [], [13], [5, 13], [], [4, 7], [4, 7, 11]] [[], [], [], [], [], [], [], [5], [], [], [11]] [[0], [1], [2], [3], [3, 4], [5], [6], [5, 6, 7], [8], [0, 1, 2, 3, 4, 5, 6, 7, 8, 9], [0, 1, 2, 3, 4, 5, 6, 7, 8, 9, 10]] [] (Fr.keep (ks := [0, 1, 3, 4, 5, 8, 12]) H6 (by kernel_rfl)) (fun _ _ h => by cases h) (by kernel_rfl) hS (by kernel_rfl) rfl rfl (by kernel_rfl) (by kernel_rfl) (by kernel_rfl) ?hloc_yg7 ?hstep_yg7 fun _ wd16 yg7 H17 hv hS => ?hK_yg7
  case hloc_yg7 => exact ⟨(fun _ _ _ _ => ⟨rfl, rfl⟩), (fun _ _ _ _ => ⟨rfl, rfl⟩), (fun _ _ _ _ => ⟨rfl, rfl⟩), (fun _ _ _ _ => ⟨rfl, rfl⟩), (fun yg7 i g hi => by have h4 : updC yg7 i g 4 = yg7 4 := updC_out hi rfl; exact ⟨(show (.slice ((updC yg7 i g) 4 0).a y8.length ((updC yg7 i g) 4 0).c : Value) = .slice (yg7 4 0).a y8.length (yg7 4 0).c by simp only [h4]), (show ([Ent.own 9 tS y8 ((updC yg7 i g) 4 0)] : List Ent) = [Ent.own 9 tS y8 (yg7 4 0)] by simp only [h4])⟩), (fun yg7 i g hi => by have h5 : updC yg7 i g 5 = yg7 5 := updC_out hi rfl; exact ⟨(show (.slice ((updC yg7 i g) 5 0).a 3 ((updC yg7 i g) 5 0).c : Value) = .slice (yg7 5 0).a 3 (yg7 5 0).c by simp only [h5]), (show ([Ent.own 5 (tI .u8) ([2, 3, 4] : List Int) ((updC yg7 i g) 5 0)] : List Ent) = [Ent.own 5 (tI .u8) ([2, 3, 4] : List Int) (yg7 5 0)] by simp only [h5])⟩), (fun _ _ _ _ => ⟨rfl, rfl⟩), (fun yg7 i g hi => by have h7 : updC yg7 i g 7 = yg7 7 := updC_out hi rfl; exact ⟨(show (.slice ((updC yg7 i g) 7 0).a q14.length ((updC yg7 i g) 7 0).c : Value) = .slice (yg7 7 0).a q14.length (yg7 7 0).c by simp only [h7]), (show ([Ent.own 5 (tI .u8) q14 ((updC yg7 i g) 7 0)] : List Ent) = [Ent.own 5 (tI .u8) q14 (yg7 7 0)] by simp only [h7])⟩), (fun _ _ _ _ => ⟨rfl, rfl⟩), (fun yg7 i g hi => by have h4 : updC yg7 i g 4 = yg7 4 := updC_out hi rfl; have h7 : updC yg7 i g 7 = yg7 7 := updC_out hi rfl; exact ⟨(show (.agg ⟨[.string ⟨⟨name_⟩⟩, .bool inherited, .int .u8 first.Kind, .string ⟨⟨first.Word⟩⟩, .int .i64 first.Num, .int .u8 first.Color.Red, .int .u8 first.Color.Green, .int .u8 first.Color.Blue, .int .u8 first.Color.Alpha, .slice ((updC yg7 i g) 4 0).a y8.length ((updC yg7 i g) 4 0).c, .slice ((updC yg7 i g) 7 0).a q14.length ((updC yg7 i g) 7 0).c, .bool least]⟩ : Value) = .agg ⟨[.string ⟨⟨name_⟩⟩, .bool inherited, .int .u8 first.Kind, .string ⟨⟨first.Word⟩⟩, .int .i64 first.Num, .int .u8 first.Color.Red, .int .u8 first.Color.Green, .int .u8 first.Color.Blue, .int .u8 first.Color.Alpha, .slice (yg7 4 0).a y8.length (yg7 4 0).c, .slice (yg7 7 0).a q14.length (yg7 7 0).c, .bool least]⟩ by simp only [h4, h7]), (show ([] : List Ent) = [] by simp only [])⟩), (fun yg7 i g hi => by have h4 : updC yg7 i g 4 = yg7 4 := updC_out hi rfl; have h7 : updC yg7 i g 7 = yg7 7 := updC_out hi rfl; exact ⟨(show (undef : Value) = undef by simp only []), (show ([Ent.blk b4 [.string ⟨⟨name_⟩⟩, .bool inherited, .int .u8 first.Kind, .string ⟨⟨first.Word⟩⟩, .int .i64 first.Num, .int .u8 first.Color.Red, .int .u8 first.Color.Green, .int .u8 first.Color.Blue, .int .u8 first.Color.Alpha, .slice ((updC yg7 i g) 4 0).a y8.length ((updC yg7 i g) 4 0).c, .slice ((updC yg7 i g) 7 0).a q14.length ((updC yg7 i g) 7 0).c, .bool least]] : List Ent) = [Ent.blk b4 [.string ⟨⟨name_⟩⟩, .bool inherited, .int .u8 first.Kind, .string ⟨⟨first.Word⟩⟩, .int .i64 first.Num, .int .u8 first.Color.Red, .int .u8 first.Color.Green, .int .u8 first.Color.Blue, .int .u8 first.Color.Alpha, .slice (yg7 4 0).a y8.length (yg7 4 0).c, .slice (yg7 7 0).a q14.length (yg7 7 0).c, .bool least]] by simp only [h4, h7])⟩), trivial⟩
  case hstep_yg7 =>
    refine ⟨?_, ?_, ?_, ?_, ?_, ?_, ?_, ?_, ?_, ?_, ?_, trivial⟩
    · intro o ho a w yg7 M Hb hv hO hS0
      obtain rfl := Option.some.inj ho
      have H : Fr 23 ([] ++ [(0, [], .string ⟨⟨name_⟩⟩), (1, [], .bool inherited), (3, [], .string ⟨⟨all_⟩⟩), (4, [], .bool least), (5, [], .slice g_more.a more.length g_more.c), (8, [], .pointer (some ⟨b1, 0, none⟩)), (12, [], .pointer (some ⟨b4, 0, none⟩))]) _ := Hb
      obtain ⟨X, hX⟩ : ∃ X, X = fpl [] := ⟨_, rfl⟩
      have hS : SH M X w [] w := by rw [hX]; exact hS0
      refine Stp.mono (o_evs [] (.string ⟨⟨name_⟩⟩) none [] H rfl (by kernel_rfl) (fun q e => by cases e)) ?_
      rintro v w2 ⟨rfl, hq⟩
      replace hS : SH M X w [] _ := hS.below hq.below
      rw [hX] at hS
      exact ⟨gL [], fun _ _ => rfl, hS.sel [] rfl⟩
    · intro o ho a w yg7 M Hb hv hO hS0
      obtain rfl := Option.some.inj ho
      have H : Fr 23 ([] ++ [(0, [], .string ⟨⟨name_⟩⟩), (1, [], .bool inherited), (3, [], .string ⟨⟨all_⟩⟩), (4, [], .bool least), (5, [], .slice g_more.a more.length g_more.c), (8, [], .pointer (some ⟨b1, 0, none⟩)), (12, [], .pointer (some ⟨b4, 0, none⟩))]) _ := Hb
      obtain ⟨X, hX⟩ : ∃ X, X = fpl [] := ⟨_, rfl⟩
      have hS : SH M X w [] w := by rw [hX]; exact hS0
      refine Stp.mono (o_evs [] (.bool inherited) none [] H rfl (by kernel_rfl) (fun q e => by cases e)) ?_
      rintro v w2 ⟨rfl, hq⟩
      replace hS : SH M X w [] _ := hS.below hq.below
      rw [hX] at hS
      exact ⟨gL [], fun _ _ => rfl, hS.sel [] rfl⟩
    · intro o ho a w yg7 M Hb hv hO hS0
      obtain rfl := Option.some.inj ho
      have H : Fr 23 ([] ++ [(0, [], .string ⟨⟨name_⟩⟩), (1, [], .bool inherited), (3, [], .string ⟨⟨all_⟩⟩), (4, [], .bool least), (5, [], .slice g_more.a more.length g_more.c), (8, [], .pointer (some ⟨b1, 0, none⟩)), (12, [], .pointer (some ⟨b4, 0, none⟩))]) _ := Hb
      obtain ⟨X, hX⟩ : ∃ X, X = fpl [Ent.blk b1 [.int .u8 first.Kind, .string ⟨⟨first.Word⟩⟩, .int .i64 first.Num, .int .u8 first.Color.Red, .int .u8 first.Color.Green, .int .u8 first.Color.Blue, .int .u8 first.Color.Alpha]] := ⟨_, rfl⟩
      have hS : SH M X w [Ent.blk b1 [.int .u8 first.Kind, .string ⟨⟨first.Word⟩⟩, .int .i64 first.Num, .int .u8 first.Color.Red, .int .u8 first.Color.Green, .int .u8 first.Color.Blue, .int .u8 first.Color.Alpha]] w := by rw [hX]; exact hS0
      refine Stp.mono (o_evs [(.agg ⟨[.int .u8 first.Kind, .string ⟨⟨first.Word⟩⟩, .int .i64 first.Num, .int .u8 first.Color.Red, .int .u8 first.Color.Green, .int .u8 first.Color.Blue, .int .u8 first.Color.Alpha]⟩)] (.agg ⟨[.int .u8 first.Kind, .string ⟨⟨first.Word⟩⟩, .int .i64 first.Num, .int .u8 first.Color.Red, .int .u8 first.Color.Green, .int .u8 first.Color.Blue, .int .u8 first.Color.Alpha]⟩) (some (fun wz => V.atN b1 0 [.int .u8 first.Kind, .string ⟨⟨first.Word⟩⟩, .int .i64 first.Num, .int .u8 first.Color.Red, .int .u8 first.Color.Green, .int .u8 first.Color.Blue, .int .u8 first.Color.Alpha] 0 wz)) [] H rfl (by kernel_rfl) (fun q e => by cases e; exact ((hS.bk 0 rfl).atD rfl))) ?_
      rintro v w2 ⟨rfl, hq⟩
      replace hS : SH M X w [Ent.blk b1 [.int .u8 first.Kind, .string ⟨⟨first.Word⟩⟩, .int .i64 first.Num, .int .u8 first.Color.Red, .int .u8 first.Color.Green, .int .u8 first.Color.Blue, .int .u8 first.Color.Alpha]] _ := hS.below hq.below
      rw [hX] at hS
      exact ⟨gL [], fun _ _ => rfl, hS.sel [0] rfl⟩
    · intro o ho a w yg7 M Hb hv hO hS0
      obtain rfl := Option.some.inj ho
      have H : Fr 23 ([] ++ [(0, [], .string ⟨⟨name_⟩⟩), (1, [], .bool inherited), (3, [], .string ⟨⟨all_⟩⟩), (4, [], .bool least), (5, [], .slice g_more.a more.length g_more.c), (8, [], .pointer (some ⟨b1, 0, none⟩)), (12, [], .pointer (some ⟨b4, 0, none⟩))]) _ := Hb
      obtain ⟨X, hX⟩ : ∃ X, X = fpl [] := ⟨_, rfl⟩
      have hS : SH M X w [] w := by rw [hX]; exact hS0
      refine Stp.mono (o_evs [] (.string ⟨⟨all_⟩⟩) none [] H rfl (by kernel_rfl) (fun q e => by cases e)) ?_
      rintro v w2 ⟨rfl, hq⟩
      replace hS : SH M X w [] _ := hS.below hq.below
      rw [hX] at hS
      exact ⟨gL [], fun _ _ => rfl, hS.sel [] rfl⟩
    · intro o ho a w yg7 M Hb hv hO hS0
      obtain rfl := Option.some.inj ho
      have H : Fr 23 ([(16, [], .string ⟨⟨all_⟩⟩)] ++ [(0, [], .string ⟨⟨name_⟩⟩), (1, [], .bool inherited), (3, [], .string ⟨⟨all_⟩⟩), (4, [], .bool least), (5, [], .slice g_more.a more.length g_more.c), (8, [], .pointer (some ⟨b1, 0, none⟩)), (12, [], .pointer (some ⟨b4, 0, none⟩))]) _ := (Hb).add (hv 3 (by decide) (by decide) 16 rfl)
      obtain ⟨X, hX⟩ : ∃ X, X = fpl [Ent.im (tI .u8) gl_strings_asciiSpace (Gh.mk (some ⟨0, 0, none⟩) 256 fun _ _ => .nil)] := ⟨_, rfl⟩
      have hS : SH M X w [Ent.im (tI .u8) gl_strings_asciiSpace (Gh.mk (some ⟨0, 0, none⟩) 256 fun _ _ => .nil)] w := by rw [hX]; exact hS0
      have hd : S0 (AvL M [Ent.im (tI .u8) gl_strings_asciiSpace (Gh.mk (some ⟨0, 0, none⟩) 256 fun _ _ => .nil)]) [Ent.im (tI .u8) gl_strings_asciiSpace (Gh.mk (some ⟨0, 0, none⟩) 256 fun _ _ => .nil)] _ := hS.hand [0] [0] rfl rfl
      refine Stp.mono (o_callx H rfl rfl (strings_Fields_ok m _ _ hy8 _ _ hd)) ?_
      rintro v w2 hq
      obtain ⟨g9, rfl, hq⟩ := hq
      replace hS : SH M X w [Ent.own 9 tS y8 g9, Ent.im (tI .u8) gl_strings_asciiSpace (Gh.mk (some ⟨0, 0, none⟩) 256 fun _ _ => .nil)] _ := hS.join [0] [0] rfl rfl hq
      clear hq
      rw [hX] at hS
      exact ⟨gL [g9], fun _ _ => rfl, hS.sel [0, 1] rfl⟩
    · intro o ho a w yg7 M Hb hv hO hS0
      obtain rfl := Option.some.inj ho
      have H : Fr 23 ([] ++ [(0, [], .string ⟨⟨name_⟩⟩), (1, [], .bool inherited), (3, [], .string ⟨⟨all_⟩⟩), (4, [], .bool least), (5, [], .slice g_more.a more.length g_more.c), (8, [], .pointer (some ⟨b1, 0, none⟩)), (12, [], .pointer (some ⟨b4, 0, none⟩))]) _ := Hb
      obtain ⟨X, hX⟩ : ∃ X, X = fpl [] := ⟨_, rfl⟩
      have hS : SH M X w [] w := by rw [hX]; exact hS0
      have hd : S0 (AvL M []) [] _ := hS.hand [] [] rfl rfl
      refine Stp.mono (o_lit (T := (tI .u8)) (E := 5) (zv := .int .u8 0) [.int .u8 2, .int .u8 3, .int .u8 4] ([2, 3, 4] : List Int) [gL [], gL [], gL []] _ H hd rfl (by kernel_rfl) (by kernel_rfl) (by kernel_rfl) (by kernel_rfl) (by kernel_rfl) (by kernel_rfl) (by kernel_rfl) rfl (InnL.cons trivial (InnL.cons trivial (InnL.cons trivial InnL.nil)))) ?_
      rintro v w2 hq
      obtain ⟨g11, rfl, hq⟩ := hq
      replace hS : SH M X w [Ent.own 5 (tI .u8) ([2, 3, 4] : List Int) g11] _ := hS.join [] [] rfl rfl hq
      clear hq
      rw [hX] at hS
      exact ⟨gL [g11], fun _ _ => rfl, hS.sel [0] rfl⟩
    · intro o ho a w yg7 M Hb hv hO hS0
      obtain rfl := Option.some.inj ho
      have H : Fr 23 ([] ++ [(0, [], .string ⟨⟨name_⟩⟩), (1, [], .bool inherited), (3, [], .string ⟨⟨all_⟩⟩), (4, [], .bool least), (5, [], .slice g_more.a more.length g_more.c), (8, [], .pointer (some ⟨b1, 0, none⟩)), (12, [], .pointer (some ⟨b4, 0, none⟩))]) _ := Hb
      obtain ⟨X, hX⟩ : ∃ X, X = fpl [Ent.im (tI .u8) more g_more] := ⟨_, rfl⟩
      have hS : SH M X w [Ent.im (tI .u8) more g_more] w := by rw [hX]; exact hS0
      refine Stp.mono (o_evs [] (.slice g_more.a more.length g_more.c) none [] H rfl (by kernel_rfl) (fun q e => by cases e)) ?_
      rintro v w2 ⟨rfl, hq⟩
      replace hS : SH M X w [Ent.im (tI .u8) more g_more] _ := hS.below hq.below
      rw [hX] at hS
      exact ⟨gL [], fun _ _ => rfl, hS.sel [0] rfl⟩
    · intro o ho a w yg7 M Hb hv hO hS0
      obtain rfl := Option.some.inj ho
      have H : Fr 23 ([(19, [], .slice g_more.a more.length g_more.c), (18, [], .slice (yg7 5 0).a 3 (yg7 5 0).c)] ++ [(0, [], .string ⟨⟨name_⟩⟩), (1, [], .bool inherited), (3, [], .string ⟨⟨all_⟩⟩), (4, [], .bool least), (5, [], .slice g_more.a more.length g_more.c), (8, [], .pointer (some ⟨b1, 0, none⟩)), (12, [], .pointer (some ⟨b4, 0, none⟩))]) _ := ((Hb).add (hv 5 (by decide) (by decide) 18 rfl)).add (hv 6 (by decide) (by decide) 19 rfl)
      obtain ⟨X, hX⟩ : ∃ X, X = fpl [Ent.own 5 (tI .u8) ([2, 3, 4] : List Int) (yg7 5 0), Ent.im (tI .u8) more g_more] := ⟨_, rfl⟩
      have hS : SH M X w [Ent.own 5 (tI .u8) ([2, 3, 4] : List Int) (yg7 5 0), Ent.im (tI .u8) more g_more] w := by rw [hX]; exact hS0
      have hd : S0 (AvL M [Ent.im (tI .u8) more g_more]) [Ent.own 5 (tI .u8) ([2, 3, 4] : List Int) (yg7 5 0), Ent.im (tI .u8) more g_more] _ := hS.hand [0, 1] [1] rfl rfl
      refine Stp.mono (o_app (T := (tI .u8)) (zv := .int .u8 0) (g1 := (yg7 5 0)) (g2 := g_more) (l1 := ([2, 3, 4] : List Int)) (l2 := more) q14 hq14.symm H hd rfl rfl rfl rfl rfl rfl rfl (by kernel_rfl) (by kernel_rfl) rfl rfl ho13) ?_
      rintro v w2 hq
      obtain ⟨g15, rfl, hq⟩ := hq
      replace hS : SH M X w [Ent.own 5 (tI .u8) q14 g15, Ent.im (tI .u8) more g_more] _ := hS.join [0, 1] [1] rfl rfl hq
      clear hq
      rw [hX] at hS
      exact ⟨gL [g15], fun _ _ => rfl, hS.sel [0, 1] rfl⟩
    · intro o ho a w yg7 M Hb hv hO hS0
      obtain rfl := Option.some.inj ho
      have H : Fr 23 ([] ++ [(0, [], .string ⟨⟨name_⟩⟩), (1, [], .bool inherited), (3, [], .string ⟨⟨all_⟩⟩), (4, [], .bool least), (5, [], .slice g_more.a more.length g_more.c), (8, [], .pointer (some ⟨b1, 0, none⟩)), (12, [], .pointer (some ⟨b4, 0, none⟩))]) _ := Hb
      obtain ⟨X, hX⟩ : ∃ X, X = fpl [] := ⟨_, rfl⟩
      have hS : SH M X w [] w := by rw [hX]; exact hS0
      refine Stp.mono (o_evs [] (.bool least) none [] H rfl (by kernel_rfl) (fun q e => by cases e)) ?_
      rintro v w2 ⟨rfl, hq⟩
      replace hS : SH M X w [] _ := hS.below hq.below
      rw [hX] at hS
      exact ⟨gL [], fun _ _ => rfl, hS.sel [] rfl⟩
    · intro o ho a w yg7 M Hb hv hO hS0
      obtain rfl := Option.some.inj ho
      have H : Fr 23 ([(21, [], .bool least), (20, [], .slice (yg7 7 0).a q14.length (yg7 7 0).c), (17, [], .slice (yg7 4 0).a y8.length (yg7 4 0).c), (15, [], .agg ⟨[.int .u8 first.Kind, .string ⟨⟨first.Word⟩⟩, .int .i64 first.Num, .int .u8 first.Color.Red, .int .u8 first.Color.Green, .int .u8 first.Color.Blue, .int .u8 first.Color.Alpha]⟩), (14, [], .bool inherited), (13, [], .string ⟨⟨name_⟩⟩)] ++ [(0, [], .string ⟨⟨name_⟩⟩), (1, [], .bool inherited), (3, [], .string ⟨⟨all_⟩⟩), (4, [], .bool least), (5, [], .slice g_more.a more.length g_more.c), (8, [], .pointer (some ⟨b1, 0, none⟩)), (12, [], .pointer (some ⟨b4, 0, none⟩))]) _ := ((((((Hb).add (hv 0 (by decide) (by decide) 13 rfl)).add (hv 1 (by decide) (by decide) 14 rfl)).add (hv 2 (by decide) (by decide) 15 rfl)).add (hv 4 (by decide) (by decide) 17 rfl)).add (hv 7 (by decide) (by decide) 20 rfl)).add (hv 8 (by decide) (by decide) 21 rfl)
      obtain ⟨X, hX⟩ : ∃ X, X = fpl [Ent.own 9 tS y8 (yg7 4 0), Ent.own 5 (tI .u8) q14 (yg7 7 0)] := ⟨_, rfl⟩
      have hS : SH M X w [Ent.own 9 tS y8 (yg7 4 0), Ent.own 5 (tI .u8) q14 (yg7 7 0)] w := by rw [hX]; exact hS0
      refine Stp.mono (o_evs [] (.agg ⟨[.string ⟨⟨name_⟩⟩, .bool inherited, .int .u8 first.Kind, .string ⟨⟨first.Word⟩⟩, .int .i64 first.Num, .int .u8 first.Color.Red, .int .u8 first.Color.Green, .int .u8 first.Color.Blue, .int .u8 first.Color.Alpha, .slice (yg7 4 0).a y8.length (yg7 4 0).c, .slice (yg7 7 0).a q14.length (yg7 7 0).c, .bool least]⟩) none [] H rfl (by kernel_rfl) (fun q e => by cases e)) ?_
      rintro v w2 ⟨rfl, hq⟩
      replace hS : SH M X w [Ent.own 9 tS y8 (yg7 4 0), Ent.own 5 (tI .u8) q14 (yg7 7 0)] _ := hS.below hq.below
      rw [hX] at hS
      exact ⟨gL [], fun _ _ => rfl, hS.sel [0, 1] rfl⟩
    · intro o ho a w yg7 M Hb hv hO hS0
      obtain rfl := Option.some.inj ho
      have H : Fr 23 ([(22, [], .agg ⟨[.string ⟨⟨name_⟩⟩, .bool inherited, .int .u8 first.Kind, .string ⟨⟨first.Word⟩⟩, .int .i64 first.Num, .int .u8 first.Color.Red, .int .u8 first.Color.Green, .int .u8 first.Color.Blue, .int .u8 first.Color.Alpha, .slice (yg7 4 0).a y8.length (yg7 4 0).c, .slice (yg7 7 0).a q14.length (yg7 7 0).c, .bool least]⟩)] ++ [(0, [], .string ⟨⟨name_⟩⟩), (1, [], .bool inherited), (3, [], .string ⟨⟨all_⟩⟩), (4, [], .bool least), (5, [], .slice g_more.a more.length g_more.c), (8, [], .pointer (some ⟨b1, 0, none⟩)), (12, [], .pointer (some ⟨b4, 0, none⟩))]) _ := (Hb).add (hv 9 (by decide) (by decide) 22 rfl)
      obtain ⟨X, hX⟩ : ∃ X, X = fpl [Ent.own 9 tS y8 (yg7 4 0), Ent.own 5 (tI .u8) q14 (yg7 7 0), Ent.blk b4 [.string ⟨⟨[]⟩⟩, .bool false, .int .u8 0, .string ⟨⟨[]⟩⟩, .int .i64 0, .int .u8 0, .int .u8 0, .int .u8 0, .int .u8 0, .slice none 0 0, .slice none 0 0, .bool false]] := ⟨_, rfl⟩
      have hS : SH M X w [Ent.own 9 tS y8 (yg7 4 0), Ent.own 5 (tI .u8) q14 (yg7 7 0), Ent.blk b4 [.string ⟨⟨[]⟩⟩, .bool false, .int .u8 0, .string ⟨⟨[]⟩⟩, .int .i64 0, .int .u8 0, .int .u8 0, .int .u8 0, .int .u8 0, .slice none 0 0, .slice none 0 0, .bool false]] w := by rw [hX]; exact hS0
      have hd : S0 (AvL M [Ent.own 9 tS y8 (yg7 4 0), Ent.own 5 (tI .u8) q14 (yg7 7 0)]) [Ent.blk b4 [.string ⟨⟨[]⟩⟩, .bool false, .int .u8 0, .string ⟨⟨[]⟩⟩, .int .i64 0, .int .u8 0, .int .u8 0, .int .u8 0, .int .u8 0, .slice none 0 0, .slice none 0 0, .bool false]] _ := hS.hand [2] [0, 1] rfl rfl
      refine Stp.mono (o_store [.string ⟨⟨name_⟩⟩, .bool inherited, .int .u8 first.Kind, .string ⟨⟨first.Word⟩⟩, .int .i64 first.Num, .int .u8 first.Color.Red, .int .u8 first.Color.Green, .int .u8 first.Color.Blue, .int .u8 first.Color.Alpha, .slice (yg7 4 0).a y8.length (yg7 4 0).c, .slice (yg7 7 0).a q14.length (yg7 7 0).c, .bool least] H hd rfl rfl (by kernel_rfl) rfl rfl rfl) ?_
      rintro v w2 hq
      replace hS : SH M X w [Ent.blk b4 [.string ⟨⟨name_⟩⟩, .bool inherited, .int .u8 first.Kind, .string ⟨⟨first.Word⟩⟩, .int .i64 first.Num, .int .u8 first.Color.Red, .int .u8 first.Color.Green, .int .u8 first.Color.Blue, .int .u8 first.Color.Alpha, .slice (yg7 4 0).a y8.length (yg7 4 0).c, .slice (yg7 7 0).a q14.length (yg7 7 0).c, .bool least], Ent.own 9 tS y8 (yg7 4 0), Ent.own 5 (tI .u8) q14 (yg7 7 0)] _ := hS.join [2] [0, 1] rfl rfl hq
      clear hq
      rw [hX] at hS
      exact ⟨gL [], (fun _ h => by cases h), hS.sel [0, 1, 2] rfl⟩
  have H18 : Fr 23 [(12, [], .pointer (some ⟨b4, 0, none⟩))] _ := (Fr.keep (ks := [12]) H17 (by kernel_rfl))
  replace hS : SH M X w [Ent.own 9 tS y8 (yg7 4 0), Ent.own 5 (tI .u8) q14 (yg7 7 0), Ent.blk b4 [.string ⟨⟨name_⟩⟩, .bool inherited, .int .u8 first.Kind, .string ⟨⟨first.Word⟩⟩, .int .i64 first.Num, .int .u8 first.Color.Red, .int .u8 first.Color.Green, .int .u8 first.Color.Blue, .int .u8 first.Color.Alpha, .slice (yg7 4 0).a y8.length (yg7 4 0).c, .slice (yg7 7 0).a q14.length (yg7 7 0).c, .bool least], Ent.blk b1 [.int .u8 first.Kind, .string ⟨⟨first.Word⟩⟩, .int .i64 first.Num, .int .u8 first.Color.Red, .int .u8 first.Color.Green, .int .u8 first.Color.Blue, .int .u8 first.Color.Alpha], Ent.im (tI .u8) more g_more, Ent.im (tI .u8) gl_strings_asciiSpace (Gh.mk (some ⟨0, 0, none⟩) 256 fun _ _ => .nil)] _ := hS
  clear hv H17
  generalize yg7 4 0 = g19 at H18 hS
  generalize yg7 7 0 = g20 at H18 hS
  replace hS : SH M X w [Ent.own 9 tS y8 g19, Ent.own 5 (tI .u8) q14 g20, Ent.blk b4 [.string ⟨⟨name_⟩⟩, .bool inherited, .int .u8 first.Kind, .string ⟨⟨first.Word⟩⟩, .int .i64 first.Num, .int .u8 first.Color.Red, .int .u8 first.Color.Green, .int .u8 first.Color.Blue, .int .u8 first.Color.Alpha, .slice g19.a y8.length g19.c, .slice g20.a q14.length g20.c, .bool least], Ent.im (tI .u8) gl_strings_asciiSpace (Gh.mk (some ⟨0, 0, none⟩) 256 fun _ _ => .nil)] _ := hS.sel [0, 1, 2, 5] rfl
  refine w_ret ?_
  obtain rfl := someE hm
  exact retR1 H18 rfl (oneRes_agg rfl (hS.bk 2 rfl) Tryd.underlying51 rfl (by kernel_rfl)) ⟨_, rfl, g19, g20, rfl, (hS.sel [0, 1] rfl)⟩
theorem props_length_ok {g_more : Gh} (m : Nat) (name_ : Str) (inherited : Bool) (first : TVal) (all_ : Str) (least : Bool) (more : List Int) (r : TProp) (hm : props_length m name_ inherited first all_ least more = some r) (M : Av) (w : World) (hS : S0 M [Ent.im (tI .u8) more g_more, Ent.im (tI .u8) gl_strings_asciiSpace (Gh.mk (some ⟨0, 0, none⟩) 256 fun _ _ => .nil)] w) : DoesX Tryd.prog 34 ⟨[.string ⟨⟨name_⟩⟩, .bool inherited, .agg ⟨[.int .u8 first.Kind, .string ⟨⟨first.Word⟩⟩, .int .i64 first.Num, .int .u8 first.Color.Red, .int .u8 first.Color.Green, .int .u8 first.Color.Blue, .int .u8 first.Color.Alpha]⟩, .string ⟨⟨all_⟩⟩, .bool least, .slice g_more.a more.length g_more.c]⟩ w (fun v w' => ∃ (g901 : Gh) (g903 : Gh), v = .agg ⟨[.string ⟨⟨r.Name⟩⟩, .bool r.Inherited, .int .u8 r.Initial.Kind, .string ⟨⟨r.Initial.Word⟩⟩, .int .i64 r.Initial.Num, .int .u8 r.Initial.Color.Red, .int .u8 r.Initial.Color.Green, .int .u8 r.Initial.Color.Blue, .int .u8 r.Initial.Color.Alpha, .slice g901.a r.Words.length g901.c, .slice g903.a r.Kinds.length g903.c, .bool r.Least]⟩ ∧ SH M (fpl [Ent.im (tI .u8) more g_more, Ent.im (tI .u8) gl_strings_asciiSpace (Gh.mk (some ⟨0, 0, none⟩) 256 fun _ _ => .nil)]) w [Ent.own 9 tS r.Words g901, Ent.own 5 (tI .u8) r.Kinds g903] w') := ⟨Tryd.call34 _, props_length_w M m   name_ inherited first all_ least more r hm w hS⟩

def props_Table_L1 (m : Nat)  : Nat → (List TProp) → Int → Option (List TProp)
  | 0, _, _ => none
  | kk + 1, v88, v90 =>
    cond (decide (v90 < 4)) (
    chk (0 ≤ v90 ∧ v90 < ln ([[116, 111, 112], [114, 105, 103, 104, 116], [98, 111, 116, 116, 111, 109], [108, 101, 102, 116]] : List Str)) <|
    lt ((gi ([[116, 111, 112], [114, 105, 103, 104, 116], [98, 111, 116, 116, 111, 109], [108, 101, 102, 116]] : List Str) v90)) fun x94 =>
    chk (ln [109, 97, 114, 103, 105, 110, 45] + ln x94 ≤ 9223372036854775807) <|
    Option.bind (props_length m ([109, 97, 114, 103, 105, 110, 45] ++ x94) false (TVal.mk 2 [] 0 (TColor.mk 0 0 0 0)) [97, 117, 116, 111] false []) fun y101 =>
    chk (ln v88 + ln ([y101] : List TProp) ≤ 1099511627776) <|
    lt (v88 ++ ([y101] : List TProp)) fun q113 =>
    props_Table_L1 m  kk q113 (w64 (v90 + 1))) (
    some v88)
def props_Table (m : Nat)  : Option (List TProp) :=
  lt (props_word [97, 117, 116, 111]) fun y3 =>
  lt (props_color [99, 111, 108, 111, 114] true (TVal.mk 7 [] 0 (TColor.mk 0 0 0 255))) fun y17 =>
  lt (props_color [98, 97, 99, 107, 103, 114, 111, 117, 110, 100, 45, 99, 111, 108, 111, 114] false (TVal.mk 7 [] 0 (TColor.mk 0 0 0 0))) fun y22 =>
  lt (props_color [98, 111, 114, 100, 101, 114, 45, 99, 111, 108, 111, 114] false (TVal.mk 8 [] 0 (TColor.mk 0 0 0 0))) fun y27 =>
  lt (props_color [111, 117, 116, 108, 105, 110, 101, 45, 99, 111, 108, 111, 114] false (TVal.mk 8 [] 0 (TColor.mk 0 0 0 0))) fun y32 =>
  Option.bind (props_words m [100, 105, 115, 112, 108, 97, 121] false [105, 110, 108, 105, 110, 101] [98, 108, 111, 99, 107, 32, 102, 108, 101, 120, 32, 105, 110, 108, 105, 110, 101, 32, 105, 110, 108, 105, 110, 101, 45, 98, 108, 111, 99, 107, 32, 110, 111, 110, 101]) fun y37 =>
  Option.bind (props_words m [118, 105, 115, 105, 98, 105, 108, 105, 116, 121] true [118, 105, 115, 105, 98, 108, 101] [99, 111, 108, 108, 97, 112, 115, 101, 32, 104, 105, 100, 100, 101, 110, 32, 118, 105, 115, 105, 98, 108, 101]) fun y42 =>
  Option.bind (props_length m [119, 105, 100, 116, 104] false y3 [97, 117, 116, 111] true []) fun y48 =>
  Option.bind (props_length m [104, 101, 105, 103, 104, 116] false y3 [97, 117, 116, 111] true []) fun y54 =>
  Option.bind (
  props_Table_L1 m  m ([y17, y22, y27, y32, y37, y42, y48, y54] : List TProp) 0) fun (z81 : List TProp) =>
  Option.bind (props_length m [102, 111, 110, 116, 45, 115, 105, 122, 101] true (TVal.mk 2 [] 16000 (TColor.mk 0 0 0 0)) [] true []) fun y125 =>
  lt (props_word [110, 111, 114, 109, 97, 108]) fun y130 =>
  Option.bind (props_length m [108, 105, 110, 101, 45, 104, 101, 105, 103, 104, 116] true y130 [110, 111, 114, 109, 97, 108] true ([5] : List Int)) fun y133 =>
  Option.bind (props_words m [116, 101, 120, 116, 45, 97, 108, 105, 103, 110] true [108, 101, 102, 116] [99, 101, 110, 116, 101, 114, 32, 106, 117, 115, 116, 105, 102, 121, 32, 108, 101, 102, 116, 32, 114, 105, 103, 104, 116]) fun y138 =>
  chk (ln z81 + ln ([y125, y133, y138, (TProp.mk [111, 112, 97, 99, 105, 116, 121] false (TVal.mk 5 [] 1000 (TColor.mk 0 0 0 0)) [] ([5] : List Int) false), (TProp.mk [122, 45, 105, 110, 100, 101, 120] false y3 ([[97, 117, 116, 111]] : List Str) ([6] : List Int) false), (TProp.mk [111, 114, 100, 101, 114] false (TVal.mk 6 [] 0 (TColor.mk 0 0 0 0)) [] ([6] : List Int) false)] : List TProp) ≤ 1099511627776) <|
  lt (z81 ++ ([y125, y133, y138, (TProp.mk [111, 112, 97, 99, 105, 116, 121] false (TVal.mk 5 [] 1000 (TColor.mk 0 0 0 0)) [] ([5] : List Int) false), (TProp.mk [122, 45, 105, 110, 100, 101, 120] false y3 ([[97, 117, 116, 111]] : List Str) ([6] : List Int) false), (TProp.mk [111, 114, 100, 101, 114] false (TVal.mk 6 [] 0 (TColor.mk 0 0 0 0)) [] ([6] : List Int) false)] : List TProp)) fun q154 =>
  some q154
theorem props_Table_w  (M : Av) (m : Nat)  (r : List TProp) (hm : props_Table m = some r) (w : World) (hS : S0 M [Ent.im (tI .u8) gl_strings_asciiSpace (Gh.mk (some ⟨0, 0, none⟩) 256 fun _ _ => .nil)] w) : Calls Tryd.prog 22 ⟨[]⟩ w (fun e w' => ∃ v, e = .returned v ∧ ∃ (g901 : Gh), v = .slice g901.a r.length g901.c ∧ SH M (fpl [Ent.im (tI .u8) gl_strings_asciiSpace (Gh.mk (some ⟨0, 0, none⟩) 256 fun _ _ => .nil)]) w [Ent.own 51 tyProp r g901] w') := by
  rw [props_Table] at hm
  have hS0 : SH M (fpl [Ent.im (tI .u8) gl_strings_asciiSpace (Gh.mk (some ⟨0, 0, none⟩) 256 fun _ _ => .nil)]) w [Ent.im (tI .u8) gl_strings_asciiSpace (Gh.mk (some ⟨0, 0, none⟩) 256 fun _ _ => .nil)] w := hS
  generalize hX : fpl [Ent.im (tI .u8) gl_strings_asciiSpace (Gh.mk (some ⟨0, 0, none⟩) 256 fun _ _ => .nil)] = X at hS0 ⊢
  clear hS hX
  have hS := hS0
  clear hS0
  refine calls_entryP Tryd.func22 rfl Tryd.ntmps22 rfl fun _ H => ?_
  refine s_reg [] [] [] [] H (by kernel_rfl) trivial fun _ wd1 H2 hb => ?_
  clear H
  replace hS := hS.below hb
  clear hb
  refine w_seq ?_
  refine wl_start ?_
  obtain ⟨y3, hy3, hm⟩ := letE hm
  refine wl_batch 0 2 [(.agg ⟨[.int .u8 y3.Kind, .string ⟨⟨y3.Word⟩⟩, .int .i64 y3.Num, .int .u8 y3.Color.Red, .int .u8 y3.Color.Green, .int .u8 y3.Color.Blue, .int .u8 y3.Color.Alpha]⟩)] [6, 7] [(6, [], .agg ⟨[.int .u8 y3.Kind, .string ⟨⟨y3.Word⟩⟩, .int .i64 y3.Num, .int .u8 y3.Color.Red, .int .u8 y3.Color.Green, .int .u8 y3.Color.Blue, .int .u8 y3.Color.Alpha]⟩), (7, [], .agg ⟨[.int .u8 2, .string ⟨⟨[]⟩⟩, .int .i64 0, .int .u8 0, .int .u8 0, .int .u8 0, .int .u8 0]⟩)] [fun wz => RetB Tryd.prog 31 ⟨[.string ⟨⟨[97, 117, 116, 111]⟩⟩]⟩ (.agg ⟨[.int .u8 y3.Kind, .string ⟨⟨y3.Word⟩⟩, .int .i64 y3.Num, .int .u8 y3.Color.Red, .int .u8 y3.Color.Green, .int .u8 y3.Color.Blue, .int .u8 y3.Color.Alpha]⟩) wz] H2 (by decide) (by subst hy3; kernel_rfl) ⟨((by rw [hy3]; exact (props_word_ok _).b)), trivial⟩ fun _ wd4 H5 hb => ?_
  clear H2
  replace hS := hS.below hb
  clear hb
  have hd : S0 (AvL M [Ent.im (tI .u8) gl_strings_asciiSpace (Gh.mk (some ⟨0, 0, none⟩) 256 fun _ _ => .nil)]) [] _ := hS.hand [] [0] rfl rfl
  refine m_stp [1, 6, 7] [(6, [], .agg ⟨[.int .u8 y3.Kind, .string ⟨⟨y3.Word⟩⟩, .int .i64 y3.Num, .int .u8 y3.Color.Red, .int .u8 y3.Color.Green, .int .u8 y3.Color.Blue, .int .u8 y3.Color.Alpha]⟩), (7, [], .agg ⟨[.int .u8 2, .string ⟨⟨[]⟩⟩, .int .i64 0, .int .u8 0, .int .u8 0, .int .u8 0, .int .u8 0]⟩)] H5 rfl rfl rfl rfl (o_alloc [.int .u8 0, .string ⟨⟨[]⟩⟩, .int .i64 0, .int .u8 0, .int .u8 0, .int .u8 0, .int .u8 0] (z := .agg ⟨[.int .u8 0, .string ⟨⟨[]⟩⟩, .int .i64 0, .int .u8 0, .int .u8 0, .int .u8 0, .int .u8 0]⟩) hd (by kernel_rfl) rfl) (fun _ => rfl) fun _ wd7 v H8 hq => ?_
  clear H5 hd
  obtain ⟨b6, rfl, hq⟩ := hq
  replace hS : SH M X w [Ent.blk b6 [.int .u8 0, .string ⟨⟨[]⟩⟩, .int .i64 0, .int .u8 0, .int .u8 0, .int .u8 0, .int .u8 0], Ent.im (tI .u8) gl_strings_asciiSpace (Gh.mk (some ⟨0, 0, none⟩) 256 fun _ _ => .nil)] _ := hS.join [] [0] rfl rfl hq
  clear hq
  have hd : S0 (AvL M [Ent.blk b6 [.int .u8 0, .string ⟨⟨[]⟩⟩, .int .i64 0, .int .u8 0, .int .u8 0, .int .u8 0, .int .u8 0], Ent.im (tI .u8) gl_strings_asciiSpace (Gh.mk (some ⟨0, 0, none⟩) 256 fun _ _ => .nil)]) [] _ := hS.hand [] [0, 1] rfl rfl
  refine m_stp [2, 1, 6, 7] [(1, [], .pointer (some ⟨b6, 0, none⟩)), (6, [], .agg ⟨[.int .u8 y3.Kind, .string ⟨⟨y3.Word⟩⟩, .int .i64 y3.Num, .int .u8 y3.Color.Red, .int .u8 y3.Color.Green, .int .u8 y3.Color.Blue, .int .u8 y3.Color.Alpha]⟩), (7, [], .agg ⟨[.int .u8 2, .string ⟨⟨[]⟩⟩, .int .i64 0, .int .u8 0, .int .u8 0, .int .u8 0, .int .u8 0]⟩)] H8 rfl rfl rfl rfl (o_alloc [.int .u8 0, .string ⟨⟨[]⟩⟩, .int .i64 0, .int .u8 0, .int .u8 0, .int .u8 0, .int .u8 0] (z := .agg ⟨[.int .u8 0, .string ⟨⟨[]⟩⟩, .int .i64 0, .int .u8 0, .int .u8 0, .int .u8 0, .int .u8 0]⟩) hd (by kernel_rfl) rfl) (fun _ => rfl) fun _ wd10 v H11 hq => ?_
  clear H8 hd
  obtain ⟨b9, rfl, hq⟩ := hq
  replace hS : SH M X w [Ent.blk b9 [.int .u8 0, .string ⟨⟨[]⟩⟩, .int .i64 0, .int .u8 0, .int .u8 0, .int .u8 0, .int .u8 0], Ent.blk b6 [.int .u8 0, .string ⟨⟨[]⟩⟩, .int .i64 0, .int .u8 0, .int .u8 0, .int .u8 0, .int .u8 0], Ent.im (tI .u8) gl_strings_asciiSpace (Gh.mk (some ⟨0, 0, none⟩) 256 fun _ _ => .nil)] _ := hS.join [] [0, 1] rfl rfl hq
  clear hq
  have hd : S0 (AvL M [Ent.blk b9 [.int .u8 0, .string ⟨⟨[]⟩⟩, .int .i64 0, .int .u8 0, .int .u8 0, .int .u8 0, .int .u8 0], Ent.im (tI .u8) gl_strings_asciiSpace (Gh.mk (some ⟨0, 0, none⟩) 256 fun _ _ => .nil)]) [Ent.blk b6 [.int .u8 0, .string ⟨⟨[]⟩⟩, .int .i64 0, .int .u8 0, .int .u8 0, .int .u8 0, .int .u8 0]] _ := hS.hand [1] [0, 2] rfl rfl
  refine m_stp0 [1, 2, 7] [(1, [], .pointer (some ⟨b6, 0, none⟩)), (2, [], .pointer (some ⟨b9, 0, none⟩)), (7, [], .agg ⟨[.int .u8 2, .string ⟨⟨[]⟩⟩, .int .i64 0, .int .u8 0, .int .u8 0, .int .u8 0, .int .u8 0]⟩)] H11 rfl rfl rfl (o_store [.int .u8 y3.Kind, .string ⟨⟨y3.Word⟩⟩, .int .i64 y3.Num, .int .u8 y3.Color.Red, .int .u8 y3.Color.Green, .int .u8 y3.Color.Blue, .int .u8 y3.Color.Alpha] H11 hd rfl rfl (by kernel_rfl) rfl rfl rfl) rfl fun _ wd12 H13 hq => ?_
  clear H11 hd
  obtain ⟨_, hq⟩ := hq
  replace hS : SH M X w [Ent.blk b6 [.int .u8 y3.Kind, .string ⟨⟨y3.Word⟩⟩, .int .i64 y3.Num, .int .u8 y3.Color.Red, .int .u8 y3.Color.Green, .int .u8 y3.Color.Blue, .int .u8 y3.Color.Alpha], Ent.blk b9 [.int .u8 0, .string ⟨⟨[]⟩⟩, .int .i64 0, .int .u8 0, .int .u8 0, .int .u8 0, .int .u8 0], Ent.im (tI .u8) gl_strings_asciiSpace (Gh.mk (some ⟨0, 0, none⟩) 256 fun _ _ => .nil)] _ := hS.join [1] [0, 2] rfl rfl hq
  clear hq
  have hd : S0 (AvL M [Ent.blk b6 [.int .u8 y3.Kind, .string ⟨⟨y3.Word⟩⟩, .int .i64 y3.Num, .int .u8 y3.Color.Red, .int .u8 y3.Color.Green, .int .u8 y3.Color.Blue, .int .u8 y3.Color.Alpha], Ent.im (tI .u8) gl_strings_asciiSpace (Gh.mk (some ⟨0, 0, none⟩) 256 fun _ _ => .nil)]) [Ent.blk b9 [.int .u8 0, .string ⟨⟨[]⟩⟩, .int .i64 0, .int .u8 0, .int .u8 0, .int .u8 0, .int .u8 0]] _ := hS.hand [1] [0, 2] rfl rfl
  refine m_stp0 [1, 2] [(1, [], .pointer (some ⟨b6, 0, none⟩)), (2, [], .pointer (some ⟨b9, 0, none⟩))] H13 rfl rfl rfl (o_store [.int .u8 2, .string ⟨⟨[]⟩⟩, .int .i64 0, .int .u8 0, .int .u8 0, .int .u8 0, .int .u8 0] H13 hd rfl rfl (by kernel_rfl) rfl rfl rfl) rfl fun _ wd14 H15 hq => ?_
  clear H13 hd
  obtain ⟨_, hq⟩ := hq
  replace hS : SH M X w [Ent.blk b9 [.int .u8 2, .string ⟨⟨[]⟩⟩, .int .i64 0, .int .u8 0, .int .u8 0, .int .u8 0, .int .u8 0], Ent.blk b6 [.int .u8 y3.Kind, .string ⟨⟨y3.Word⟩⟩, .int .i64 y3.Num, .int .u8 y3.Color.Red, .int .u8 y3.Color.Green, .int .u8 y3.Color.Blue, .int .u8 y3.Color.Alpha], Ent.im (tI .u8) gl_strings_asciiSpace (Gh.mk (some ⟨0, 0, none⟩) 256 fun _ _ => .nil)] _ := hS.join [1] [0, 2] rfl rfl hq
  clear hq
  refine wl_end rfl ?_
  obtain ⟨y17, hy17, hm⟩ := letE hm
  obtain ⟨y22, hy22, hm⟩ := letE hm
  obtain ⟨y27, hy27, hm⟩ := letE hm
  obtain ⟨y32, hy32, hm⟩ := letE hm
  obtain ⟨y37, hy37, hm⟩ := bindE hm
  obtain ⟨y42, hy42, hm⟩ := bindE hm
  obtain ⟨y48, hy48, hm⟩ := bindE hm
  obtain ⟨y54, hy54, hm⟩ := bindE hm
  refine s_drawS (base := [(1, [], .pointer (some ⟨b6, 0, none⟩)), (2, [], .pointer (some ⟨b9, 0, none⟩))]) (L := [Ent.blk b9 [.int .u8 2, .string ⟨⟨[]⟩⟩, .int .i64 0, .int .u8 0, .int .u8 0, .int .u8 0, .int .u8 0], Ent.blk b6 [.int .u8 y3.Kind, .string ⟨⟨y3.Word⟩⟩, .int .i64 y3.Num, .int .u8 y3.Color.Red, .int .u8 y3.Color.Green, .int .u8 y3.Color.Blue, .int .u8 y3.Color.Alpha], Ent.im (tI .u8) gl_strings_asciiSpace (Gh.mk (some ⟨0, 0, none⟩) 256 fun _ _ => .nil)]) 17 3 (fun yg16 => [.agg ⟨[.int .u8 0, .int .u8 0, .int .u8 0, .int .u8 255]⟩, .agg ⟨[.int .u8 7, .string ⟨⟨[]⟩⟩, .int .i64 0, .int .u8 0, .int .u8 0, .int .u8 0, .int .u8 255]⟩, .agg ⟨[.string ⟨⟨y17.Name⟩⟩, .bool y17.Inherited, .int .u8 y17.Initial.Kind, .string ⟨⟨y17.Initial.Word⟩⟩, .int .i64 y17.Initial.Num, .int .u8 y17.Initial.Color.Red, .int .u8 y17.Initial.Color.Green, .int .u8 y17.Initial.Color.Blue, .int .u8 y17.Initial.Color.Alpha, .slice (yg16 2 0).a y17.Words.length (yg16 2 0).c, .slice (yg16 2 1).a y17.Kinds.length (yg16 2 1).c, .bool y17.Least]⟩, .agg ⟨[.int .u8 7, .string ⟨⟨[]⟩⟩, .int .i64 0, .int .u8 0, .int .u8 0, .int .u8 0, .int .u8 0]⟩, .agg ⟨[.string ⟨⟨y22.Name⟩⟩, .bool y22.Inherited, .int .u8 y22.Initial.Kind, .string ⟨⟨y22.Initial.Word⟩⟩, .int .i64 y22.Initial.Num, .int .u8 y22.Initial.Color.Red, .int .u8 y22.Initial.Color.Green, .int .u8 y22.Initial.Color.Blue, .int .u8 y22.Initial.Color.Alpha, .slice (yg16 4 0).a y22.Words.length (yg16 4 0).c, .slice (yg16 4 1).a y22.Kinds.length (yg16 4 1).c, .bool y22.Least]⟩, .agg ⟨[.int .u8 8, .string ⟨⟨[]⟩⟩, .int .i64 0, .int .u8 0, .int .u8 0, .int .u8 0, .int .u8 0]⟩, .agg ⟨[.string ⟨⟨y27.Name⟩⟩, .bool y27.Inherited, .int .u8 y27.Initial.Kind, .string ⟨⟨y27.Initial.Word⟩⟩, .int .i64 y27.Initial.Num, .int .u8 y27.Initial.Color.Red, .int .u8 y27.Initial.Color.Green, .int .u8 y27.Initial.Color.Blue, .int .u8 y27.Initial.Color.Alpha, .slice (yg16 6 0).a y27.Words.length (yg16 6 0).c, .slice (yg16 6 1).a y27.Kinds.length (yg16 6 1).c, .bool y27.Least]⟩, .agg ⟨[.int .u8 8, .string ⟨⟨[]⟩⟩, .int .i64 0, .int .u8 0, .int .u8 0, .int .u8 0, .int .u8 0]⟩, .agg ⟨[.string ⟨⟨y32.Name⟩⟩, .bool y32.Inherited, .int .u8 y32.Initial.Kind, .string ⟨⟨y32.Initial.Word⟩⟩, .int .i64 y32.Initial.Num, .int .u8 y32.Initial.Color.Red, .int .u8 y32.Initial.Color.Green, .int .u8 y32.Initial.Color.Blue, .int .u8 y32.Initial.Color.Alpha, .slice (yg16 8 0).a y32.Words.length (yg16 8 0).c, .slice (yg16 8 1).a y32.Kinds.length (yg16 8 1).c, .bool y32.Least]⟩, .agg ⟨[.string ⟨⟨y37.Name⟩⟩, .bool y37.Inherited, .int .u8 y37.Initial.Kind, .string ⟨⟨y37.Initial.Word⟩⟩, .int .i64 y37.Initial.Num, .int .u8 y37.Initial.Color.Red, .int .u8 y37.Initial.Color.Green, .int .u8 y37.Initial.Color.Blue, .int .u8 y37.Initial.Color.Alpha, .slice (yg16 9 0).a y37.Words.length (yg16 9 0).c, .slice (yg16 9 1).a y37.Kinds.length (yg16 9 1).c, .bool y37.Least]⟩, .agg ⟨[.string ⟨⟨y42.Name⟩⟩, .bool y42.Inherited, .int .u8 y42.Initial.Kind, .string ⟨⟨y42.Initial.Word⟩⟩, .int .i64 y42.Initial.Num, .int .u8 y42.Initial.Color.Red, .int .u8 y42.Initial.Color.Green, .int .u8 y42.Initial.Color.Blue, .int .u8 y42.Initial.Color.Alpha, .slice (yg16 10 0).a y42.Words.length (yg16 10 0).c, .slice (yg16 10 1).a y42.Kinds.length (yg16 10 1).c, .bool y42.Least]⟩, .agg ⟨[.int .u8 y3.Kind, .string ⟨⟨y3.Word⟩⟩, .int .i64 y3.Num, .int .u8 y3.Color.Red, .int .u8 y3.Color.Green, .int .u8 y3.Color.Blue, .int .u8 y3.Color.Alpha]⟩, .agg ⟨[.string ⟨⟨y48.Name⟩⟩, .bool y48.Inherited, .int .u8 y48.Initial.Kind, .string ⟨⟨y48.Initial.Word⟩⟩, .int .i64 y48.Initial.Num, .int .u8 y48.Initial.Color.Red, .int .u8 y48.Initial.Color.Green, .int .u8 y48.Initial.Color.Blue, .int .u8 y48.Initial.Color.Alpha, .slice (yg16 12 0).a y48.Words.length (yg16 12 0).c, .slice (yg16 12 1).a y48.Kinds.length (yg16 12 1).c, .bool y48.Least]⟩, .agg ⟨[.int .u8 y3.Kind, .string ⟨⟨y3.Word⟩⟩, .int .i64 y3.Num, .int .u8 y3.Color.Red, .int .u8 y3.Color.Green, .int .u8 y3.Color.Blue, .int .u8 y3.Color.Alpha]⟩, .agg ⟨[.string ⟨⟨y54.Name⟩⟩, .bool y54.Inherited, .int .u8 y54.Initial.Kind, .string ⟨⟨y54.Initial.Word⟩⟩, .int .i64 y54.Initial.Num, .int .u8 y54.Initial.Color.Red, .int .u8 y54.Initial.Color.Green, .int .u8 y54.Initial.Color.Blue, .int .u8 y54.Initial.Color.Alpha, .slice (yg16 14 0).a y54.Words.length (yg16 14 0).c, .slice (yg16 14 1).a y54.Kinds.length (yg16 14 1).c, .bool y54.Least]⟩, .slice (yg16 15 0).a 8 (yg16 15 0).c, .slice (yg16 15 0).a 8 (yg16 15 0).c]) (fun yg16 => [[], [], [Ent.own 9 tS y17.Words (yg16 2 0), Ent.own 5 (tI .u8) y17.Kinds (yg16 2 1)], [], [Ent.own 9 tS y22.Words (yg16 4 0), Ent.own 5 (tI .u8) y22.Kinds (yg16 4 1)], [], [Ent.own 9 tS y27.Words (yg16 6 0), Ent.own 5 (tI .u8) y27.Kinds (yg16 6 1)], [], [Ent.own 9 tS y32.Words (yg16 8 0), Ent.own 5 (tI .u8) y32.Kinds (yg16 8 1)], [Ent.own 9 tS y37.Words (yg16 9 0), Ent.own 5 (tI .u8) y37.Kinds (yg16 9 1)], [Ent.own 9 tS y42.Words (yg16 10 0), Ent.own 5 (tI .u8) y42.Kinds (yg16 10 1)], [], [Ent.own 9 tS y48.Words (yg16 12 0), Ent.own 5 (tI .u8) y48.Kinds (yg16 12 1), Ent.im (tI .u8) ([] : List Int) (.nil)], [], [Ent.own 9 tS y54.Words (yg16 14 0), Ent.own 5 (tI .u8) y54.Kinds (yg16 14 1), Ent.im (tI .u8) ([] : List Int) (.nil)], [Ent.own 51 tyProp ([y17, y22, y27, y32, y37, y42, y48, y54] : List TProp) (yg16 15 0), Ent.im (tI .u8) y54.Kinds (yg16 14 1), Ent.im tS y54.Words (yg16 14 0), Ent.im (tI .u8) y48.Kinds (yg16 12 1), Ent.im tS y48.Words (yg16 12 0), Ent.im (tI .u8) y42.Kinds (yg16 10 1), Ent.im tS y42.Words (yg16 10 0), Ent.im (tI .u8) y37.Kinds (yg16 9 1), Ent.im tS y37.Words (yg16 9 0), Ent.im (tI .u8) y32.Kinds (yg16 8 1), Ent.im tS y32.Words (yg16 8 0), Ent.im (tI .u8) y27.Kinds (yg16 6 1), Ent.im tS y27.Words (yg16 6 0), Ent.im (tI .u8) y22.Kinds (yg16 4 1), Ent.im tS y22.Words (yg16 4 0), Ent.im (tI .u8) y17.Kinds (yg16 2 1), Ent.im tS y17.Words (yg16 2 0), Ent.im (tI .u8) ([] : List Int) (.nil), Ent.im (tI .u8) ([] : List Int) (.nil)], []]) [[], [], [], [], [], [], [], [], [], [19], [19], [18], [19], [18], [19], [2, 4, 6, 8, 9, 10, 12, 14], [15]] [[], [], [], [], [], [], [], [], [], [], [], [], [], [], [], [2, 4, 6, 8, 9, 10, 12, 14], []] [[0], [0, 1], [0, 1, 2], [3], [3, 4], [5], [5, 6], [7], [7, 8], [9], [10], [11], [11, 12], [13], [13, 14], [0, 1, 2, 3, 4, 5, 6, 7, 8, 9, 10, 11, 12, 13, 14, 15], [0, 1, 2, 3, 4, 5, 6, 7, 8, 9, 10, 11, 12, 13, 14, 15, 16]] [] (Fr.keep (ks := [1, 2]) H15 (by kernel_rfl)) (fun _ _ h => by cases h) (by kernel_rfl) hS (by kernel_rfl) rfl rfl (by kernel_rfl) (by kernel_rfl) (by kernel_rfl) ?hloc_yg16 ?hstep_yg16 fun _ wd61 yg16 H62 hv hS => ?hK_yg16
  case hloc_yg16 => exact ⟨(fun _ _ _ _ => ⟨rfl, rfl⟩), (fun _ _ _ _ => ⟨rfl, rfl⟩), (fun yg16 i g hi => by have h2 : updC yg16 i g 2 = yg16 2 := updC_out hi rfl; exact ⟨(show (.agg ⟨[.string ⟨⟨y17.Name⟩⟩, .bool y17.Inherited, .int .u8 y17.Initial.Kind, .string ⟨⟨y17.Initial.Word⟩⟩, .int .i64 y17.Initial.Num, .int .u8 y17.Initial.Color.Red, .int .u8 y17.Initial.Color.Green, .int .u8 y17.Initial.Color.Blue, .int .u8 y17.Initial.Color.Alpha, .slice ((updC yg16 i g) 2 0).a y17.Words.length ((updC yg16 i g) 2 0).c, .slice ((updC yg16 i g) 2 1).a y17.Kinds.length ((updC yg16 i g) 2 1).c, .bool y17.Least]⟩ : Value) = .agg ⟨[.string ⟨⟨y17.Name⟩⟩, .bool y17.Inherited, .int .u8 y17.Initial.Kind, .string ⟨⟨y17.Initial.Word⟩⟩, .int .i64 y17.Initial.Num, .int .u8 y17.Initial.Color.Red, .int .u8 y17.Initial.Color.Green, .int .u8 y17.Initial.Color.Blue, .int .u8 y17.Initial.Color.Alpha, .slice (yg16 2 0).a y17.Words.length (yg16 2 0).c, .slice (yg16 2 1).a y17.Kinds.length (yg16 2 1).c, .bool y17.Least]⟩ by simp only [h2]), (show ([Ent.own 9 tS y17.Words ((updC yg16 i g) 2 0), Ent.own 5 (tI .u8) y17.Kinds ((updC yg16 i g) 2 1)] : List Ent) = [Ent.own 9 tS y17.Words (yg16 2 0), Ent.own 5 (tI .u8) y17.Kinds (yg16 2 1)] by simp only [h2])⟩), (fun _ _ _ _ => ⟨rfl, rfl⟩), (fun yg16 i g hi => by have h4 : updC yg16 i g 4 = yg16 4 := updC_out hi rfl; exact ⟨(show (.agg ⟨[.string ⟨⟨y22.Name⟩⟩, .bool y22.Inherited, .int .u8 y22.Initial.Kind, .string ⟨⟨y22.Initial.Word⟩⟩, .int .i64 y22.Initial.Num, .int .u8 y22.Initial.Color.Red, .int .u8 y22.Initial.Color.Green, .int .u8 y22.Initial.Color.Blue, .int .u8 y22.Initial.Color.Alpha, .slice ((updC yg16 i g) 4 0).a y22.Words.length ((updC yg16 i g) 4 0).c, .slice ((updC yg16 i g) 4 1).a y22.Kinds.length ((updC yg16 i g) 4 1).c, .bool y22.Least]⟩ : Value) = .agg ⟨[.string ⟨⟨y22.Name⟩⟩, .bool y22.Inherited, .int .u8 y22.Initial.Kind, .string ⟨⟨y22.Initial.Word⟩⟩, .int .i64 y22.Initial.Num, .int .u8 y22.Initial.Color.Red, .int .u8 y22.Initial.Color.Green, .int .u8 y22.Initial.Color.Blue, .int .u8 y22.Initial.Color.Alpha, .slice (yg16 4 0).a y22.Words.length (yg16 4 0).c, .slice (yg16 4 1).a y22.Kinds.length (yg16 4 1).c, .bool y22.Least]⟩ by simp only [h4]), (show ([Ent.own 9 tS y22.Words ((updC yg16 i g) 4 0), Ent.own 5 (tI .u8) y22.Kinds ((updC yg16 i g) 4 1)] : List Ent) = [Ent.own 9 tS y22.Words (yg16 4 0), Ent.own 5 (tI .u8) y22.Kinds (yg16 4 1)] by simp only [h4])⟩), (fun _ _ _ _ => ⟨rfl, rfl⟩), (fun yg16 i g hi => by have h6 : updC yg16 i g 6 = yg16 6 := updC_out hi rfl; exact ⟨(show (.agg ⟨[.string ⟨⟨y27.Name⟩⟩, .bool y27.Inherited, .int .u8 y27.Initial.Kind, .string ⟨⟨y27.Initial.Word⟩⟩, .int .i64 y27.Initial.Num, .int .u8 y27.Initial.Color.Red, .int .u8 y27.Initial.Color.Green, .int .u8 y27.Initial.Color.Blue, .int .u8 y27.Initial.Color.Alpha, .slice ((updC yg16 i g) 6 0).a y27.Words.length ((updC yg16 i g) 6 0).c, .slice ((updC yg16 i g) 6 1).a y27.Kinds.length ((updC yg16 i g) 6 1).c, .bool y27.Least]⟩ : Value) = .agg ⟨[.string ⟨⟨y27.Name⟩⟩, .bool y27.Inherited, .int .u8 y27.Initial.Kind, .string ⟨⟨y27.Initial.Word⟩⟩, .int .i64 y27.Initial.Num, .int .u8 y27.Initial.Color.Red, .int .u8 y27.Initial.Color.Green, .int .u8 y27.Initial.Color.Blue, .int .u8 y27.Initial.Color.Alpha, .slice (yg16 6 0).a y27.Words.length (yg16 6 0).c, .slice (yg16 6 1).a y27.Kinds.length (yg16 6 1).c, .bool y27.Least]⟩ by simp only [h6]), (show ([Ent.own 9 tS y27.Words ((updC yg16 i g) 6 0), Ent.own 5 (tI .u8) y27.Kinds ((updC yg16 i g) 6 1)] : List Ent) = [Ent.own 9 tS y27.Words (yg16 6 0), Ent.own 5 (tI .u8) y27.Kinds (yg16 6 1)] by simp only [h6])⟩), (fun _ _ _ _ => ⟨rfl, rfl⟩), (fun yg16 i g hi => by have h8 : updC yg16 i g 8 = yg16 8 := updC_out hi rfl; exact ⟨(show (.agg ⟨[.string ⟨⟨y32.Name⟩⟩, .bool y32.Inherited, .int .u8 y32.Initial.Kind, .string ⟨⟨y32.Initial.Word⟩⟩, .int .i64 y32.Initial.Num, .int .u8 y32.Initial.Color.Red, .int .u8 y32.Initial.Color.Green, .int .u8 y32.Initial.Color.Blue, .int .u8 y32.Initial.Color.Alpha, .slice ((updC yg16 i g) 8 0).a y32.Words.length ((updC yg16 i g) 8 0).c, .slice ((updC yg16 i g) 8 1).a y32.Kinds.length ((updC yg16 i g) 8 1).c, .bool y32.Least]⟩ : Value) = .agg ⟨[.string ⟨⟨y32.Name⟩⟩, .bool y32.Inherited, .int .u8 y32.Initial.Kind, .string ⟨⟨y32.Initial.Word⟩⟩, .int .i64 y32.Initial.Num, .int .u8 y32.Initial.Color.Red, .int .u8 y32.Initial.Color.Green, .int .u8 y32.Initial.Color.Blue, .int .u8 y32.Initial.Color.Alpha, .slice (yg16 8 0).a y32.Words.length (yg16 8 0).c, .slice (yg16 8 1).a y32.Kinds.length (yg16 8 1).c, .bool y32.Least]⟩ by simp only [h8]), (show ([Ent.own 9 tS y32.Words ((updC yg16 i g) 8 0), Ent.own 5 (tI .u8) y32.Kinds ((updC yg16 i g) 8 1)] : List Ent) = [Ent.own 9 tS y32.Words (yg16 8 0), Ent.own 5 (tI .u8) y32.Kinds (yg16 8 1)] by simp only [h8])⟩), (fun yg16 i g hi => by have h9 : updC yg16 i g 9 = yg16 9 := updC_out hi rfl; exact ⟨(show (.agg ⟨[.string ⟨⟨y37.Name⟩⟩, .bool y37.Inherited, .int .u8 y37.Initial.Kind, .string ⟨⟨y37.Initial.Word⟩⟩, .int .i64 y37.Initial.Num, .int .u8 y37.Initial.Color.Red, .int .u8 y37.Initial.Color.Green, .int .u8 y37.Initial.Color.Blue, .int .u8 y37.Initial.Color.Alpha, .slice ((updC yg16 i g) 9 0).a y37.Words.length ((updC yg16 i g) 9 0).c, .slice ((updC yg16 i g) 9 1).a y37.Kinds.length ((updC yg16 i g) 9 1).c, .bool y37.Least]⟩ : Value) = .agg ⟨[.string ⟨⟨y37.Name⟩⟩, .bool y37.Inherited, .int .u8 y37.Initial.Kind, .string ⟨⟨y37.Initial.Word⟩⟩, .int .i64 y37.Initial.Num, .int .u8 y37.Initial.Color.Red, .int .u8 y37.Initial.Color.Green, .int .u8 y37.Initial.Color.Blue, .int .u8 y37.Initial.Color.Alpha, .slice (yg16 9 0).a y37.Words.length (yg16 9 0).c, .slice (yg16 9 1).a y37.Kinds.length (yg16 9 1).c, .bool y37.Least]⟩ by simp only [h9]), (show ([Ent.own 9 tS y37.Words ((updC yg16 i g) 9 0), Ent.own 5 (tI .u8) y37.Kinds ((updC yg16 i g) 9 1)] : List Ent) = [Ent.own 9 tS y37.Words (yg16 9 0), Ent.own 5 (tI .u8) y37.Kinds (yg16 9 1)] by simp only [h9])⟩), (fun yg16 i g hi => by have h10 : updC yg16 i g 10 = yg16 10 := updC_out hi rfl; exact ⟨(show (.agg ⟨[.string ⟨⟨y42.Name⟩⟩, .bool y42.Inherited, .int .u8 y42.Initial.Kind, .string ⟨⟨y42.Initial.Word⟩⟩, .int .i64 y42.Initial.Num, .int .u8 y42.Initial.Color.Red, .int .u8 y42.Initial.Color.Green, .int .u8 y42.Initial.Color.Blue, .int .u8 y42.Initial.Color.Alpha, .slice ((updC yg16 i g) 10 0).a y42.Words.length ((updC yg16 i g) 10 0).c, .slice ((updC yg16 i g) 10 1).a y42.Kinds.length ((updC yg16 i g) 10 1).c, .bool y42.Least]⟩ : Value) = .agg ⟨[.string ⟨⟨y42.Name⟩⟩, .bool y42.Inherited, .int .u8 y42.Initial.Kind, .string ⟨⟨y42.Initial.Word⟩⟩, .int .i64 y42.Initial.Num, .int .u8 y42.Initial.Color.Red, .int .u8 y42.Initial.Color.Green, .int .u8 y42.Initial.Color.Blue, .int .u8 y42.Initial.Color.Alpha, .slice (yg16 10 0).a y42.Words.length (yg16 10 0).c, .slice (yg16 10 1).a y42.Kinds.length (yg16 10 1).c, .bool y42.Least]⟩ by simp only [h10]), (show ([Ent.own 9 tS y42.Words ((updC yg16 i g) 10 0), Ent.own 5 (tI .u8) y42.Kinds ((updC yg16 i g) 10 1)] : List Ent) = [Ent.own 9 tS y42.Words (yg16 10 0), Ent.own 5 (tI .u8) y42.Kinds (yg16 10 1)] by simp only [h10])⟩), (fun _ _ _ _ => ⟨rfl, rfl⟩), (fun yg16 i g hi => by have h12 : updC yg16 i g 12 = yg16 12 := updC_out hi rfl; exact ⟨(show (.agg ⟨[.string ⟨⟨y48.Name⟩⟩, .bool y48.Inherited, .int .u8 y48.Initial.Kind, .string ⟨⟨y48.Initial.Word⟩⟩, .int .i64 y48.Initial.Num, .int .u8 y48.Initial.Color.Red, .int .u8 y48.Initial.Color.Green, .int .u8 y48.Initial.Color.Blue, .int .u8 y48.Initial.Color.Alpha, .slice ((updC yg16 i g) 12 0).a y48.Words.length ((updC yg16 i g) 12 0).c, .slice ((updC yg16 i g) 12 1).a y48.Kinds.length ((updC yg16 i g) 12 1).c, .bool y48.Least]⟩ : Value) = .agg ⟨[.string ⟨⟨y48.Name⟩⟩, .bool y48.Inherited, .int .u8 y48.Initial.Kind, .string ⟨⟨y48.Initial.Word⟩⟩, .int .i64 y48.Initial.Num, .int .u8 y48.Initial.Color.Red, .int .u8 y48.Initial.Color.Green, .int .u8 y48.Initial.Color.Blue, .int .u8 y48.Initial.Color.Alpha, .slice (yg16 12 0).a y48.Words.length (yg16 12 0).c, .slice (yg16 12 1).a y48.Kinds.length (yg16 12 1).c, .bool y48.Least]⟩ by simp only [h12]), (show ([Ent.own 9 tS y48.Words ((updC yg16 i g) 12 0), Ent.own 5 (tI .u8) y48.Kinds ((updC yg16 i g) 12 1), Ent.im (tI .u8) ([] : List Int) (.nil)] : List Ent) = [Ent.own 9 tS y48.Words (yg16 12 0), Ent.own 5 (tI .u8) y48.Kinds (yg16 12 1), Ent.im (tI .u8) ([] : List Int) (.nil)] by simp only [h12])⟩), (fun _ _ _ _ => ⟨rfl, rfl⟩), (fun yg16 i g hi => by have h14 : updC yg16 i g 14 = yg16 14 := updC_out hi rfl; exact ⟨(show (.agg ⟨[.string ⟨⟨y54.Name⟩⟩, .bool y54.Inherited, .int .u8 y54.Initial.Kind, .string ⟨⟨y54.Initial.Word⟩⟩, .int .i64 y54.Initial.Num, .int .u8 y54.Initial.Color.Red, .int .u8 y54.Initial.Color.Green, .int .u8 y54.Initial.Color.Blue, .int .u8 y54.Initial.Color.Alpha, .slice ((updC yg16 i g) 14 0).a y54.Words.length ((updC yg16 i g) 14 0).c, .slice ((updC yg16 i g) 14 1).a y54.Kinds.length ((updC yg16 i g) 14 1).c, .bool y54.Least]⟩ : Value) = .agg ⟨[.string ⟨⟨y54.Name⟩⟩, .bool y54.Inherited, .int .u8 y54.Initial.Kind, .string ⟨⟨y54.Initial.Word⟩⟩, .int .i64 y54.Initial.Num, .int .u8 y54.Initial.Color.Red, .int .u8 y54.Initial.Color.Green, .int .u8 y54.Initial.Color.Blue, .int .u8 y54.Initial.Color.Alpha, .slice (yg16 14 0).a y54.Words.length (yg16 14 0).c, .slice (yg16 14 1).a y54.Kinds.length (yg16 14 1).c, .bool y54.Least]⟩ by simp only [h14]), (show ([Ent.own 9 tS y54.Words ((updC yg16 i g) 14 0), Ent.own 5 (tI .u8) y54.Kinds ((updC yg16 i g) 14 1), Ent.im (tI .u8) ([] : List Int) (.nil)] : List Ent) = [Ent.own 9 tS y54.Words (yg16 14 0), Ent.own 5 (tI .u8) y54.Kinds (yg16 14 1), Ent.im (tI .u8) ([] : List Int) (.nil)] by simp only [h14])⟩), (fun yg16 i g hi => by have h2 : updC yg16 i g 2 = yg16 2 := updC_out hi rfl; have h4 : updC yg16 i g 4 = yg16 4 := updC_out hi rfl; have h6 : updC yg16 i g 6 = yg16 6 := updC_out hi rfl; have h8 : updC yg16 i g 8 = yg16 8 := updC_out hi rfl; have h9 : updC yg16 i g 9 = yg16 9 := updC_out hi rfl; have h10 : updC yg16 i g 10 = yg16 10 := updC_out hi rfl; have h12 : updC yg16 i g 12 = yg16 12 := updC_out hi rfl; have h14 : updC yg16 i g 14 = yg16 14 := updC_out hi rfl; have h15 : updC yg16 i g 15 = yg16 15 := updC_out hi rfl; exact ⟨(show (.slice ((updC yg16 i g) 15 0).a 8 ((updC yg16 i g) 15 0).c : Value) = .slice (yg16 15 0).a 8 (yg16 15 0).c by simp only [h15]), (show ([Ent.own 51 tyProp ([y17, y22, y27, y32, y37, y42, y48, y54] : List TProp) ((updC yg16 i g) 15 0), Ent.im (tI .u8) y54.Kinds ((updC yg16 i g) 14 1), Ent.im tS y54.Words ((updC yg16 i g) 14 0), Ent.im (tI .u8) y48.Kinds ((updC yg16 i g) 12 1), Ent.im tS y48.Words ((updC yg16 i g) 12 0), Ent.im (tI .u8) y42.Kinds ((updC yg16 i g) 10 1), Ent.im tS y42.Words ((updC yg16 i g) 10 0), Ent.im (tI .u8) y37.Kinds ((updC yg16 i g) 9 1), Ent.im tS y37.Words ((updC yg16 i g) 9 0), Ent.im (tI .u8) y32.Kinds ((updC yg16 i g) 8 1), Ent.im tS y32.Words ((updC yg16 i g) 8 0), Ent.im (tI .u8) y27.Kinds ((updC yg16 i g) 6 1), Ent.im tS y27.Words ((updC yg16 i g) 6 0), Ent.im (tI .u8) y22.Kinds ((updC yg16 i g) 4 1), Ent.im tS y22.Words ((updC yg16 i g) 4 0), Ent.im (tI .u8) y17.Kinds ((updC yg16 i g) 2 1), Ent.im tS y17.Words ((updC yg16 i g) 2 0), Ent.im (tI .u8) ([] : List Int) (.nil), Ent.im (tI .u8) ([] : List Int) (.nil)] : List Ent) = [Ent.own 51 tyProp ([y17, y22, y27, y32, y37, y42, y48, y54] : List TProp) (yg16 15 0), Ent.im (tI .u8) y54.Kinds (yg16 14 1), Ent.im tS y54.Words (yg16 14 0), Ent.im (tI .u8) y48.Kinds (yg16 12 1), Ent.im tS y48.Words (yg16 12 0), Ent.im (tI .u8) y42.Kinds (yg16 10 1), Ent.im tS y42.Words (yg16 10 0), Ent.im (tI .u8) y37.Kinds (yg16 9 1), Ent.im tS y37.Words (yg16 9 0), Ent.im (tI .u8) y32.Kinds (yg16 8 1), Ent.im tS y32.Words (yg16 8 0), Ent.im (tI .u8) y27.Kinds (yg16 6 1), Ent.im tS y27.Words (yg16 6 0), Ent.im (tI .u8) y22.Kinds (yg16 4 1), Ent.im tS y22.Words (yg16 4 0), Ent.im (tI .u8) y17.Kinds (yg16 2 1), Ent.im tS y17.Words (yg16 2 0), Ent.im (tI .u8) ([] : List Int) (.nil), Ent.im (tI .u8) ([] : List Int) (.nil)] by simp only [h2, h4, h6, h8, h9, h10, h12, h14, h15])⟩), (fun yg16 i g hi => by have h15 : updC yg16 i g 15 = yg16 15 := updC_out hi rfl; exact ⟨(show (.slice ((updC yg16 i g) 15 0).a 8 ((updC yg16 i g) 15 0).c : Value) = .slice (yg16 15 0).a 8 (yg16 15 0).c by simp only [h15]), (show ([] : List Ent) = [] by simp only [])⟩), trivial⟩
  case hstep_yg16 =>
    refine ⟨?_, ?_, ?_, ?_, ?_, ?_, ?_, ?_, ?_, ?_, ?_, ?_, ?_, ?_, ?_, ?_, ?_, trivial⟩
    · intro o ho a w yg16 M Hb hv hO hS0
      obtain rfl := Option.some.inj ho
      have H : Fr 57 ([] ++ [(1, [], .pointer (some ⟨b6, 0, none⟩)), (2, [], .pointer (some ⟨b9, 0, none⟩))]) _ := Hb
      obtain ⟨X, hX⟩ : ∃ X, X = fpl [] := ⟨_, rfl⟩
      have hS : SH M X w [] w := by rw [hX]; exact hS0
      refine Stp.mono (o_evs [] (.agg ⟨[.int .u8 0, .int .u8 0, .int .u8 0, .int .u8 255]⟩) none [] H rfl (by kernel_rfl) (fun q e => by cases e)) ?_
      rintro v w2 ⟨rfl, hq⟩
      replace hS : SH M X w [] _ := hS.below hq.below
      rw [hX] at hS
      exact ⟨gL [], fun _ _ => rfl, hS.sel [] rfl⟩
    · intro o ho a w yg16 M Hb hv hO hS0
      obtain rfl := Option.some.inj ho
      have H : Fr 57 ([(8, [], .agg ⟨[.int .u8 0, .int .u8 0, .int .u8 0, .int .u8 255]⟩)] ++ [(1, [], .pointer (some ⟨b6, 0, none⟩)), (2, [], .pointer (some ⟨b9, 0, none⟩))]) _ := (Hb).add (hv 0 (by decide) (by decide) 8 rfl)
      obtain ⟨X, hX⟩ : ∃ X, X = fpl [] := ⟨_, rfl⟩
      have hS : SH M X w [] w := by rw [hX]; exact hS0
      refine Stp.mono (o_evs [] (.agg ⟨[.int .u8 7, .string ⟨⟨[]⟩⟩, .int .i64 0, .int .u8 0, .int .u8 0, .int .u8 0, .int .u8 255]⟩) none [] H rfl (by kernel_rfl) (fun q e => by cases e)) ?_
      rintro v w2 ⟨rfl, hq⟩
      replace hS : SH M X w [] _ := hS.below hq.below
      rw [hX] at hS
      exact ⟨gL [], fun _ _ => rfl, hS.sel [] rfl⟩
    · intro o ho a w yg16 M Hb hv hO hS0
      obtain rfl := Option.some.inj ho
      have H : Fr 57 ([(9, [], .agg ⟨[.int .u8 7, .string ⟨⟨[]⟩⟩, .int .i64 0, .int .u8 0, .int .u8 0, .int .u8 0, .int .u8 255]⟩)] ++ [(1, [], .pointer (some ⟨b6, 0, none⟩)), (2, [], .pointer (some ⟨b9, 0, none⟩))]) _ := (Hb).add (hv 1 (by decide) (by decide) 9 rfl)
      obtain ⟨X, hX⟩ : ∃ X, X = fpl [] := ⟨_, rfl⟩
      have hS : SH M X w [] w := by rw [hX]; exact hS0
      have hd : S0 (AvL M []) [] _ := hS.hand [] [] rfl rfl
      refine Stp.mono (o_callx H rfl rfl (props_color_ok _ _ _ _ hy17.symm _ _ hd)) ?_
      rintro v w2 hq
      obtain ⟨g18, g20, rfl, hq⟩ := hq
      replace hS : SH M X w [Ent.own 9 tS y17.Words g18, Ent.own 5 (tI .u8) y17.Kinds g20] _ := hS.join [] [] rfl rfl hq
      clear hq
      rw [hX] at hS
      exact ⟨gL [g18, g20], fun _ _ => rfl, hS.sel [0, 1] rfl⟩
    · intro o ho a w yg16 M Hb hv hO hS0
      obtain rfl := Option.some.inj ho
      have H : Fr 57 ([] ++ [(1, [], .pointer (some ⟨b6, 0, none⟩)), (2, [], .pointer (some ⟨b9, 0, none⟩))]) _ := Hb
      obtain ⟨X, hX⟩ : ∃ X, X = fpl [] := ⟨_, rfl⟩
      have hS : SH M X w [] w := by rw [hX]; exact hS0
      refine Stp.mono (o_evs [] (.agg ⟨[.int .u8 7, .string ⟨⟨[]⟩⟩, .int .i64 0, .int .u8 0, .int .u8 0, .int .u8 0, .int .u8 0]⟩) none [] H rfl (by kernel_rfl) (fun q e => by cases e)) ?_
      rintro v w2 ⟨rfl, hq⟩
      replace hS : SH M X w [] _ := hS.below hq.below
      rw [hX] at hS
      exact ⟨gL [], fun _ _ => rfl, hS.sel [] rfl⟩
    · intro o ho a w yg16 M Hb hv hO hS0
      obtain rfl := Option.some.inj ho
      have H : Fr 57 ([(11, [], .agg ⟨[.int .u8 7, .string ⟨⟨[]⟩⟩, .int .i64 0, .int .u8 0, .int .u8 0, .int .u8 0, .int .u8 0]⟩)] ++ [(1, [], .pointer (some ⟨b6, 0, none⟩)), (2, [], .pointer (some ⟨b9, 0, none⟩))]) _ := (Hb).add (hv 3 (by decide) (by decide) 11 rfl)
      obtain ⟨X, hX⟩ : ∃ X, X = fpl [] := ⟨_, rfl⟩
      have hS : SH M X w [] w := by rw [hX]; exact hS0
      have hd : S0 (AvL M []) [] _ := hS.hand [] [] rfl rfl
      refine Stp.mono (o_callx H rfl rfl (props_color_ok _ _ _ _ hy22.symm _ _ hd)) ?_
      rintro v w2 hq
      obtain ⟨g23, g25, rfl, hq⟩ := hq
      replace hS : SH M X w [Ent.own 9 tS y22.Words g23, Ent.own 5 (tI .u8) y22.Kinds g25] _ := hS.join [] [] rfl rfl hq
      clear hq
      rw [hX] at hS
      exact ⟨gL [g23, g25], fun _ _ => rfl, hS.sel [0, 1] rfl⟩
    · intro o ho a w yg16 M Hb hv hO hS0
      obtain rfl := Option.some.inj ho
      have H : Fr 57 ([] ++ [(1, [], .pointer (some ⟨b6, 0, none⟩)), (2, [], .pointer (some ⟨b9, 0, none⟩))]) _ := Hb
      obtain ⟨X, hX⟩ : ∃ X, X = fpl [] := ⟨_, rfl⟩
      have hS : SH M X w [] w := by rw [hX]; exact hS0
      refine Stp.mono (o_evs [] (.agg ⟨[.int .u8 8, .string ⟨⟨[]⟩⟩, .int .i64 0, .int .u8 0, .int .u8 0, .int .u8 0, .int .u8 0]⟩) none [] H rfl (by kernel_rfl) (fun q e => by cases e)) ?_
      rintro v w2 ⟨rfl, hq⟩
      replace hS : SH M X w [] _ := hS.below hq.below
      rw [hX] at hS
      exact ⟨gL [], fun _ _ => rfl, hS.sel [] rfl⟩
    · intro o ho a w yg16 M Hb hv hO hS0
      obtain rfl := Option.some.inj ho
      have H : Fr 57 ([(13, [], .agg ⟨[.int .u8 8, .string ⟨⟨[]⟩⟩, .int .i64 0, .int .u8 0, .int .u8 0, .int .u8 0, .int .u8 0]⟩)] ++ [(1, [], .pointer (some ⟨b6, 0, none⟩)), (2, [], .pointer (some ⟨b9, 0, none⟩))]) _ := (Hb).add (hv 5 (by decide) (by decide) 13 rfl)
      obtain ⟨X, hX⟩ : ∃ X, X = fpl [] := ⟨_, rfl⟩
      have hS : SH M X w [] w := by rw [hX]; exact hS0
      have hd : S0 (AvL M []) [] _ := hS.hand [] [] rfl rfl
      refine Stp.mono (o_callx H rfl rfl (props_color_ok _ _ _ _ hy27.symm _ _ hd)) ?_
      rintro v w2 hq
      obtain ⟨g28, g30, rfl, hq⟩ := hq
      replace hS : SH M X w [Ent.own 9 tS y27.Words g28, Ent.own 5 (tI .u8) y27.Kinds g30] _ := hS.join [] [] rfl rfl hq
      clear hq
      rw [hX] at hS
      exact ⟨gL [g28, g30], fun _ _ => rfl, hS.sel [0, 1] rfl⟩
    · intro o ho a w yg16 M Hb hv hO hS0
      obtain rfl := Option.some.inj ho
      have H : Fr 57 ([] ++ [(1, [], .pointer (some ⟨b6, 0, none⟩)), (2, [], .pointer (some ⟨b9, 0, none⟩))]) _ := Hb
      obtain ⟨X, hX⟩ : ∃ X, X = fpl [] := ⟨_, rfl⟩
      have hS : SH M X w [] w := by rw [hX]; exact hS0
      refine Stp.mono (o_evs [] (.agg ⟨[.int .u8 8, .string ⟨⟨[]⟩⟩, .int .i64 0, .int .u8 0, .int .u8 0, .int .u8 0, .int .u8 0]⟩) none [] H rfl (by kernel_rfl) (fun q e => by cases e)) ?_
      rintro v w2 ⟨rfl, hq⟩
      replace hS : SH M X w [] _ := hS.below hq.below
      rw [hX] at hS
      exact ⟨gL [], fun _ _ => rfl, hS.sel [] rfl⟩
    · intro o ho a w yg16 M Hb hv hO hS0
      obtain rfl := Option.some.inj ho
      have H : Fr 57 ([(15, [], .agg ⟨[.int .u8 8, .string ⟨⟨[]⟩⟩, .int .i64 0, .int .u8 0, .int .u8 0, .int .u8 0, .int .u8 0]⟩)] ++ [(1, [], .pointer (some ⟨b6, 0, none⟩)), (2, [], .pointer (some ⟨b9, 0, none⟩))]) _ := (Hb).add (hv 7 (by decide) (by decide) 15 rfl)
      obtain ⟨X, hX⟩ : ∃ X, X = fpl [] := ⟨_, rfl⟩
      have hS : SH M X w [] w := by rw [hX]; exact hS0
      have hd : S0 (AvL M []) [] _ := hS.hand [] [] rfl rfl
      refine Stp.mono (o_callx H rfl rfl (props_color_ok _ _ _ _ hy32.symm _ _ hd)) ?_
      rintro v w2 hq
      obtain ⟨g33, g35, rfl, hq⟩ := hq
      replace hS : SH M X w [Ent.own 9 tS y32.Words g33, Ent.own 5 (tI .u8) y32.Kinds g35] _ := hS.join [] [] rfl rfl hq
      clear hq
      rw [hX] at hS
      exact ⟨gL [g33, g35], fun _ _ => rfl, hS.sel [0, 1] rfl⟩
    · intro o ho a w yg16 M Hb hv hO hS0
      obtain rfl := Option.some.inj ho
      have H : Fr 57 ([] ++ [(1, [], .pointer (some ⟨b6, 0, none⟩)), (2, [], .pointer (some ⟨b9, 0, none⟩))]) _ := Hb
      obtain ⟨X, hX⟩ : ∃ X, X = fpl [Ent.im (tI .u8) gl_strings_asciiSpace (Gh.mk (some ⟨0, 0, none⟩) 256 fun _ _ => .nil)] := ⟨_, rfl⟩
      have hS : SH M X w [Ent.im (tI .u8) gl_strings_asciiSpace (Gh.mk (some ⟨0, 0, none⟩) 256 fun _ _ => .nil)] w := by rw [hX]; exact hS0
      have hd : S0 (AvL M [Ent.im (tI .u8) gl_strings_asciiSpace (Gh.mk (some ⟨0, 0, none⟩) 256 fun _ _ => .nil)]) [Ent.im (tI .u8) gl_strings_asciiSpace (Gh.mk (some ⟨0, 0, none⟩) 256 fun _ _ => .nil)] _ := hS.hand [0] [0] rfl rfl
      refine Stp.mono (o_callx H rfl rfl (props_words_ok m _ _ _ _ _ hy37 _ _ hd)) ?_
      rintro v w2 hq
      obtain ⟨g38, g40, rfl, hq⟩ := hq
      replace hS : SH M X w [Ent.own 9 tS y37.Words g38, Ent.own 5 (tI .u8) y37.Kinds g40, Ent.im (tI .u8) gl_strings_asciiSpace (Gh.mk (some ⟨0, 0, none⟩) 256 fun _ _ => .nil)] _ := hS.join [0] [0] rfl rfl hq
      clear hq
      rw [hX] at hS
      exact ⟨gL [g38, g40], fun _ _ => rfl, hS.sel [0, 1, 2] rfl⟩
    · intro o ho a w yg16 M Hb hv hO hS0
      obtain rfl := Option.some.inj ho
      have H : Fr 57 ([] ++ [(1, [], .pointer (some ⟨b6, 0, none⟩)), (2, [], .pointer (some ⟨b9, 0, none⟩))]) _ := Hb
      obtain ⟨X, hX⟩ : ∃ X, X = fpl [Ent.im (tI .u8) gl_strings_asciiSpace (Gh.mk (some ⟨0, 0, none⟩) 256 fun _ _ => .nil)] := ⟨_, rfl⟩
      have hS : SH M X w [Ent.im (tI .u8) gl_strings_asciiSpace (Gh.mk (some ⟨0, 0, none⟩) 256 fun _ _ => .nil)] w := by rw [hX]; exact hS0
      have hd : S0 (AvL M [Ent.im (tI .u8) gl_strings_asciiSpace (Gh.mk (some ⟨0, 0, none⟩) 256 fun _ _ => .nil)]) [Ent.im (tI .u8) gl_strings_asciiSpace (Gh.mk (some ⟨0, 0, none⟩) 256 fun _ _ => .nil)] _ := hS.hand [0] [0] rfl rfl
      refine Stp.mono (o_callx H rfl rfl (props_words_ok m _ _ _ _ _ hy42 _ _ hd)) ?_
      rintro v w2 hq
      obtain ⟨g43, g45, rfl, hq⟩ := hq
      replace hS : SH M X w [Ent.own 9 tS y42.Words g43, Ent.own 5 (tI .u8) y42.Kinds g45, Ent.im (tI .u8) gl_strings_asciiSpace (Gh.mk (some ⟨0, 0, none⟩) 256 fun _ _ => .nil)] _ := hS.join [0] [0] rfl rfl hq
      clear hq
      rw [hX] at hS
      exact ⟨gL [g43, g45], fun _ _ => rfl, hS.sel [0, 1, 2] rfl⟩
    · intro o ho a w yg16 M Hb hv hO hS0
      obtain rfl := Option.some.inj ho
      have H : Fr 57 ([] ++ [(1, [], .pointer (some ⟨b6, 0, none⟩)), (2, [], .pointer (some ⟨b9, 0, none⟩))]) _ := Hb
      obtain ⟨X, hX⟩ : ∃ X, X = fpl [Ent.blk b6 [.int .u8 y3.Kind, .string ⟨⟨y3.Word⟩⟩, .int .i64 y3.Num, .int .u8 y3.Color.Red, .int .u8 y3.Color.Green, .int .u8 y3.Color.Blue, .int .u8 y3.Color.Alpha]] := ⟨_, rfl⟩
      have hS : SH M X w [Ent.blk b6 [.int .u8 y3.Kind, .string ⟨⟨y3.Word⟩⟩, .int .i64 y3.Num, .int .u8 y3.Color.Red, .int .u8 y3.Color.Green, .int .u8 y3.Color.Blue, .int .u8 y3.Color.Alpha]] w := by rw [hX]; exact hS0
      refine Stp.mono (o_evs [(.agg ⟨[.int .u8 y3.Kind, .string ⟨⟨y3.Word⟩⟩, .int .i64 y3.Num, .int .u8 y3.Color.Red, .int .u8 y3.Color.Green, .int .u8 y3.Color.Blue, .int .u8 y3.Color.Alpha]⟩)] (.agg ⟨[.int .u8 y3.Kind, .string ⟨⟨y3.Word⟩⟩, .int .i64 y3.Num, .int .u8 y3.Color.Red, .int .u8 y3.Color.Green, .int .u8 y3.Color.Blue, .int .u8 y3.Color.Alpha]⟩) (some (fun wz => V.atN b6 0 [.int .u8 y3.Kind, .string ⟨⟨y3.Word⟩⟩, .int .i64 y3.Num, .int .u8 y3.Color.Red, .int .u8 y3.Color.Green, .int .u8 y3.Color.Blue, .int .u8 y3.Color.Alpha] 0 wz)) [] H rfl (by kernel_rfl) (fun q e => by cases e; exact ((hS.bk 0 rfl).atD rfl))) ?_
      rintro v w2 ⟨rfl, hq⟩
      replace hS : SH M X w [Ent.blk b6 [.int .u8 y3.Kind, .string ⟨⟨y3.Word⟩⟩, .int .i64 y3.Num, .int .u8 y3.Color.Red, .int .u8 y3.Color.Green, .int .u8 y3.Color.Blue, .int .u8 y3.Color.Alpha]] _ := hS.below hq.below
      rw [hX] at hS
      exact ⟨gL [], fun _ _ => rfl, hS.sel [0] rfl⟩
    · intro o ho a w yg16 M Hb hv hO hS0
      obtain rfl := Option.some.inj ho
      have H : Fr 57 ([(19, [], .agg ⟨[.int .u8 y3.Kind, .string ⟨⟨y3.Word⟩⟩, .int .i64 y3.Num, .int .u8 y3.Color.Red, .int .u8 y3.Color.Green, .int .u8 y3.Color.Blue, .int .u8 y3.Color.Alpha]⟩)] ++ [(1, [], .pointer (some ⟨b6, 0, none⟩)), (2, [], .pointer (some ⟨b9, 0, none⟩))]) _ := (Hb).add (hv 11 (by decide) (by decide) 19 rfl)
      obtain ⟨X, hX⟩ : ∃ X, X = fpl [Ent.im (tI .u8) gl_strings_asciiSpace (Gh.mk (some ⟨0, 0, none⟩) 256 fun _ _ => .nil)] := ⟨_, rfl⟩
      have hS : SH M X w [Ent.im (tI .u8) gl_strings_asciiSpace (Gh.mk (some ⟨0, 0, none⟩) 256 fun _ _ => .nil)] w := by rw [hX]; exact hS0
      replace hS : SH M X w [Ent.own 5 (tI .u8) ([] : List Int) (.nil), Ent.im (tI .u8) gl_strings_asciiSpace (Gh.mk (some ⟨0, 0, none⟩) 256 fun _ _ => .nil)] _ := hS.addNil 5 (tI .u8)
      replace hS : SH M X w [Ent.im (tI .u8) ([] : List Int) (.nil), Ent.im (tI .u8) gl_strings_asciiSpace (Gh.mk (some ⟨0, 0, none⟩) 256 fun _ _ => .nil)] _ := SH.frz1 (hS.sel [0, 1] rfl)
      have hd : S0 (AvL M [Ent.im (tI .u8) ([] : List Int) (.nil), Ent.im (tI .u8) gl_strings_asciiSpace (Gh.mk (some ⟨0, 0, none⟩) 256 fun _ _ => .nil)]) [Ent.im (tI .u8) ([] : List Int) (.nil), Ent.im (tI .u8) gl_strings_asciiSpace (Gh.mk (some ⟨0, 0, none⟩) 256 fun _ _ => .nil)] _ := hS.hand [0, 1] [0, 1] rfl rfl
      refine Stp.mono (o_callx H rfl rfl (props_length_ok (g_more := Gh.nil) m _ _ _ _ _ _ _ hy48 _ _ hd)) ?_
      rintro v w2 hq
      obtain ⟨g49, g51, rfl, hq⟩ := hq
      replace hS : SH M X w [Ent.own 9 tS y48.Words g49, Ent.own 5 (tI .u8) y48.Kinds g51, Ent.im (tI .u8) ([] : List Int) (.nil), Ent.im (tI .u8) gl_strings_asciiSpace (Gh.mk (some ⟨0, 0, none⟩) 256 fun _ _ => .nil)] _ := hS.join [0, 1] [0, 1] rfl rfl hq
      clear hq
      rw [hX] at hS
      exact ⟨gL [g49, g51], fun _ _ => rfl, hS.sel [0, 1, 2, 3] rfl⟩
    · intro o ho a w yg16 M Hb hv hO hS0
      obtain rfl := Option.some.inj ho
      have H : Fr 57 ([] ++ [(1, [], .pointer (some ⟨b6, 0, none⟩)), (2, [], .pointer (some ⟨b9, 0, none⟩))]) _ := Hb
      obtain ⟨X, hX⟩ : ∃ X, X = fpl [Ent.blk b6 [.int .u8 y3.Kind, .string ⟨⟨y3.Word⟩⟩, .int .i64 y3.Num, .int .u8 y3.Color.Red, .int .u8 y3.Color.Green, .int .u8 y3.Color.Blue, .int .u8 y3.Color.Alpha]] := ⟨_, rfl⟩
      have hS : SH M X w [Ent.blk b6 [.int .u8 y3.Kind, .string ⟨⟨y3.Word⟩⟩, .int .i64 y3.Num, .int .u8 y3.Color.Red, .int .u8 y3.Color.Green, .int .u8 y3.Color.Blue, .int .u8 y3.Color.Alpha]] w := by rw [hX]; exact hS0
      refine Stp.mono (o_evs [(.agg ⟨[.int .u8 y3.Kind, .string ⟨⟨y3.Word⟩⟩, .int .i64 y3.Num, .int .u8 y3.Color.Red, .int .u8 y3.Color.Green, .int .u8 y3.Color.Blue, .int .u8 y3.Color.Alpha]⟩)] (.agg ⟨[.int .u8 y3.Kind, .string ⟨⟨y3.Word⟩⟩, .int .i64 y3.Num, .int .u8 y3.Color.Red, .int .u8 y3.Color.Green, .int .u8 y3.Color.Blue, .int .u8 y3.Color.Alpha]⟩) (some (fun wz => V.atN b6 0 [.int .u8 y3.Kind, .string ⟨⟨y3.Word⟩⟩, .int .i64 y3.Num, .int .u8 y3.Color.Red, .int .u8 y3.Color.Green, .int .u8 y3.Color.Blue, .int .u8 y3.Color.Alpha] 0 wz)) [] H rfl (by kernel_rfl) (fun q e => by cases e; exact ((hS.bk 0 rfl).atD rfl))) ?_
      rintro v w2 ⟨rfl, hq⟩
      replace hS : SH M X w [Ent.blk b6 [.int .u8 y3.Kind, .string ⟨⟨y3.Word⟩⟩, .int .i64 y3.Num, .int .u8 y3.Color.Red, .int .u8 y3.Color.Green, .int .u8 y3.Color.Blue, .int .u8 y3.Color.Alpha]] _ := hS.below hq.below
      rw [hX] at hS
      exact ⟨gL [], fun _ _ => rfl, hS.sel [0] rfl⟩
    · intro o ho a w yg16 M Hb hv hO hS0
      obtain rfl := Option.some.inj ho
      have H : Fr 57 ([(21, [], .agg ⟨[.int .u8 y3.Kind, .string ⟨⟨y3.Word⟩⟩, .int .i64 y3.Num, .int .u8 y3.Color.Red, .int .u8 y3.Color.Green, .int .u8 y3.Color.Blue, .int .u8 y3.Color.Alpha]⟩)] ++ [(1, [], .pointer (some ⟨b6, 0, none⟩)), (2, [], .pointer (some ⟨b9, 0, none⟩))]) _ := (Hb).add (hv 13 (by decide) (by decide) 21 rfl)
      obtain ⟨X, hX⟩ : ∃ X, X = fpl [Ent.im (tI .u8) gl_strings_asciiSpace (Gh.mk (some ⟨0, 0, none⟩) 256 fun _ _ => .nil)] := ⟨_, rfl⟩
      have hS : SH M X w [Ent.im (tI .u8) gl_strings_asciiSpace (Gh.mk (some ⟨0, 0, none⟩) 256 fun _ _ => .nil)] w := by rw [hX]; exact hS0
      replace hS : SH M X w [Ent.own 5 (tI .u8) ([] : List Int) (.nil), Ent.im (tI .u8) gl_strings_asciiSpace (Gh.mk (some ⟨0, 0, none⟩) 256 fun _ _ => .nil)] _ := hS.addNil 5 (tI .u8)
      replace hS : SH M X w [Ent.im (tI .u8) ([] : List Int) (.nil), Ent.im (tI .u8) gl_strings_asciiSpace (Gh.mk (some ⟨0, 0, none⟩) 256 fun _ _ => .nil)] _ := SH.frz1 (hS.sel [0, 1] rfl)
      have hd : S0 (AvL M [Ent.im (tI .u8) ([] : List Int) (.nil), Ent.im (tI .u8) gl_strings_asciiSpace (Gh.mk (some ⟨0, 0, none⟩) 256 fun _ _ => .nil)]) [Ent.im (tI .u8) ([] : List Int) (.nil), Ent.im (tI .u8) gl_strings_asciiSpace (Gh.mk (some ⟨0, 0, none⟩) 256 fun _ _ => .nil)] _ := hS.hand [0, 1] [0, 1] rfl rfl
      refine Stp.mono (o_callx H rfl rfl (props_length_ok (g_more := Gh.nil) m _ _ _ _ _ _ _ hy54 _ _ hd)) ?_
      rintro v w2 hq
      obtain ⟨g55, g57, rfl, hq⟩ := hq
      replace hS : SH M X w [Ent.own 9 tS y54.Words g55, Ent.own 5 (tI .u8) y54.Kinds g57, Ent.im (tI .u8) ([] : List Int) (.nil), Ent.im (tI .u8) gl_strings_asciiSpace (Gh.mk (some ⟨0, 0, none⟩) 256 fun _ _ => .nil)] _ := hS.join [0, 1] [0, 1] rfl rfl hq
      clear hq
      rw [hX] at hS
      exact ⟨gL [g55, g57], fun _ _ => rfl, hS.sel [0, 1, 2, 3] rfl⟩
    · intro o ho a w yg16 M Hb hv hO hS0
      obtain rfl := Option.some.inj ho
      have H : Fr 57 ([(22, [], .agg ⟨[.string ⟨⟨y54.Name⟩⟩, .bool y54.Inherited, .int .u8 y54.Initial.Kind, .string ⟨⟨y54.Initial.Word⟩⟩, .int .i64 y54.Initial.Num, .int .u8 y54.Initial.Color.Red, .int .u8 y54.Initial.Color.Green, .int .u8 y54.Initial.Color.Blue, .int .u8 y54.Initial.Color.Alpha, .slice (yg16 14 0).a y54.Words.length (yg16 14 0).c, .slice (yg16 14 1).a y54.Kinds.length (yg16 14 1).c, .bool y54.Least]⟩), (20, [], .agg ⟨[.string ⟨⟨y48.Name⟩⟩, .bool y48.Inherited, .int .u8 y48.Initial.Kind, .string ⟨⟨y48.Initial.Word⟩⟩, .int .i64 y48.Initial.Num, .int .u8 y48.Initial.Color.Red, .int .u8 y48.Initial.Color.Green, .int .u8 y48.Initial.Color.Blue, .int .u8 y48.Initial.Color.Alpha, .slice (yg16 12 0).a y48.Words.length (yg16 12 0).c, .slice (yg16 12 1).a y48.Kinds.length (yg16 12 1).c, .bool y48.Least]⟩), (18, [], .agg ⟨[.string ⟨⟨y42.Name⟩⟩, .bool y42.Inherited, .int .u8 y42.Initial.Kind, .string ⟨⟨y42.Initial.Word⟩⟩, .int .i64 y42.Initial.Num, .int .u8 y42.Initial.Color.Red, .int .u8 y42.Initial.Color.Green, .int .u8 y42.Initial.Color.Blue, .int .u8 y42.Initial.Color.Alpha, .slice (yg16 10 0).a y42.Words.length (yg16 10 0).c, .slice (yg16 10 1).a y42.Kinds.length (yg16 10 1).c, .bool y42.Least]⟩), (17, [], .agg ⟨[.string ⟨⟨y37.Name⟩⟩, .bool y37.Inherited, .int .u8 y37.Initial.Kind, .string ⟨⟨y37.Initial.Word⟩⟩, .int .i64 y37.Initial.Num, .int .u8 y37.Initial.Color.Red, .int .u8 y37.Initial.Color.Green, .int .u8 y37.Initial.Color.Blue, .int .u8 y37.Initial.Color.Alpha, .slice (yg16 9 0).a y37.Words.length (yg16 9 0).c, .slice (yg16 9 1).a y37.Kinds.length (yg16 9 1).c, .bool y37.Least]⟩), (16, [], .agg ⟨[.string ⟨⟨y32.Name⟩⟩, .bool y32.Inherited, .int .u8 y32.Initial.Kind, .string ⟨⟨y32.Initial.Word⟩⟩, .int .i64 y32.Initial.Num, .int .u8 y32.Initial.Color.Red, .int .u8 y32.Initial.Color.Green, .int .u8 y32.Initial.Color.Blue, .int .u8 y32.Initial.Color.Alpha, .slice (yg16 8 0).a y32.Words.length (yg16 8 0).c, .slice (yg16 8 1).a y32.Kinds.length (yg16 8 1).c, .bool y32.Least]⟩), (14, [], .agg ⟨[.string ⟨⟨y27.Name⟩⟩, .bool y27.Inherited, .int .u8 y27.Initial.Kind, .string ⟨⟨y27.Initial.Word⟩⟩, .int .i64 y27.Initial.Num, .int .u8 y27.Initial.Color.Red, .int .u8 y27.Initial.Color.Green, .int .u8 y27.Initial.Color.Blue, .int .u8 y27.Initial.Color.Alpha, .slice (yg16 6 0).a y27.Words.length (yg16 6 0).c, .slice (yg16 6 1).a y27.Kinds.length (yg16 6 1).c, .bool y27.Least]⟩), (12, [], .agg ⟨[.string ⟨⟨y22.Name⟩⟩, .bool y22.Inherited, .int .u8 y22.Initial.Kind, .string ⟨⟨y22.Initial.Word⟩⟩, .int .i64 y22.Initial.Num, .int .u8 y22.Initial.Color.Red, .int .u8 y22.Initial.Color.Green, .int .u8 y22.Initial.Color.Blue, .int .u8 y22.Initial.Color.Alpha, .slice (yg16 4 0).a y22.Words.length (yg16 4 0).c, .slice (yg16 4 1).a y22.Kinds.length (yg16 4 1).c, .bool y22.Least]⟩), (10, [], .agg ⟨[.string ⟨⟨y17.Name⟩⟩, .bool y17.Inherited, .int .u8 y17.Initial.Kind, .string ⟨⟨y17.Initial.Word⟩⟩, .int .i64 y17.Initial.Num, .int .u8 y17.Initial.Color.Red, .int .u8 y17.Initial.Color.Green, .int .u8 y17.Initial.Color.Blue, .int .u8 y17.Initial.Color.Alpha, .slice (yg16 2 0).a y17.Words.length (yg16 2 0).c, .slice (yg16 2 1).a y17.Kinds.length (yg16 2 1).c, .bool y17.Least]⟩)] ++ [(1, [], .pointer (some ⟨b6, 0, none⟩)), (2, [], .pointer (some ⟨b9, 0, none⟩))]) _ := ((((((((Hb).add (hv 2 (by decide) (by decide) 10 rfl)).add (hv 4 (by decide) (by decide) 12 rfl)).add (hv 6 (by decide) (by decide) 14 rfl)).add (hv 8 (by decide) (by decide) 16 rfl)).add (hv 9 (by decide) (by decide) 17 rfl)).add (hv 10 (by decide) (by decide) 18 rfl)).add (hv 12 (by decide) (by decide) 20 rfl)).add (hv 14 (by decide) (by decide) 22 rfl)
      obtain ⟨X, hX⟩ : ∃ X, X = fpl [Ent.own 9 tS y17.Words (yg16 2 0), Ent.own 5 (tI .u8) y17.Kinds (yg16 2 1), Ent.own 9 tS y22.Words (yg16 4 0), Ent.own 5 (tI .u8) y22.Kinds (yg16 4 1), Ent.own 9 tS y27.Words (yg16 6 0), Ent.own 5 (tI .u8) y27.Kinds (yg16 6 1), Ent.own 9 tS y32.Words (yg16 8 0), Ent.own 5 (tI .u8) y32.Kinds (yg16 8 1), Ent.own 9 tS y37.Words (yg16 9 0), Ent.own 5 (tI .u8) y37.Kinds (yg16 9 1), Ent.own 9 tS y42.Words (yg16 10 0), Ent.own 5 (tI .u8) y42.Kinds (yg16 10 1), Ent.own 9 tS y48.Words (yg16 12 0), Ent.own 5 (tI .u8) y48.Kinds (yg16 12 1), Ent.im (tI .u8) ([] : List Int) (.nil), Ent.own 9 tS y54.Words (yg16 14 0), Ent.own 5 (tI .u8) y54.Kinds (yg16 14 1), Ent.im (tI .u8) ([] : List Int) (.nil)] := ⟨_, rfl⟩
      have hS : SH M X w [Ent.own 9 tS y17.Words (yg16 2 0), Ent.own 5 (tI .u8) y17.Kinds (yg16 2 1), Ent.own 9 tS y22.Words (yg16 4 0), Ent.own 5 (tI .u8) y22.Kinds (yg16 4 1), Ent.own 9 tS y27.Words (yg16 6 0), Ent.own 5 (tI .u8) y27.Kinds (yg16 6 1), Ent.own 9 tS y32.Words (yg16 8 0), Ent.own 5 (tI .u8) y32.Kinds (yg16 8 1), Ent.own 9 tS y37.Words (yg16 9 0), Ent.own 5 (tI .u8) y37.Kinds (yg16 9 1), Ent.own 9 tS y42.Words (yg16 10 0), Ent.own 5 (tI .u8) y42.Kinds (yg16 10 1), Ent.own 9 tS y48.Words (yg16 12 0), Ent.own 5 (tI .u8) y48.Kinds (yg16 12 1), Ent.im (tI .u8) ([] : List Int) (.nil), Ent.own 9 tS y54.Words (yg16 14 0), Ent.own 5 (tI .u8) y54.Kinds (yg16 14 1), Ent.im (tI .u8) ([] : List Int) (.nil)] w := by rw [hX]; exact hS0
      replace hS : SH M X w [Ent.im tS y17.Words (yg16 2 0), Ent.own 5 (tI .u8) y17.Kinds (yg16 2 1), Ent.own 9 tS y22.Words (yg16 4 0), Ent.own 5 (tI .u8) y22.Kinds (yg16 4 1), Ent.own 9 tS y27.Words (yg16 6 0), Ent.own 5 (tI .u8) y27.Kinds (yg16 6 1), Ent.own 9 tS y32.Words (yg16 8 0), Ent.own 5 (tI .u8) y32.Kinds (yg16 8 1), Ent.own 9 tS y37.Words (yg16 9 0), Ent.own 5 (tI .u8) y37.Kinds (yg16 9 1), Ent.own 9 tS y42.Words (yg16 10 0), Ent.own 5 (tI .u8) y42.Kinds (yg16 10 1), Ent.own 9 tS y48.Words (yg16 12 0), Ent.own 5 (tI .u8) y48.Kinds (yg16 12 1), Ent.im (tI .u8) ([] : List Int) (.nil), Ent.own 9 tS y54.Words (yg16 14 0), Ent.own 5 (tI .u8) y54.Kinds (yg16 14 1), Ent.im (tI .u8) ([] : List Int) (.nil)] _ := SH.frz1 (hS.sel [0, 1, 2, 3, 4, 5, 6, 7, 8, 9, 10, 11, 12, 13, 14, 15, 16, 17] rfl)
      replace hS : SH M X w [Ent.im (tI .u8) y17.Kinds (yg16 2 1), Ent.im tS y17.Words (yg16 2 0), Ent.own 9 tS y22.Words (yg16 4 0), Ent.own 5 (tI .u8) y22.Kinds (yg16 4 1), Ent.own 9 tS y27.Words (yg16 6 0), Ent.own 5 (tI .u8) y27.Kinds (yg16 6 1), Ent.own 9 tS y32.Words (yg16 8 0), Ent.own 5 (tI .u8) y32.Kinds (yg16 8 1), Ent.own 9 tS y37.Words (yg16 9 0), Ent.own 5 (tI .u8) y37.Kinds (yg16 9 1), Ent.own 9 tS y42.Words (yg16 10 0), Ent.own 5 (tI .u8) y42.Kinds (yg16 10 1), Ent.own 9 tS y48.Words (yg16 12 0), Ent.own 5 (tI .u8) y48.Kinds (yg16 12 1), Ent.im (tI .u8) ([] : List Int) (.nil), Ent.own 9 tS y54.Words (yg16 14 0), Ent.own 5 (tI .u8) y54.Kinds (yg16 14 1), Ent.im (tI .u8) ([] : List Int) (.nil)] _ := SH.frz1 (hS.sel [1, 0, 2, 3, 4, 5, 6, 7, 8, 9, 10, 11, 12, 13, 14, 15, 16, 17] rfl)
      replace hS : SH M X w [Ent.im tS y22.Words (yg16 4 0), Ent.im (tI .u8) y17.Kinds (yg16 2 1), Ent.im tS y17.Words (yg16 2 0), Ent.own 5 (tI .u8) y22.Kinds (yg16 4 1), Ent.own 9 tS y27.Words (yg16 6 0), Ent.own 5 (tI .u8) y27.Kinds (yg16 6 1), Ent.own 9 tS y32.Words (yg16 8 0), Ent.own 5 (tI .u8) y32.Kinds (yg16 8 1), Ent.own 9 tS y37.Words (yg16 9 0), Ent.own 5 (tI .u8) y37.Kinds (yg16 9 1), Ent.own 9 tS y42.Words (yg16 10 0), Ent.own 5 (tI .u8) y42.Kinds (yg16 10 1), Ent.own 9 tS y48.Words (yg16 12 0), Ent.own 5 (tI .u8) y48.Kinds (yg16 12 1), Ent.im (tI .u8) ([] : List Int) (.nil), Ent.own 9 tS y54.Words (yg16 14 0), Ent.own 5 (tI .u8) y54.Kinds (yg16 14 1), Ent.im (tI .u8) ([] : List Int) (.nil)] _ := SH.frz1 (hS.sel [2, 0, 1, 3, 4, 5, 6, 7, 8, 9, 10, 11, 12, 13, 14, 15, 16, 17] rfl)
      replace hS : SH M X w [Ent.im (tI .u8) y22.Kinds (yg16 4 1), Ent.im tS y22.Words (yg16 4 0), Ent.im (tI .u8) y17.Kinds (yg16 2 1), Ent.im tS y17.Words (yg16 2 0), Ent.own 9 tS y27.Words (yg16 6 0), Ent.own 5 (tI .u8) y27.Kinds (yg16 6 1), Ent.own 9 tS y32.Words (yg16 8 0), Ent.own 5 (tI .u8) y32.Kinds (yg16 8 1), Ent.own 9 tS y37.Words (yg16 9 0), Ent.own 5 (tI .u8) y37.Kinds (yg16 9 1), Ent.own 9 tS y42.Words (yg16 10 0), Ent.own 5 (tI .u8) y42.Kinds (yg16 10 1), Ent.own 9 tS y48.Words (yg16 12 0), Ent.own 5 (tI .u8) y48.Kinds (yg16 12 1), Ent.im (tI .u8) ([] : List Int) (.nil), Ent.own 9 tS y54.Words (yg16 14 0), Ent.own 5 (tI .u8) y54.Kinds (yg16 14 1), Ent.im (tI .u8) ([] : List Int) (.nil)] _ := SH.frz1 (hS.sel [3, 0, 1, 2, 4, 5, 6, 7, 8, 9, 10, 11, 12, 13, 14, 15, 16, 17] rfl)
      replace hS : SH M X w [Ent.im tS y27.Words (yg16 6 0), Ent.im (tI .u8) y22.Kinds (yg16 4 1), Ent.im tS y22.Words (yg16 4 0), Ent.im (tI .u8) y17.Kinds (yg16 2 1), Ent.im tS y17.Words (yg16 2 0), Ent.own 5 (tI .u8) y27.Kinds (yg16 6 1), Ent.own 9 tS y32.Words (yg16 8 0), Ent.own 5 (tI .u8) y32.Kinds (yg16 8 1), Ent.own 9 tS y37.Words (yg16 9 0), Ent.own 5 (tI .u8) y37.Kinds (yg16 9 1), Ent.own 9 tS y42.Words (yg16 10 0), Ent.own 5 (tI .u8) y42.Kinds (yg16 10 1), Ent.own 9 tS y48.Words (yg16 12 0), Ent.own 5 (tI .u8) y48.Kinds (yg16 12 1), Ent.im (tI .u8) ([] : List Int) (.nil), Ent.own 9 tS y54.Words (yg16 14 0), Ent.own 5 (tI .u8) y54.Kinds (yg16 14 1), Ent.im (tI .u8) ([] : List Int) (.nil)] _ := SH.frz1 (hS.sel [4, 0, 1, 2, 3, 5, 6, 7, 8, 9, 10, 11, 12, 13, 14, 15, 16, 17] rfl)
      replace hS : SH M X w [Ent.im (tI .u8) y27.Kinds (yg16 6 1), Ent.im tS y27.Words (yg16 6 0), Ent.im (tI .u8) y22.Kinds (yg16 4 1), Ent.im tS y22.Words (yg16 4 0), Ent.im (tI .u8) y17.Kinds (yg16 2 1), Ent.im tS y17.Words (yg16 2 0), Ent.own 9 tS y32.Words (yg16 8 0), Ent.own 5 (tI .u8) y32.Kinds (yg16 8 1), Ent.own 9 tS y37.Words (yg16 9 0), Ent.own 5 (tI .u8) y37.Kinds (yg16 9 1), Ent.own 9 tS y42.Words (yg16 10 0), Ent.own 5 (tI .u8) y42.Kinds (yg16 10 1), Ent.own 9 tS y48.Words (yg16 12 0), Ent.own 5 (tI .u8) y48.Kinds (yg16 12 1), Ent.im (tI .u8) ([] : List Int) (.nil), Ent.own 9 tS y54.Words (yg16 14 0), Ent.own 5 (tI .u8) y54.Kinds (yg16 14 1), Ent.im (tI .u8) ([] : List Int) (.nil)] _ := SH.frz1 (hS.sel [5, 0, 1, 2, 3, 4, 6, 7, 8, 9, 10, 11, 12, 13, 14, 15, 16, 17] rfl)
      replace hS : SH M X w [Ent.im tS y32.Words (yg16 8 0), Ent.im (tI .u8) y27.Kinds (yg16 6 1), Ent.im tS y27.Words (yg16 6 0), Ent.im (tI .u8) y22.Kinds (yg16 4 1), Ent.im tS y22.Words (yg16 4 0), Ent.im (tI .u8) y17.Kinds (yg16 2 1), Ent.im tS y17.Words (yg16 2 0), Ent.own 5 (tI .u8) y32.Kinds (yg16 8 1), Ent.own 9 tS y37.Words (yg16 9 0), Ent.own 5 (tI .u8) y37.Kinds (yg16 9 1), Ent.own 9 tS y42.Words (yg16 10 0), Ent.own 5 (tI .u8) y42.Kinds (yg16 10 1), Ent.own 9 tS y48.Words (yg16 12 0), Ent.own 5 (tI .u8) y48.Kinds (yg16 12 1), Ent.im (tI .u8) ([] : List Int) (.nil), Ent.own 9 tS y54.Words (yg16 14 0), Ent.own 5 (tI .u8) y54.Kinds (yg16 14 1), Ent.im (tI .u8) ([] : List Int) (.nil)] _ := SH.frz1 (hS.sel [6, 0, 1, 2, 3, 4, 5, 7, 8, 9, 10, 11, 12, 13, 14, 15, 16, 17] rfl)
      replace hS : SH M X w [Ent.im (tI .u8) y32.Kinds (yg16 8 1), Ent.im tS y32.Words (yg16 8 0), Ent.im (tI .u8) y27.Kinds (yg16 6 1), Ent.im tS y27.Words (yg16 6 0), Ent.im (tI .u8) y22.Kinds (yg16 4 1), Ent.im tS y22.Words (yg16 4 0), Ent.im (tI .u8) y17.Kinds (yg16 2 1), Ent.im tS y17.Words (yg16 2 0), Ent.own 9 tS y37.Words (yg16 9 0), Ent.own 5 (tI .u8) y37.Kinds (yg16 9 1), Ent.own 9 tS y42.Words (yg16 10 0), Ent.own 5 (tI .u8) y42.Kinds (yg16 10 1), Ent.own 9 tS y48.Words (yg16 12 0), Ent.own 5 (tI .u8) y48.Kinds (yg16 12 1), Ent.im (tI .u8) ([] : List Int) (.nil), Ent.own 9 tS y54.Words (yg16 14 0), Ent.own 5 (tI .u8) y54.Kinds (yg16 14 1), Ent.im (tI .u8) ([] : List Int) (.nil)] _ := SH.frz1 (hS.sel [7, 0, 1, 2, 3, 4, 5, 6, 8, 9, 10, 11, 12, 13, 14, 15, 16, 17] rfl)
      replace hS : SH M X w [Ent.im tS y37.Words (yg16 9 0), Ent.im (tI .u8) y32.Kinds (yg16 8 1), Ent.im tS y32.Words (yg16 8 0), Ent.im (tI .u8) y27.Kinds (yg16 6 1), Ent.im tS y27.Words (yg16 6 0), Ent.im (tI .u8) y22.Kinds (yg16 4 1), Ent.im tS y22.Words (yg16 4 0), Ent.im (tI .u8) y17.Kinds (yg16 2 1), Ent.im tS y17.Words (yg16 2 0), Ent.own 5 (tI .u8) y37.Kinds (yg16 9 1), Ent.own 9 tS y42.Words (yg16 10 0), Ent.own 5 (tI .u8) y42.Kinds (yg16 10 1), Ent.own 9 tS y48.Words (yg16 12 0), Ent.own 5 (tI .u8) y48.Kinds (yg16 12 1), Ent.im (tI .u8) ([] : List Int) (.nil), Ent.own 9 tS y54.Words (yg16 14 0), Ent.own 5 (tI .u8) y54.Kinds (yg16 14 1), Ent.im (tI .u8) ([] : List Int) (.nil)] _ := SH.frz1 (hS.sel [8, 0, 1, 2, 3, 4, 5, 6, 7, 9, 10, 11, 12, 13, 14, 15, 16, 17] rfl)
      replace hS : SH M X w [Ent.im (tI .u8) y37.Kinds (yg16 9 1), Ent.im tS y37.Words (yg16 9 0), Ent.im (tI .u8) y32.Kinds (yg16 8 1), Ent.im tS y32.Words (yg16 8 0), Ent.im (tI .u8) y27.Kinds (yg16 6 1), Ent.im tS y27.Words (yg16 6 0), Ent.im (tI .u8) y22.Kinds (yg16 4 1), Ent.im tS y22.Words (yg16 4 0), Ent.im (tI .u8) y17.Kinds (yg16 2 1), Ent.im tS y17.Words (yg16 2 0), Ent.own 9 tS y42.Words (yg16 10 0), Ent.own 5 (tI .u8) y42.Kinds (yg16 10 1), Ent.own 9 tS y48.Words (yg16 12 0), Ent.own 5 (tI .u8) y48.Kinds (yg16 12 1), Ent.im (tI .u8) ([] : List Int) (.nil), Ent.own 9 tS y54.Words (yg16 14 0), Ent.own 5 (tI .u8) y54.Kinds (yg16 14 1), Ent.im (tI .u8) ([] : List Int) (.nil)] _ := SH.frz1 (hS.sel [9, 0, 1, 2, 3, 4, 5, 6, 7, 8, 10, 11, 12, 13, 14, 15, 16, 17] rfl)
      replace hS : SH M X w [Ent.im tS y42.Words (yg16 10 0), Ent.im (tI .u8) y37.Kinds (yg16 9 1), Ent.im tS y37.Words (yg16 9 0), Ent.im (tI .u8) y32.Kinds (yg16 8 1), Ent.im tS y32.Words (yg16 8 0), Ent.im (tI .u8) y27.Kinds (yg16 6 1), Ent.im tS y27.Words (yg16 6 0), Ent.im (tI .u8) y22.Kinds (yg16 4 1), Ent.im tS y22.Words (yg16 4 0), Ent.im (tI .u8) y17.Kinds (yg16 2 1), Ent.im tS y17.Words (yg16 2 0), Ent.own 5 (tI .u8) y42.Kinds (yg16 10 1), Ent.own 9 tS y48.Words (yg16 12 0), Ent.own 5 (tI .u8) y48.Kinds (yg16 12 1), Ent.im (tI .u8) ([] : List Int) (.nil), Ent.own 9 tS y54.Words (yg16 14 0), Ent.own 5 (tI .u8) y54.Kinds (yg16 14 1), Ent.im (tI .u8) ([] : List Int) (.nil)] _ := SH.frz1 (hS.sel [10, 0, 1, 2, 3, 4, 5, 6, 7, 8, 9, 11, 12, 13, 14, 15, 16, 17] rfl)
      replace hS : SH M X w [Ent.im (tI .u8) y42.Kinds (yg16 10 1), Ent.im tS y42.Words (yg16 10 0), Ent.im (tI .u8) y37.Kinds (yg16 9 1), Ent.im tS y37.Words (yg16 9 0), Ent.im (tI .u8) y32.Kinds (yg16 8 1), Ent.im tS y32.Words (yg16 8 0), Ent.im (tI .u8) y27.Kinds (yg16 6 1), Ent.im tS y27.Words (yg16 6 0), Ent.im (tI .u8) y22.Kinds (yg16 4 1), Ent.im tS y22.Words (yg16 4 0), Ent.im (tI .u8) y17.Kinds (yg16 2 1), Ent.im tS y17.Words (yg16 2 0), Ent.own 9 tS y48.Words (yg16 12 0), Ent.own 5 (tI .u8) y48.Kinds (yg16 12 1), Ent.im (tI .u8) ([] : List Int) (.nil), Ent.own 9 tS y54.Words (yg16 14 0), Ent.own 5 (tI .u8) y54.Kinds (yg16 14 1), Ent.im (tI .u8) ([] : List Int) (.nil)] _ := SH.frz1 (hS.sel [11, 0, 1, 2, 3, 4, 5, 6, 7, 8, 9, 10, 12, 13, 14, 15, 16, 17] rfl)
      replace hS : SH M X w [Ent.im tS y48.Words (yg16 12 0), Ent.im (tI .u8) y42.Kinds (yg16 10 1), Ent.im tS y42.Words (yg16 10 0), Ent.im (tI .u8) y37.Kinds (yg16 9 1), Ent.im tS y37.Words (yg16 9 0), Ent.im (tI .u8) y32.Kinds (yg16 8 1), Ent.im tS y32.Words (yg16 8 0), Ent.im (tI .u8) y27.Kinds (yg16 6 1), Ent.im tS y27.Words (yg16 6 0), Ent.im (tI .u8) y22.Kinds (yg16 4 1), Ent.im tS y22.Words (yg16 4 0), Ent.im (tI .u8) y17.Kinds (yg16 2 1), Ent.im tS y17.Words (yg16 2 0), Ent.own 5 (tI .u8) y48.Kinds (yg16 12 1), Ent.im (tI .u8) ([] : List Int) (.nil), Ent.own 9 tS y54.Words (yg16 14 0), Ent.own 5 (tI .u8) y54.Kinds (yg16 14 1), Ent.im (tI .u8) ([] : List Int) (.nil)] _ := SH.frz1 (hS.sel [12, 0, 1, 2, 3, 4, 5, 6, 7, 8, 9, 10, 11, 13, 14, 15, 16, 17] rfl)
      replace hS : SH M X w [Ent.im (tI .u8) y48.Kinds (yg16 12 1), Ent.im tS y48.Words (yg16 12 0), Ent.im (tI .u8) y42.Kinds (yg16 10 1), Ent.im tS y42.Words (yg16 10 0), Ent.im (tI .u8) y37.Kinds (yg16 9 1), Ent.im tS y37.Words (yg16 9 0), Ent.im (tI .u8) y32.Kinds (yg16 8 1), Ent.im tS y32.Words (yg16 8 0), Ent.im (tI .u8) y27.Kinds (yg16 6 1), Ent.im tS y27.Words (yg16 6 0), Ent.im (tI .u8) y22.Kinds (yg16 4 1), Ent.im tS y22.Words (yg16 4 0), Ent.im (tI .u8) y17.Kinds (yg16 2 1), Ent.im tS y17.Words (yg16 2 0), Ent.im (tI .u8) ([] : List Int) (.nil), Ent.own 9 tS y54.Words (yg16 14 0), Ent.own 5 (tI .u8) y54.Kinds (yg16 14 1), Ent.im (tI .u8) ([] : List Int) (.nil)] _ := SH.frz1 (hS.sel [13, 0, 1, 2, 3, 4, 5, 6, 7, 8, 9, 10, 11, 12, 14, 15, 16, 17] rfl)
      replace hS : SH M X w [Ent.im tS y54.Words (yg16 14 0), Ent.im (tI .u8) y48.Kinds (yg16 12 1), Ent.im tS y48.Words (yg16 12 0), Ent.im (tI .u8) y42.Kinds (yg16 10 1), Ent.im tS y42.Words (yg16 10 0), Ent.im (tI .u8) y37.Kinds (yg16 9 1), Ent.im tS y37.Words (yg16 9 0), Ent.im (tI .u8) y32.Kinds (yg16 8 1), Ent.im tS y32.Words (yg16 8 0), Ent.im (tI .u8) y27.Kinds (yg16 6 1), Ent.im tS y27.Words (yg16 6 0), Ent.im (tI .u8) y22.Kinds (yg16 4 1), Ent.im tS y22.Words (yg16 4 0), Ent.im (tI .u8) y17.Kinds (yg16 2 1), Ent.im tS y17.Words (yg16 2 0), Ent.im (tI .u8) ([] : List Int) (.nil), Ent.own 5 (tI .u8) y54.Kinds (yg16 14 1), Ent.im (tI .u8) ([] : List Int) (.nil)] _ := SH.frz1 (hS.sel [15, 0, 1, 2, 3, 4, 5, 6, 7, 8, 9, 10, 11, 12, 13, 14, 16, 17] rfl)
      replace hS : SH M X w [Ent.im (tI .u8) y54.Kinds (yg16 14 1), Ent.im tS y54.Words (yg16 14 0), Ent.im (tI .u8) y48.Kinds (yg16 12 1), Ent.im tS y48.Words (yg16 12 0), Ent.im (tI .u8) y42.Kinds (yg16 10 1), Ent.im tS y42.Words (yg16 10 0), Ent.im (tI .u8) y37.Kinds (yg16 9 1), Ent.im tS y37.Words (yg16 9 0), Ent.im (tI .u8) y32.Kinds (yg16 8 1), Ent.im tS y32.Words (yg16 8 0), Ent.im (tI .u8) y27.Kinds (yg16 6 1), Ent.im tS y27.Words (yg16 6 0), Ent.im (tI .u8) y22.Kinds (yg16 4 1), Ent.im tS y22.Words (yg16 4 0), Ent.im (tI .u8) y17.Kinds (yg16 2 1), Ent.im tS y17.Words (yg16 2 0), Ent.im (tI .u8) ([] : List Int) (.nil), Ent.im (tI .u8) ([] : List Int) (.nil)] _ := SH.frz1 (hS.sel [16, 0, 1, 2, 3, 4, 5, 6, 7, 8, 9, 10, 11, 12, 13, 14, 15, 17] rfl)
      have hd : S0 (AvL M [Ent.im (tI .u8) y54.Kinds (yg16 14 1), Ent.im tS y54.Words (yg16 14 0), Ent.im (tI .u8) y48.Kinds (yg16 12 1), Ent.im tS y48.Words (yg16 12 0), Ent.im (tI .u8) y42.Kinds (yg16 10 1), Ent.im tS y42.Words (yg16 10 0), Ent.im (tI .u8) y37.Kinds (yg16 9 1), Ent.im tS y37.Words (yg16 9 0), Ent.im (tI .u8) y32.Kinds (yg16 8 1), Ent.im tS y32.Words (yg16 8 0), Ent.im (tI .u8) y27.Kinds (yg16 6 1), Ent.im tS y27.Words (yg16 6 0), Ent.im (tI .u8) y22.Kinds (yg16 4 1), Ent.im tS y22.Words (yg16 4 0), Ent.im (tI .u8) y17.Kinds (yg16 2 1), Ent.im tS y17.Words (yg16 2 0), Ent.im (tI .u8) ([] : List Int) (.nil), Ent.im (tI .u8) ([] : List Int) (.nil)]) [Ent.im tS y17.Words (yg16 2 0), Ent.im (tI .u8) y17.Kinds (yg16 2 1), Ent.im tS y22.Words (yg16 4 0), Ent.im (tI .u8) y22.Kinds (yg16 4 1), Ent.im tS y27.Words (yg16 6 0), Ent.im (tI .u8) y27.Kinds (yg16 6 1), Ent.im tS y32.Words (yg16 8 0), Ent.im (tI .u8) y32.Kinds (yg16 8 1), Ent.im tS y37.Words (yg16 9 0), Ent.im (tI .u8) y37.Kinds (yg16 9 1), Ent.im tS y42.Words (yg16 10 0), Ent.im (tI .u8) y42.Kinds (yg16 10 1), Ent.im tS y48.Words (yg16 12 0), Ent.im (tI .u8) y48.Kinds (yg16 12 1), Ent.im tS y54.Words (yg16 14 0), Ent.im (tI .u8) y54.Kinds (yg16 14 1)] _ := hS.hand [15, 14, 13, 12, 11, 10, 9, 8, 7, 6, 5, 4, 3, 2, 1, 0] [0, 1, 2, 3, 4, 5, 6, 7, 8, 9, 10, 11, 12, 13, 14, 15, 16, 17] rfl rfl
      refine Stp.mono (o_lit (T := tyProp) (E := 51) (zv := .agg ⟨[.string ⟨⟨[]⟩⟩, .bool false, .int .u8 0, .string ⟨⟨[]⟩⟩, .int .i64 0, .int .u8 0, .int .u8 0, .int .u8 0, .int .u8 0, .slice none 0 0, .slice none 0 0, .bool false]⟩) [.string ⟨⟨y17.Name⟩⟩, .bool y17.Inherited, .int .u8 y17.Initial.Kind, .string ⟨⟨y17.Initial.Word⟩⟩, .int .i64 y17.Initial.Num, .int .u8 y17.Initial.Color.Red, .int .u8 y17.Initial.Color.Green, .int .u8 y17.Initial.Color.Blue, .int .u8 y17.Initial.Color.Alpha, .slice (yg16 2 0).a y17.Words.length (yg16 2 0).c, .slice (yg16 2 1).a y17.Kinds.length (yg16 2 1).c, .bool y17.Least, .string ⟨⟨y22.Name⟩⟩, .bool y22.Inherited, .int .u8 y22.Initial.Kind, .string ⟨⟨y22.Initial.Word⟩⟩, .int .i64 y22.Initial.Num, .int .u8 y22.Initial.Color.Red, .int .u8 y22.Initial.Color.Green, .int .u8 y22.Initial.Color.Blue, .int .u8 y22.Initial.Color.Alpha, .slice (yg16 4 0).a y22.Words.length (yg16 4 0).c, .slice (yg16 4 1).a y22.Kinds.length (yg16 4 1).c, .bool y22.Least, .string ⟨⟨y27.Name⟩⟩, .bool y27.Inherited, .int .u8 y27.Initial.Kind, .string ⟨⟨y27.Initial.Word⟩⟩, .int .i64 y27.Initial.Num, .int .u8 y27.Initial.Color.Red, .int .u8 y27.Initial.Color.Green, .int .u8 y27.Initial.Color.Blue, .int .u8 y27.Initial.Color.Alpha, .slice (yg16 6 0).a y27.Words.length (yg16 6 0).c, .slice (yg16 6 1).a y27.Kinds.length (yg16 6 1).c, .bool y27.Least, .string ⟨⟨y32.Name⟩⟩, .bool y32.Inherited, .int .u8 y32.Initial.Kind, .string ⟨⟨y32.Initial.Word⟩⟩, .int .i64 y32.Initial.Num, .int .u8 y32.Initial.Color.Red, .int .u8 y32.Initial.Color.Green, .int .u8 y32.Initial.Color.Blue, .int .u8 y32.Initial.Color.Alpha, .slice (yg16 8 0).a y32.Words.length (yg16 8 0).c, .slice (yg16 8 1).a y32.Kinds.length (yg16 8 1).c, .bool y32.Least, .string ⟨⟨y37.Name⟩⟩, .bool y37.Inherited, .int .u8 y37.Initial.Kind, .string ⟨⟨y37.Initial.Word⟩⟩, .int .i64 y37.Initial.Num, .int .u8 y37.Initial.Color.Red, .int .u8 y37.Initial.Color.Green, .int .u8 y37.Initial.Color.Blue, .int .u8 y37.Initial.Color.Alpha, .slice (yg16 9 0).a y37.Words.length (yg16 9 0).c, .slice (yg16 9 1).a y37.Kinds.length (yg16 9 1).c, .bool y37.Least, .string ⟨⟨y42.Name⟩⟩, .bool y42.Inherited, .int .u8 y42.Initial.Kind, .string ⟨⟨y42.Initial.Word⟩⟩, .int .i64 y42.Initial.Num, .int .u8 y42.Initial.Color.Red, .int .u8 y42.Initial.Color.Green, .int .u8 y42.Initial.Color.Blue, .int .u8 y42.Initial.Color.Alpha, .slice (yg16 10 0).a y42.Words.length (yg16 10 0).c, .slice (yg16 10 1).a y42.Kinds.length (yg16 10 1).c, .bool y42.Least, .string ⟨⟨y48.Name⟩⟩, .bool y48.Inherited, .int .u8 y48.Initial.Kind, .string ⟨⟨y48.Initial.Word⟩⟩, .int .i64 y48.Initial.Num, .int .u8 y48.Initial.Color.Red, .int .u8 y48.Initial.Color.Green, .int .u8 y48.Initial.Color.Blue, .int .u8 y48.Initial.Color.Alpha, .slice (yg16 12 0).a y48.Words.length (yg16 12 0).c, .slice (yg16 12 1).a y48.Kinds.length (yg16 12 1).c, .bool y48.Least, .string ⟨⟨y54.Name⟩⟩, .bool y54.Inherited, .int .u8 y54.Initial.Kind, .string ⟨⟨y54.Initial.Word⟩⟩, .int .i64 y54.Initial.Num, .int .u8 y54.Initial.Color.Red, .int .u8 y54.Initial.Color.Green, .int .u8 y54.Initial.Color.Blue, .int .u8 y54.Initial.Color.Alpha, .slice (yg16 14 0).a y54.Words.length (yg16 14 0).c, .slice (yg16 14 1).a y54.Kinds.length (yg16 14 1).c, .bool y54.Least] ([y17, y22, y27, y32, y37, y42, y48, y54] : List TProp) [gL [(yg16 2 0), (yg16 2 1)], gL [(yg16 4 0), (yg16 4 1)], gL [(yg16 6 0), (yg16 6 1)], gL [(yg16 8 0), (yg16 8 1)], gL [(yg16 9 0), (yg16 9 1)], gL [(yg16 10 0), (yg16 10 1)], gL [(yg16 12 0), (yg16 12 1)], gL [(yg16 14 0), (yg16 14 1)]] _ H hd rfl (by kernel_rfl) (by kernel_rfl) (by kernel_rfl) (by kernel_rfl) (by kernel_rfl) (by kernel_rfl) (by kernel_rfl) rfl (InnL.cons (tyProp_mk (hd.im 0 rfl) (hd.im 1 rfl)) (InnL.cons (tyProp_mk (hd.im 2 rfl) (hd.im 3 rfl)) (InnL.cons (tyProp_mk (hd.im 4 rfl) (hd.im 5 rfl)) (InnL.cons (tyProp_mk (hd.im 6 rfl) (hd.im 7 rfl)) (InnL.cons (tyProp_mk (hd.im 8 rfl) (hd.im 9 rfl)) (InnL.cons (tyProp_mk (hd.im 10 rfl) (hd.im 11 rfl)) (InnL.cons (tyProp_mk (hd.im 12 rfl) (hd.im 13 rfl)) (InnL.cons (tyProp_mk (hd.im 14 rfl) (hd.im 15 rfl)) InnL.nil))))))))) ?_
      rintro v w2 hq
      obtain ⟨g59, rfl, hq⟩ := hq
      replace hS : SH M X w [Ent.own 51 tyProp ([y17, y22, y27, y32, y37, y42, y48, y54] : List TProp) g59, Ent.im (tI .u8) y54.Kinds (yg16 14 1), Ent.im tS y54.Words (yg16 14 0), Ent.im (tI .u8) y48.Kinds (yg16 12 1), Ent.im tS y48.Words (yg16 12 0), Ent.im (tI .u8) y42.Kinds (yg16 10 1), Ent.im tS y42.Words (yg16 10 0), Ent.im (tI .u8) y37.Kinds (yg16 9 1), Ent.im tS y37.Words (yg16 9 0), Ent.im (tI .u8) y32.Kinds (yg16 8 1), Ent.im tS y32.Words (yg16 8 0), Ent.im (tI .u8) y27.Kinds (yg16 6 1), Ent.im tS y27.Words (yg16 6 0), Ent.im (tI .u8) y22.Kinds (yg16 4 1), Ent.im tS y22.Words (yg16 4 0), Ent.im (tI .u8) y17.Kinds (yg16 2 1), Ent.im tS y17.Words (yg16 2 0), Ent.im (tI .u8) ([] : List Int) (.nil), Ent.im (tI .u8) ([] : List Int) (.nil)] _ := hS.join [15, 14, 13, 12, 11, 10, 9, 8, 7, 6, 5, 4, 3, 2, 1, 0] [0, 1, 2, 3, 4, 5, 6, 7, 8, 9, 10, 11, 12, 13, 14, 15, 16, 17] rfl rfl hq
      clear hq
      rw [hX] at hS
      exact ⟨gL [g59], fun _ _ => rfl, hS.sel [0, 1, 2, 3, 4, 5, 6, 7, 8, 9, 10, 11, 12, 13, 14, 15, 16, 17, 18] rfl⟩
    · intro o ho a w yg16 M Hb hv hO hS0
      obtain rfl := Option.some.inj ho
      have H : Fr 57 ([(23, [], .slice (yg16 15 0).a 8 (yg16 15 0).c)] ++ [(1, [], .pointer (some ⟨b6, 0, none⟩)), (2, [], .pointer (some ⟨b9, 0, none⟩))]) _ := (Hb).add (hv 15 (by decide) (by decide) 23 rfl)
      obtain ⟨X, hX⟩ : ∃ X, X = fpl [Ent.own 51 tyProp ([y17, y22, y27, y32, y37, y42, y48, y54] : List TProp) (yg16 15 0), Ent.im (tI .u8) y54.Kinds (yg16 14 1), Ent.im tS y54.Words (yg16 14 0), Ent.im (tI .u8) y48.Kinds (yg16 12 1), Ent.im tS y48.Words (yg16 12 0), Ent.im (tI .u8) y42.Kinds (yg16 10 1), Ent.im tS y42.Words (yg16 10 0), Ent.im (tI .u8) y37.Kinds (yg16 9 1), Ent.im tS y37.Words (yg16 9 0), Ent.im (tI .u8) y32.Kinds (yg16 8 1), Ent.im tS y32.Words (yg16 8 0), Ent.im (tI .u8) y27.Kinds (yg16 6 1), Ent.im tS y27.Words (yg16 6 0), Ent.im (tI .u8) y22.Kinds (yg16 4 1), Ent.im tS y22.Words (yg16 4 0), Ent.im (tI .u8) y17.Kinds (yg16 2 1), Ent.im tS y17.Words (yg16 2 0), Ent.im (tI .u8) ([] : List Int) (.nil), Ent.im (tI .u8) ([] : List Int) (.nil)] := ⟨_, rfl⟩
      have hS : SH M X w [Ent.own 51 tyProp ([y17, y22, y27, y32, y37, y42, y48, y54] : List TProp) (yg16 15 0), Ent.im (tI .u8) y54.Kinds (yg16 14 1), Ent.im tS y54.Words (yg16 14 0), Ent.im (tI .u8) y48.Kinds (yg16 12 1), Ent.im tS y48.Words (yg16 12 0), Ent.im (tI .u8) y42.Kinds (yg16 10 1), Ent.im tS y42.Words (yg16 10 0), Ent.im (tI .u8) y37.Kinds (yg16 9 1), Ent.im tS y37.Words (yg16 9 0), Ent.im (tI .u8) y32.Kinds (yg16 8 1), Ent.im tS y32.Words (yg16 8 0), Ent.im (tI .u8) y27.Kinds (yg16 6 1), Ent.im tS y27.Words (yg16 6 0), Ent.im (tI .u8) y22.Kinds (yg16 4 1), Ent.im tS y22.Words (yg16 4 0), Ent.im (tI .u8) y17.Kinds (yg16 2 1), Ent.im tS y17.Words (yg16 2 0), Ent.im (tI .u8) ([] : List Int) (.nil), Ent.im (tI .u8) ([] : List Int) (.nil)] w := by rw [hX]; exact hS0
      refine Stp.mono (o_evs [] (.slice (yg16 15 0).a 8 (yg16 15 0).c) none [] H rfl (by kernel_rfl) (fun q e => by cases e)) ?_
      rintro v w2 ⟨rfl, hq⟩
      replace hS : SH M X w [Ent.own 51 tyProp ([y17, y22, y27, y32, y37, y42, y48, y54] : List TProp) (yg16 15 0), Ent.im (tI .u8) y54.Kinds (yg16 14 1), Ent.im tS y54.Words (yg16 14 0), Ent.im (tI .u8) y48.Kinds (yg16 12 1), Ent.im tS y48.Words (yg16 12 0), Ent.im (tI .u8) y42.Kinds (yg16 10 1), Ent.im tS y42.Words (yg16 10 0), Ent.im (tI .u8) y37.Kinds (yg16 9 1), Ent.im tS y37.Words (yg16 9 0), Ent.im (tI .u8) y32.Kinds (yg16 8 1), Ent.im tS y32.Words (yg16 8 0), Ent.im (tI .u8) y27.Kinds (yg16 6 1), Ent.im tS y27.Words (yg16 6 0), Ent.im (tI .u8) y22.Kinds (yg16 4 1), Ent.im tS y22.Words (yg16 4 0), Ent.im (tI .u8) y17.Kinds (yg16 2 1), Ent.im tS y17.Words (yg16 2 0), Ent.im (tI .u8) ([] : List Int) (.nil), Ent.im (tI .u8) ([] : List Int) (.nil)] _ := hS.below hq.below
      rw [hX] at hS
      exact ⟨gL [], fun _ _ => rfl, hS.sel [0, 1, 2, 3, 4, 5, 6, 7, 8, 9, 10, 11, 12, 13, 14, 15, 16, 17, 18] rfl⟩
  have H63 : Fr 57 [(3, [], .slice (yg16 15 0).a 8 (yg16 15 0).c), (1, [], .pointer (some ⟨b6, 0, none⟩)), (2, [], .pointer (some ⟨b9, 0, none⟩))] _ := (Fr.add (Fr.keep (ks := [1, 2]) H62 (by kernel_rfl)) (hv 16 3 rfl))
  replace hS : SH M X w [Ent.own 51 tyProp ([y17, y22, y27, y32, y37, y42, y48, y54] : List TProp) (yg16 15 0), Ent.im (tI .u8) y54.Kinds (yg16 14 1), Ent.im tS y54.Words (yg16 14 0), Ent.im (tI .u8) y48.Kinds (yg16 12 1), Ent.im tS y48.Words (yg16 12 0), Ent.im (tI .u8) y42.Kinds (yg16 10 1), Ent.im tS y42.Words (yg16 10 0), Ent.im (tI .u8) y37.Kinds (yg16 9 1), Ent.im tS y37.Words (yg16 9 0), Ent.im (tI .u8) y32.Kinds (yg16 8 1), Ent.im tS y32.Words (yg16 8 0), Ent.im (tI .u8) y27.Kinds (yg16 6 1), Ent.im tS y27.Words (yg16 6 0), Ent.im (tI .u8) y22.Kinds (yg16 4 1), Ent.im tS y22.Words (yg16 4 0), Ent.im (tI .u8) y17.Kinds (yg16 2 1), Ent.im tS y17.Words (yg16 2 0), Ent.im (tI .u8) ([] : List Int) (.nil), Ent.im (tI .u8) ([] : List Int) (.nil), Ent.blk b9 [.int .u8 2, .string ⟨⟨[]⟩⟩, .int .i64 0, .int .u8 0, .int .u8 0, .int .u8 0, .int .u8 0], Ent.blk b6 [.int .u8 y3.Kind, .string ⟨⟨y3.Word⟩⟩, .int .i64 y3.Num, .int .u8 y3.Color.Red, .int .u8 y3.Color.Green, .int .u8 y3.Color.Blue, .int .u8 y3.Color.Alpha], Ent.im (tI .u8) gl_strings_asciiSpace (Gh.mk (some ⟨0, 0, none⟩) 256 fun _ _ => .nil)] _ := hS
  clear hv H62
  generalize yg16 15 0 = g64 at H63 hS
  generalize yg16 14 1 = g65 at H63 hS
  generalize yg16 14 0 = g66 at H63 hS
  generalize yg16 12 1 = g67 at H63 hS
  generalize yg16 12 0 = g68 at H63 hS
  generalize yg16 10 1 = g69 at H63 hS
  generalize yg16 10 0 = g70 at H63 hS
  generalize yg16 9 1 = g71 at H63 hS
  generalize yg16 9 0 = g72 at H63 hS
  generalize yg16 8 1 = g73 at H63 hS
  generalize yg16 8 0 = g74 at H63 hS
  generalize yg16 6 1 = g75 at H63 hS
  generalize yg16 6 0 = g76 at H63 hS
  generalize yg16 4 1 = g77 at H63 hS
  generalize yg16 4 0 = g78 at H63 hS
  generalize yg16 2 1 = g79 at H63 hS
  generalize yg16 2 0 = g80 at H63 hS
  replace hS : SH M X w [Ent.own 51 tyProp ([y17, y22, y27, y32, y37, y42, y48, y54] : List TProp) g64, Ent.blk b9 [.int .u8 2, .string ⟨⟨[]⟩⟩, .int .i64 0, .int .u8 0, .int .u8 0, .int .u8 0, .int .u8 0], Ent.blk b6 [.int .u8 y3.Kind, .string ⟨⟨y3.Word⟩⟩, .int .i64 y3.Num, .int .u8 y3.Color.Red, .int .u8 y3.Color.Green, .int .u8 y3.Color.Blue, .int .u8 y3.Color.Alpha], Ent.im (tI .u8) gl_strings_asciiSpace (Gh.mk (some ⟨0, 0, none⟩) 256 fun _ _ => .nil)] _ := hS.sel [0, 19, 20, 21] rfl
  obtain ⟨z81, hz, hm⟩ := bindE hm
  refine w_cut (fun a' w' => ∃ (g122 : Gh), Fr 57 [(1, [], .pointer (some ⟨b6, 0, none⟩)), (3, [], .slice g122.a z81.length g122.c)] a' ∧ SH M X w [Ent.own 51 tyProp z81 g122, Ent.blk b9 [.int .u8 2, .string ⟨⟨[]⟩⟩, .int .i64 0, .int .u8 0, .int .u8 0, .int .u8 0, .int .u8 0], Ent.blk b6 [.int .u8 y3.Kind, .string ⟨⟨y3.Word⟩⟩, .int .i64 y3.Num, .int .u8 y3.Color.Red, .int .u8 y3.Color.Green, .int .u8 y3.Color.Blue, .int .u8 y3.Color.Alpha], Ent.im (tI .u8) gl_strings_asciiSpace (Gh.mk (some ⟨0, 0, none⟩) 256 fun _ _ => .nil)] w') ?_ ?_
  · replace hm := hz
    refine w_seq ?_
    refine wl_start ?_
    have hd : S0 (AvL M [Ent.own 51 tyProp ([y17, y22, y27, y32, y37, y42, y48, y54] : List TProp) g64, Ent.blk b9 [.int .u8 2, .string ⟨⟨[]⟩⟩, .int .i64 0, .int .u8 0, .int .u8 0, .int .u8 0, .int .u8 0], Ent.blk b6 [.int .u8 y3.Kind, .string ⟨⟨y3.Word⟩⟩, .int .i64 y3.Num, .int .u8 y3.Color.Red, .int .u8 y3.Color.Green, .int .u8 y3.Color.Blue, .int .u8 y3.Color.Alpha], Ent.im (tI .u8) gl_strings_asciiSpace (Gh.mk (some ⟨0, 0, none⟩) 256 fun _ _ => .nil)]) [] _ := hS.hand [] [0, 1, 2, 3] rfl rfl
    refine m_stp [24, 1, 2, 3] [(1, [], .pointer (some ⟨b6, 0, none⟩)), (2, [], .pointer (some ⟨b9, 0, none⟩)), (3, [], .slice g64.a 8 g64.c)] H63 rfl rfl rfl rfl (o_lit (T := tS) (E := 9) (zv := .string ⟨⟨[]⟩⟩) [.string ⟨⟨[116, 111, 112]⟩⟩, .string ⟨⟨[114, 105, 103, 104, 116]⟩⟩, .string ⟨⟨[98, 111, 116, 116, 111, 109]⟩⟩, .string ⟨⟨[108, 101, 102, 116]⟩⟩] ([[116, 111, 112], [114, 105, 103, 104, 116], [98, 111, 116, 116, 111, 109], [108, 101, 102, 116]] : List Str) [gL [], gL [], gL [], gL []] _ H63 hd rfl (by kernel_rfl) (by kernel_rfl) (by kernel_rfl) (by kernel_rfl) (by kernel_rfl) (by kernel_rfl) (by kernel_rfl) rfl (InnL.cons trivial (InnL.cons trivial (InnL.cons trivial (InnL.cons trivial InnL.nil))))) (fun _ => rfl) fun _ wd84 v H85 hq => ?_
    clear H63 hd
    obtain ⟨g82, rfl, hq⟩ := hq
    replace hS : SH M X w [Ent.own 9 tS ([[116, 111, 112], [114, 105, 103, 104, 116], [98, 111, 116, 116, 111, 109], [108, 101, 102, 116]] : List Str) g82, Ent.own 51 tyProp ([y17, y22, y27, y32, y37, y42, y48, y54] : List TProp) g64, Ent.blk b9 [.int .u8 2, .string ⟨⟨[]⟩⟩, .int .i64 0, .int .u8 0, .int .u8 0, .int .u8 0, .int .u8 0], Ent.blk b6 [.int .u8 y3.Kind, .string ⟨⟨y3.Word⟩⟩, .int .i64 y3.Num, .int .u8 y3.Color.Red, .int .u8 y3.Color.Green, .int .u8 y3.Color.Blue, .int .u8 y3.Color.Alpha], Ent.im (tI .u8) gl_strings_asciiSpace (Gh.mk (some ⟨0, 0, none⟩) 256 fun _ _ => .nil)] _ := hS.join [] [0, 1, 2, 3] rfl rfl hq
    clear hq
    refine wl_batch 1 3 [] [1, 2, 3, 24, 25, 26] [(1, [], .pointer (some ⟨b6, 0, none⟩)), (2, [], .pointer (some ⟨b9, 0, none⟩)), (3, [], .slice g64.a 8 g64.c), (24, [], .slice g82.a 4 g82.c), (25, [], .int .i64 4), (26, [], .int .i64 0)] [] H85 (by decide) (by kernel_rfl) trivial fun _ wd86 H87 hb => ?_
    clear H85
    replace hS := hS.below hb
    clear hb
    refine wl_end rfl ?_
    refine w_block ?_
    refine w_loop (fun kk a' w' => ∃ (v88 : List TProp) (v90 : Int) (g89 : Gh), props_Table_L1 m  kk v88 v90 = some _ ∧ Fr 57 [(1, [], .pointer (some ⟨b6, 0, none⟩)), (2, [], .pointer (some ⟨b9, 0, none⟩)), (24, [], .slice g82.a 4 g82.c), (25, [], .int .i64 4), (3, [], .slice g89.a v88.length g89.c), (26, [], .int .i64 v90)] a' ∧ SH M X w [Ent.own 9 tS ([[116, 111, 112], [114, 105, 103, 104, 116], [98, 111, 116, 116, 111, 109], [108, 101, 102, 116]] : List Str) g82, Ent.own 51 tyProp v88 g89, Ent.blk b9 [.int .u8 2, .string ⟨⟨[]⟩⟩, .int .i64 0, .int .u8 0, .int .u8 0, .int .u8 0, .int .u8 0], Ent.blk b6 [.int .u8 y3.Kind, .string ⟨⟨y3.Word⟩⟩, .int .i64 y3.Num, .int .u8 y3.Color.Red, .int .u8 y3.Color.Green, .int .u8 y3.Color.Blue, .int .u8 y3.Color.Alpha], Ent.im (tI .u8) gl_strings_asciiSpace (Gh.mk (some ⟨0, 0, none⟩) 256 fun _ _ => .nil)] w') ⟨_, ([y17, y22, y27, y32, y37, y42, y48, y54] : List TProp), 0, g64, hm, Fr.keep (ks := [1, 2, 24, 25, 3, 26]) H87 (by kernel_rfl), hS⟩ ?_
    clear hm H87 hS
    rintro kk _ wd121 ⟨v88, v90, g89, hm, H, hS⟩
    cases kk with
    | zero => exact noneE hm
    | succ kk =>
      rw [props_Table_L1] at hm
      refine s_reg [] [1, 2, 3, 24, 25, 26, 27] [(1, [], .pointer (some ⟨b6, 0, none⟩)), (2, [], .pointer (some ⟨b9, 0, none⟩)), (3, [], .slice g89.a v88.length g89.c), (24, [], .slice g82.a 4 g82.c), (25, [], .int .i64 4), (26, [], .int .i64 v90), (27, [], .bool (decide (v90 < 4)))] [] H (by kernel_rfl) trivial fun _ wd91 H92 hb => ?_
      clear H
      replace hS := hS.below hb
      clear hb
      refine w_seq ?_
      refine w_if H92 rfl (fun hc => ?_) (fun hc => ?_)
      · replace hm := bT hc hm
        refine w_skip ?_
        refine w_seq ?_
        refine w_block ?_
        obtain ⟨ho93, hm⟩ := chkE hm
        obtain ⟨x94, hx94, hm⟩ := letE hm
        refine s_reg [(.string ⟨⟨(gi ([[116, 111, 112], [114, 105, 103, 104, 116], [98, 111, 116, 116, 111, 109], [108, 101, 102, 116]] : List Str) v90)⟩⟩)] [1, 2, 3, 5, 24, 25, 26] [(1, [], .pointer (some ⟨b6, 0, none⟩)), (2, [], .pointer (some ⟨b9, 0, none⟩)), (3, [], .slice g89.a v88.length g89.c), (5, [], .string ⟨⟨x94⟩⟩), (24, [], .slice g82.a 4 g82.c), (25, [], .int .i64 4), (26, [], .int .i64 v90)] [fun _ => oka g82.a ∧ 0 ≤ v90 ∧ v90 < ln ([[116, 111, 112], [114, 105, 103, 104, 116], [98, 111, 116, 116, 111, 109], [108, 101, 102, 116]] : List Str), fun wz => V.at1 ⟨ab g82.a, ao g82.a + (v90).toNat * 1, none⟩ (.string ⟨⟨(gi ([[116, 111, 112], [114, 105, 103, 104, 116], [98, 111, 116, 116, 111, 109], [108, 101, 102, 116]] : List Str) v90)⟩⟩) wz] H92 (by subst hx94; kernel_rfl) ⟨((hS.osl 0 rfl).oki ho93), ((hS.osl 0 rfl).at1 ho93 0 rfl), trivial⟩ fun _ wd95 H96 hb => ?_
        clear H92
        replace hS := hS.below hb
        clear hb
        refine wl_start ?_
        obtain ⟨ho97, hm⟩ := chkE hm
        refine wl_batch 0 4 [(.agg ⟨[.int .u8 2, .string ⟨⟨[]⟩⟩, .int .i64 0, .int .u8 0, .int .u8 0, .int .u8 0, .int .u8 0]⟩)] [1, 2, 24, 25, 26, 30, 32, 33] [(1, [], .pointer (some ⟨b6, 0, none⟩)), (2, [], .pointer (some ⟨b9, 0, none⟩)), (24, [], .slice g82.a 4 g82.c), (25, [], .int .i64 4), (26, [], .int .i64 v90), (30, [], .slice g89.a v88.length g89.c), (32, [], .string ⟨⟨[109, 97, 114, 103, 105, 110, 45] ++ x94⟩⟩), (33, [], .agg ⟨[.int .u8 2, .string ⟨⟨[]⟩⟩, .int .i64 0, .int .u8 0, .int .u8 0, .int .u8 0, .int .u8 0]⟩)] [fun _ => ln [109, 97, 114, 103, 105, 110, 45] + ln x94 ≤ 9223372036854775807, fun wz => V.atN b9 0 [.int .u8 2, .string ⟨⟨[]⟩⟩, .int .i64 0, .int .u8 0, .int .u8 0, .int .u8 0, .int .u8 0] 0 wz] H96 (by decide) (by kernel_rfl) ⟨ho97, ((hS.bk 2 rfl).atD rfl), trivial⟩ fun _ wd98 H99 hb => ?_
        clear H96
        replace hS := hS.below hb
        clear hb
        replace hS : SH M X w [Ent.own 5 (tI .u8) ([] : List Int) (.nil), Ent.own 9 tS ([[116, 111, 112], [114, 105, 103, 104, 116], [98, 111, 116, 116, 111, 109], [108, 101, 102, 116]] : List Str) g82, Ent.own 51 tyProp v88 g89, Ent.blk b9 [.int .u8 2, .string ⟨⟨[]⟩⟩, .int .i64 0, .int .u8 0, .int .u8 0, .int .u8 0, .int .u8 0], Ent.blk b6 [.int .u8 y3.Kind, .string ⟨⟨y3.Word⟩⟩, .int .i64 y3.Num, .int .u8 y3.Color.Red, .int .u8 y3.Color.Green, .int .u8 y3.Color.Blue, .int .u8 y3.Color.Alpha], Ent.im (tI .u8) gl_strings_asciiSpace (Gh.mk (some ⟨0, 0, none⟩) 256 fun _ _ => .nil)] _ := hS.addNil 5 (tI .u8)
        replace hS : SH M X w [Ent.im (tI .u8) ([] : List Int) (.nil), Ent.own 9 tS ([[116, 111, 112], [114, 105, 103, 104, 116], [98, 111, 116, 116, 111, 109], [108, 101, 102, 116]] : List Str) g82, Ent.own 51 tyProp v88 g89, Ent.blk b9 [.int .u8 2, .string ⟨⟨[]⟩⟩, .int .i64 0, .int .u8 0, .int .u8 0, .int .u8 0, .int .u8 0], Ent.blk b6 [.int .u8 y3.Kind, .string ⟨⟨y3.Word⟩⟩, .int .i64 y3.Num, .int .u8 y3.Color.Red, .int .u8 y3.Color.Green, .int .u8 y3.Color.Blue, .int .u8 y3.Color.Alpha], Ent.im (tI .u8) gl_strings_asciiSpace (Gh.mk (some ⟨0, 0, none⟩) 256 fun _ _ => .nil)] _ := SH.frz1 (hS.sel [0, 1, 2, 3, 4, 5] rfl)
        obtain ⟨y101, hy101, hm⟩ := bindE hm
        have hd : S0 (AvL M [Ent.im (tI .u8) ([] : List Int) (.nil), Ent.own 9 tS ([[116, 111, 112], [114, 105, 103, 104, 116], [98, 111, 116, 116, 111, 109], [108, 101, 102, 116]] : List Str) g82, Ent.own 51 tyProp v88 g89, Ent.blk b9 [.int .u8 2, .string ⟨⟨[]⟩⟩, .int .i64 0, .int .u8 0, .int .u8 0, .int .u8 0, .int .u8 0], Ent.blk b6 [.int .u8 y3.Kind, .string ⟨⟨y3.Word⟩⟩, .int .i64 y3.Num, .int .u8 y3.Color.Red, .int .u8 y3.Color.Green, .int .u8 y3.Color.Blue, .int .u8 y3.Color.Alpha], Ent.im (tI .u8) gl_strings_asciiSpace (Gh.mk (some ⟨0, 0, none⟩) 256 fun _ _ => .nil)]) [Ent.im (tI .u8) ([] : List Int) (.nil), Ent.im (tI .u8) gl_strings_asciiSpace (Gh.mk (some ⟨0, 0, none⟩) 256 fun _ _ => .nil)] _ := hS.hand [0, 5] [0, 1, 2, 3, 4, 5] rfl rfl
        refine m_stp [34, 1, 2, 24, 25, 26, 30] [(1, [], .pointer (some ⟨b6, 0, none⟩)), (2, [], .pointer (some ⟨b9, 0, none⟩)), (24, [], .slice g82.a 4 g82.c), (25, [], .int .i64 4), (26, [], .int .i64 v90), (30, [], .slice g89.a v88.length g89.c)] H99 rfl rfl rfl rfl (o_callx H99 rfl rfl (props_length_ok (g_more := Gh.nil) m _ _ _ _ _ _ _ hy101 _ _ hd)) (fun _ => rfl) fun _ wd106 v H107 hq => ?_
        clear H99 hd
        obtain ⟨g102, g104, rfl, hq⟩ := hq
        replace hS : SH M X w [Ent.own 9 tS y101.Words g102, Ent.own 5 (tI .u8) y101.Kinds g104, Ent.im (tI .u8) ([] : List Int) (.nil), Ent.own 9 tS ([[116, 111, 112], [114, 105, 103, 104, 116], [98, 111, 116, 116, 111, 109], [108, 101, 102, 116]] : List Str) g82, Ent.own 51 tyProp v88 g89, Ent.blk b9 [.int .u8 2, .string ⟨⟨[]⟩⟩, .int .i64 0, .int .u8 0, .int .u8 0, .int .u8 0, .int .u8 0], Ent.blk b6 [.int .u8 y3.Kind, .string ⟨⟨y3.Word⟩⟩, .int .i64 y3.Num, .int .u8 y3.Color.Red, .int .u8 y3.Color.Green, .int .u8 y3.Color.Blue, .int .u8 y3.Color.Alpha], Ent.im (tI .u8) gl_strings_asciiSpace (Gh.mk (some ⟨0, 0, none⟩) 256 fun _ _ => .nil)] _ := hS.join [0, 5] [0, 1, 2, 3, 4, 5] rfl rfl hq
        clear hq
        replace hS : SH M X w [Ent.im tS y101.Words g102, Ent.own 5 (tI .u8) y101.Kinds g104, Ent.im (tI .u8) ([] : List Int) (.nil), Ent.own 9 tS ([[116, 111, 112], [114, 105, 103, 104, 116], [98, 111, 116, 116, 111, 109], [108, 101, 102, 116]] : List Str) g82, Ent.own 51 tyProp v88 g89, Ent.blk b9 [.int .u8 2, .string ⟨⟨[]⟩⟩, .int .i64 0, .int .u8 0, .int .u8 0, .int .u8 0, .int .u8 0], Ent.blk b6 [.int .u8 y3.Kind, .string ⟨⟨y3.Word⟩⟩, .int .i64 y3.Num, .int .u8 y3.Color.Red, .int .u8 y3.Color.Green, .int .u8 y3.Color.Blue, .int .u8 y3.Color.Alpha], Ent.im (tI .u8) gl_strings_asciiSpace (Gh.mk (some ⟨0, 0, none⟩) 256 fun _ _ => .nil)] _ := SH.frz1 (hS.sel [0, 1, 2, 3, 4, 5, 6, 7] rfl)
        replace hS : SH M X w [Ent.im (tI .u8) y101.Kinds g104, Ent.im tS y101.Words g102, Ent.im (tI .u8) ([] : List Int) (.nil), Ent.own 9 tS ([[116, 111, 112], [114, 105, 103, 104, 116], [98, 111, 116, 116, 111, 109], [108, 101, 102, 116]] : List Str) g82, Ent.own 51 tyProp v88 g89, Ent.blk b9 [.int .u8 2, .string ⟨⟨[]⟩⟩, .int .i64 0, .int .u8 0, .int .u8 0, .int .u8 0, .int .u8 0], Ent.blk b6 [.int .u8 y3.Kind, .string ⟨⟨y3.Word⟩⟩, .int .i64 y3.Num, .int .u8 y3.Color.Red, .int .u8 y3.Color.Green, .int .u8 y3.Color.Blue, .int .u8 y3.Color.Alpha], Ent.im (tI .u8) gl_strings_asciiSpace (Gh.mk (some ⟨0, 0, none⟩) 256 fun _ _ => .nil)] _ := SH.frz1 (hS.sel [1, 0, 2, 3, 4, 5, 6, 7] rfl)
        have hd : S0 (AvL M [Ent.im (tI .u8) y101.Kinds g104, Ent.im tS y101.Words g102, Ent.im (tI .u8) ([] : List Int) (.nil), Ent.own 9 tS ([[116, 111, 112], [114, 105, 103, 104, 116], [98, 111, 116, 116, 111, 109], [108, 101, 102, 116]] : List Str) g82, Ent.own 51 tyProp v88 g89, Ent.blk b9 [.int .u8 2, .string ⟨⟨[]⟩⟩, .int .i64 0, .int .u8 0, .int .u8 0, .int .u8 0, .int .u8 0], Ent.blk b6 [.int .u8 y3.Kind, .string ⟨⟨y3.Word⟩⟩, .int .i64 y3.Num, .int .u8 y3.Color.Red, .int .u8 y3.Color.Green, .int .u8 y3.Color.Blue, .int .u8 y3.Color.Alpha], Ent.im (tI .u8) gl_strings_asciiSpace (Gh.mk (some ⟨0, 0, none⟩) 256 fun _ _ => .nil)]) [Ent.im tS y101.Words g102, Ent.im (tI .u8) y101.Kinds g104] _ := hS.hand [1, 0] [0, 1, 2, 3, 4, 5, 6, 7] rfl rfl
        refine m_stp [35, 1, 2, 24, 25, 26, 30] [(1, [], .pointer (some ⟨b6, 0, none⟩)), (2, [], .pointer (some ⟨b9, 0, none⟩)), (24, [], .slice g82.a 4 g82.c), (25, [], .int .i64 4), (26, [], .int .i64 v90), (30, [], .slice g89.a v88.length g89.c)] H107 rfl rfl rfl rfl (o_lit (T := tyProp) (E := 51) (zv := .agg ⟨[.string ⟨⟨[]⟩⟩, .bool false, .int .u8 0, .string ⟨⟨[]⟩⟩, .int .i64 0, .int .u8 0, .int .u8 0, .int .u8 0, .int .u8 0, .slice none 0 0, .slice none 0 0, .bool false]⟩) [.string ⟨⟨y101.Name⟩⟩, .bool y101.Inherited, .int .u8 y101.Initial.Kind, .string ⟨⟨y101.Initial.Word⟩⟩, .int .i64 y101.Initial.Num, .int .u8 y101.Initial.Color.Red, .int .u8 y101.Initial.Color.Green, .int .u8 y101.Initial.Color.Blue, .int .u8 y101.Initial.Color.Alpha, .slice g102.a y101.Words.length g102.c, .slice g104.a y101.Kinds.length g104.c, .bool y101.Least] ([y101] : List TProp) [gL [g102, g104]] _ H107 hd rfl (by kernel_rfl) (by kernel_rfl) (by kernel_rfl) (by kernel_rfl) (by kernel_rfl) (by kernel_rfl) (by kernel_rfl) rfl (InnL.cons (tyProp_mk (hd.im 0 rfl) (hd.im 1 rfl)) InnL.nil)) (fun _ => rfl) fun _ wd110 v H111 hq => ?_
        clear H107 hd
        obtain ⟨g108, rfl, hq⟩ := hq
        replace hS : SH M X w [Ent.own 51 tyProp ([y101] : List TProp) g108, Ent.im (tI .u8) y101.Kinds g104, Ent.im tS y101.Words g102, Ent.im (tI .u8) ([] : List Int) (.nil), Ent.own 9 tS ([[116, 111, 112], [114, 105, 103, 104, 116], [98, 111, 116, 116, 111, 109], [108, 101, 102, 116]] : List Str) g82, Ent.own 51 tyProp v88 g89, Ent.blk b9 [.int .u8 2, .string ⟨⟨[]⟩⟩, .int .i64 0, .int .u8 0, .int .u8 0, .int .u8 0, .int .u8 0], Ent.blk b6 [.int .u8 y3.Kind, .string ⟨⟨y3.Word⟩⟩, .int .i64 y3.Num, .int .u8 y3.Color.Red, .int .u8 y3.Color.Green, .int .u8 y3.Color.Blue, .int .u8 y3.Color.Alpha], Ent.im (tI .u8) gl_strings_asciiSpace (Gh.mk (some ⟨0, 0, none⟩) 256 fun _ _ => .nil)] _ := hS.join [1, 0] [0, 1, 2, 3, 4, 5, 6, 7] rfl rfl hq
        clear hq
        obtain ⟨ho112, hm⟩ := chkE hm
        obtain ⟨q113, hq113, hm⟩ := letE hm
        have hd : S0 (AvL M [Ent.im (tI .u8) y101.Kinds g104, Ent.im tS y101.Words g102, Ent.im (tI .u8) ([] : List Int) (.nil), Ent.own 9 tS ([[116, 111, 112], [114, 105, 103, 104, 116], [98, 111, 116, 116, 111, 109], [108, 101, 102, 116]] : List Str) g82, Ent.blk b9 [.int .u8 2, .string ⟨⟨[]⟩⟩, .int .i64 0, .int .u8 0, .int .u8 0, .int .u8 0, .int .u8 0], Ent.blk b6 [.int .u8 y3.Kind, .string ⟨⟨y3.Word⟩⟩, .int .i64 y3.Num, .int .u8 y3.Color.Red, .int .u8 y3.Color.Green, .int .u8 y3.Color.Blue, .int .u8 y3.Color.Alpha], Ent.im (tI .u8) gl_strings_asciiSpace (Gh.mk (some ⟨0, 0, none⟩) 256 fun _ _ => .nil)]) [Ent.own 51 tyProp v88 g89, Ent.own 51 tyProp ([y101] : List TProp) g108] _ := hS.hand [5, 0] [1, 2, 3, 4, 6, 7, 8] rfl rfl
        refine m_stp [36, 1, 2, 24, 25, 26] [(1, [], .pointer (some ⟨b6, 0, none⟩)), (2, [], .pointer (some ⟨b9, 0, none⟩)), (24, [], .slice g82.a 4 g82.c), (25, [], .int .i64 4), (26, [], .int .i64 v90)] H111 rfl rfl rfl rfl (o_app2 (T := tyProp) (zv := .agg ⟨[.string ⟨⟨[]⟩⟩, .bool false, .int .u8 0, .string ⟨⟨[]⟩⟩, .int .i64 0, .int .u8 0, .int .u8 0, .int .u8 0, .int .u8 0, .slice none 0 0, .slice none 0 0, .bool false]⟩) (g1 := g89) (g2 := g108) (l1 := v88) (l2 := ([y101] : List TProp)) q113 hq113.symm H111 hd rfl rfl rfl rfl rfl rfl rfl (by kernel_rfl) (by kernel_rfl) rfl rfl ho112) (fun _ => rfl) fun _ wd114 v H115 hq => ?_
        clear H111 hd
        obtain ⟨g116, rfl, hq⟩ := hq
        replace hS : SH M X w [Ent.own 51 tyProp q113 g116, Ent.own 51 tyProp ([y101] : List TProp) g108, Ent.im (tI .u8) y101.Kinds g104, Ent.im tS y101.Words g102, Ent.im (tI .u8) ([] : List Int) (.nil), Ent.own 9 tS ([[116, 111, 112], [114, 105, 103, 104, 116], [98, 111, 116, 116, 111, 109], [108, 101, 102, 116]] : List Str) g82, Ent.blk b9 [.int .u8 2, .string ⟨⟨[]⟩⟩, .int .i64 0, .int .u8 0, .int .u8 0, .int .u8 0, .int .u8 0], Ent.blk b6 [.int .u8 y3.Kind, .string ⟨⟨y3.Word⟩⟩, .int .i64 y3.Num, .int .u8 y3.Color.Red, .int .u8 y3.Color.Green, .int .u8 y3.Color.Blue, .int .u8 y3.Color.Alpha], Ent.im (tI .u8) gl_strings_asciiSpace (Gh.mk (some ⟨0, 0, none⟩) 256 fun _ _ => .nil)] _ := hS.join [5, 0] [1, 2, 3, 4, 6, 7, 8] rfl rfl hq
        clear hq
        refine wl_batch 7 8 [] [1, 2, 3, 24, 25, 26] [(1, [], .pointer (some ⟨b6, 0, none⟩)), (2, [], .pointer (some ⟨b9, 0, none⟩)), (3, [], .slice g116.a q113.length g116.c), (24, [], .slice g82.a 4 g82.c), (25, [], .int .i64 4), (26, [], .int .i64 v90)] [] H115 (by decide) (by kernel_rfl) trivial fun _ wd117 H118 hb => ?_
        clear H115
        replace hS := hS.below hb
        clear hb
        refine wl_end rfl ?_
        replace hS : SH M X w [Ent.own 51 tyProp q113 g116, Ent.own 9 tS ([[116, 111, 112], [114, 105, 103, 104, 116], [98, 111, 116, 116, 111, 109], [108, 101, 102, 116]] : List Str) g82, Ent.blk b9 [.int .u8 2, .string ⟨⟨[]⟩⟩, .int .i64 0, .int .u8 0, .int .u8 0, .int .u8 0, .int .u8 0], Ent.blk b6 [.int .u8 y3.Kind, .string ⟨⟨y3.Word⟩⟩, .int .i64 y3.Num, .int .u8 y3.Color.Red, .int .u8 y3.Color.Green, .int .u8 y3.Color.Blue, .int .u8 y3.Color.Alpha], Ent.im (tI .u8) gl_strings_asciiSpace (Gh.mk (some ⟨0, 0, none⟩) 256 fun _ _ => .nil)] _ := hS.sel [0, 5, 6, 7, 8] rfl
        refine w_reg [] [1, 2, 3, 24, 25, 26] [(1, [], .pointer (some ⟨b6, 0, none⟩)), (2, [], .pointer (some ⟨b9, 0, none⟩)), (3, [], .slice g116.a q113.length g116.c), (24, [], .slice g82.a 4 g82.c), (25, [], .int .i64 4), (26, [], .int .i64 (w64 (v90 + 1)))] [] H118 (by kernel_rfl) trivial fun _ wd119 H120 hb => ?_
        clear H118
        replace hS := hS.below hb
        clear hb
        replace hS : SH M X w [Ent.own 9 tS ([[116, 111, 112], [114, 105, 103, 104, 116], [98, 111, 116, 116, 111, 109], [108, 101, 102, 116]] : List Str) g82, Ent.own 51 tyProp q113 g116, Ent.blk b9 [.int .u8 2, .string ⟨⟨[]⟩⟩, .int .i64 0, .int .u8 0, .int .u8 0, .int .u8 0, .int .u8 0], Ent.blk b6 [.int .u8 y3.Kind, .string ⟨⟨y3.Word⟩⟩, .int .i64 y3.Num, .int .u8 y3.Color.Red, .int .u8 y3.Color.Green, .int .u8 y3.Color.Blue, .int .u8 y3.Color.Alpha], Ent.im (tI .u8) gl_strings_asciiSpace (Gh.mk (some ⟨0, 0, none⟩) 256 fun _ _ => .nil)] _ := hS.sel [1, 0, 2, 3, 4] rfl
        exact ⟨_, Nat.lt_succ_self _, q113, w64 (v90 + 1), g116, hm, Fr.keep (ks := [1, 2, 24, 25, 3, 26]) H120 (by kernel_rfl), hS⟩
      · replace hm := bF hc hm
        refine w_exit rfl ?_
        obtain rfl := someE hm
        replace hS : SH M X w [Ent.own 51 tyProp v88 g89, Ent.blk b9 [.int .u8 2, .string ⟨⟨[]⟩⟩, .int .i64 0, .int .u8 0, .int .u8 0, .int .u8 0, .int .u8 0], Ent.blk b6 [.int .u8 y3.Kind, .string ⟨⟨y3.Word⟩⟩, .int .i64 y3.Num, .int .u8 y3.Color.Red, .int .u8 y3.Color.Green, .int .u8 y3.Color.Blue, .int .u8 y3.Color.Alpha], Ent.im (tI .u8) gl_strings_asciiSpace (Gh.mk (some ⟨0, 0, none⟩) 256 fun _ _ => .nil)] _ := hS.sel [1, 2, 3, 4] rfl
        exact ⟨g89, Fr.keep (ks := [1, 3]) H92 (by kernel_rfl), hS⟩
  · rintro _ wd172 ⟨g122, H, hS⟩
    replace hS : SH M X w [Ent.own 51 tyProp z81 g122, Ent.blk b6 [.int .u8 y3.Kind, .string ⟨⟨y3.Word⟩⟩, .int .i64 y3.Num, .int .u8 y3.Color.Red, .int .u8 y3.Color.Green, .int .u8 y3.Color.Blue, .int .u8 y3.Color.Alpha], Ent.im (tI .u8) gl_strings_asciiSpace (Gh.mk (some ⟨0, 0, none⟩) 256 fun _ _ => .nil)] _ := hS.sel [0, 2, 3] rfl
    obtain ⟨y125, hy125, hm⟩ := bindE hm
    obtain ⟨y130, hy130, hm⟩ := letE hm
    obtain ⟨y133, hy133, hm⟩ := bindE hm
    obtain ⟨y138, hy138, hm⟩ := bindE hm
    obtain ⟨ho153, hm⟩ := chkE hm
    obtain ⟨q154, hq154, hm⟩ := letE hm
    refine s_drawS (base := [(1, [], .pointer (some ⟨b6, 0, none⟩)), (3, [], .slice g122.a z81.length g122.c)]) (L := [Ent.own 51 tyProp z81 g122, Ent.blk b6 [.int .u8 y3.Kind, .string ⟨⟨y3.Word⟩⟩, .int .i64 y3.Num, .int .u8 y3.Color.Red, .int .u8 y3.Color.Green, .int .u8 y3.Color.Blue, .int .u8 y3.Color.Alpha], Ent.im (tI .u8) gl_strings_asciiSpace (Gh.mk (some ⟨0, 0, none⟩) 256 fun _ _ => .nil)]) 20 3 (fun yg123 => [.slice g122.a z81.length g122.c, .agg ⟨[.int .u8 2, .string ⟨⟨[]⟩⟩, .int .i64 16000, .int .u8 0, .int .u8 0, .int .u8 0, .int .u8 0]⟩, .agg ⟨[.string ⟨⟨y125.Name⟩⟩, .bool y125.Inherited, .int .u8 y125.Initial.Kind, .string ⟨⟨y125.Initial.Word⟩⟩, .int .i64 y125.Initial.Num, .int .u8 y125.Initial.Color.Red, .int .u8 y125.Initial.Color.Green, .int .u8 y125.Initial.Color.Blue, .int .u8 y125.Initial.Color.Alpha, .slice (yg123 2 0).a y125.Words.length (yg123 2 0).c, .slice (yg123 2 1).a y125.Kinds.length (yg123 2 1).c, .bool y125.Least]⟩, .agg ⟨[.int .u8 y130.Kind, .string ⟨⟨y130.Word⟩⟩, .int .i64 y130.Num, .int .u8 y130.Color.Red, .int .u8 y130.Color.Green, .int .u8 y130.Color.Blue, .int .u8 y130.Color.Alpha]⟩, .slice (yg123 4 0).a 1 (yg123 4 0).c, .agg ⟨[.string ⟨⟨y133.Name⟩⟩, .bool y133.Inherited, .int .u8 y133.Initial.Kind, .string ⟨⟨y133.Initial.Word⟩⟩, .int .i64 y133.Initial.Num, .int .u8 y133.Initial.Color.Red, .int .u8 y133.Initial.Color.Green, .int .u8 y133.Initial.Color.Blue, .int .u8 y133.Initial.Color.Alpha, .slice (yg123 5 0).a y133.Words.length (yg123 5 0).c, .slice (yg123 5 1).a y133.Kinds.length (yg123 5 1).c, .bool y133.Least]⟩, .agg ⟨[.string ⟨⟨y138.Name⟩⟩, .bool y138.Inherited, .int .u8 y138.Initial.Kind, .string ⟨⟨y138.Initial.Word⟩⟩, .int .i64 y138.Initial.Num, .int .u8 y138.Initial.Color.Red, .int .u8 y138.Initial.Color.Green, .int .u8 y138.Initial.Color.Blue, .int .u8 y138.Initial.Color.Alpha, .slice (yg123 6 0).a y138.Words.length (yg123 6 0).c, .slice (yg123 6 1).a y138.Kinds.length (yg123 6 1).c, .bool y138.Least]⟩, .agg ⟨[.int .u8 5, .string ⟨⟨[]⟩⟩, .int .i64 1000, .int .u8 0, .int .u8 0, .int .u8 0, .int .u8 0]⟩, .slice (yg123 8 0).a 1 (yg123 8 0).c, .agg ⟨[.string ⟨⟨[111, 112, 97, 99, 105, 116, 121]⟩⟩, .bool false, .int .u8 5, .string ⟨⟨[]⟩⟩, .int .i64 1000, .int .u8 0, .int .u8 0, .int .u8 0, .int .u8 0, .slice none 0 0, .slice (yg123 8 0).a 1 (yg123 8 0).c, .bool false]⟩, .agg ⟨[.int .u8 y3.Kind, .string ⟨⟨y3.Word⟩⟩, .int .i64 y3.Num, .int .u8 y3.Color.Red, .int .u8 y3.Color.Green, .int .u8 y3.Color.Blue, .int .u8 y3.Color.Alpha]⟩, .slice (yg123 11 0).a 1 (yg123 11 0).c, .slice (yg123 12 0).a 1 (yg123 12 0).c, .agg ⟨[.string ⟨⟨[122, 45, 105, 110, 100, 101, 120]⟩⟩, .bool false, .int .u8 y3.Kind, .string ⟨⟨y3.Word⟩⟩, .int .i64 y3.Num, .int .u8 y3.Color.Red, .int .u8 y3.Color.Green, .int .u8 y3.Color.Blue, .int .u8 y3.Color.Alpha, .slice (yg123 11 0).a 1 (yg123 11 0).c, .slice (yg123 12 0).a 1 (yg123 12 0).c, .bool false]⟩, .agg ⟨[.int .u8 6, .string ⟨⟨[]⟩⟩, .int .i64 0, .int .u8 0, .int .u8 0, .int .u8 0, .int .u8 0]⟩, .slice (yg123 15 0).a 1 (yg123 15 0).c, .agg ⟨[.string ⟨⟨[111, 114, 100, 101, 114]⟩⟩, .bool false, .int .u8 6, .string ⟨⟨[]⟩⟩, .int .i64 0, .int .u8 0, .int .u8 0, .int .u8 0, .int .u8 0, .slice none 0 0, .slice (yg123 15 0).a 1 (yg123 15 0).c, .bool false]⟩, .slice (yg123 17 0).a 6 (yg123 17 0).c, .slice (yg123 18 0).a q154.length (yg123 18 0).c, .slice (yg123 18 0).a q154.length (yg123 18 0).c]) (fun yg123 => [[], [], [Ent.own 9 tS y125.Words (yg123 2 0), Ent.own 5 (tI .u8) y125.Kinds (yg123 2 1), Ent.im (tI .u8) ([] : List Int) (.nil)], [], [Ent.own 5 (tI .u8) ([5] : List Int) (yg123 4 0)], [Ent.own 9 tS y133.Words (yg123 5 0), Ent.own 5 (tI .u8) y133.Kinds (yg123 5 1), Ent.im (tI .u8) ([5] : List Int) (yg123 4 0)], [Ent.own 9 tS y138.Words (yg123 6 0), Ent.own 5 (tI .u8) y138.Kinds (yg123 6 1)], [], [Ent.own 5 (tI .u8) ([5] : List Int) (yg123 8 0)], [], [], [Ent.own 9 tS ([[97, 117, 116, 111]] : List Str) (yg123 11 0)], [Ent.own 5 (tI .u8) ([6] : List Int) (yg123 12 0)], [], [], [Ent.own 5 (tI .u8) ([6] : List Int) (yg123 15 0)], [], [Ent.own 51 tyProp ([y125, y133, y138, (TProp.mk [111, 112, 97, 99, 105, 116, 121] false (TVal.mk 5 [] 1000 (TColor.mk 0 0 0 0)) [] ([5] : List Int) false), (TProp.mk [122, 45, 105, 110, 100, 101, 120] false y3 ([[97, 117, 116, 111]] : List Str) ([6] : List Int) false), (TProp.mk [111, 114, 100, 101, 114] false (TVal.mk 6 [] 0 (TColor.mk 0 0 0 0)) [] ([6] : List Int) false)] : List TProp) (yg123 17 0), Ent.im (tI .u8) ([6] : List Int) (yg123 15 0), Ent.im (tI .u8) ([6] : List Int) (yg123 12 0), Ent.im tS ([[97, 117, 116, 111]] : List Str) (yg123 11 0), Ent.im (tI .u8) ([5] : List Int) (yg123 8 0), Ent.im (tI .u8) y138.Kinds (yg123 6 1), Ent.im tS y138.Words (yg123 6 0), Ent.im (tI .u8) y133.Kinds (yg123 5 1), Ent.im tS y133.Words (yg123 5 0), Ent.im (tI .u8) y125.Kinds (yg123 2 1), Ent.im tS y125.Words (yg123 2 0), Ent.im (tI .u8) ([] : List Int) (.nil), Ent.im (tI .u8) ([5] : List Int) (yg123 4 0)], [Ent.own 51 tyProp q154 (yg123 18 0)], []]) [[20], [], [22], [], [], [4, 22], [22], [], [], [8], [21], [], [], [11, 12], [], [], [15], [2, 5, 6, 8, 11, 12, 15], [17, 20], [18]] [[], [], [], [], [], [4], [], [], [], [], [], [], [], [], [], [], [], [2, 5, 6, 8, 11, 12, 15], [20], []] [[0], [1], [1, 2], [3], [4], [3, 4, 5], [6], [7], [8], [7, 8, 9], [10], [11], [12], [10, 11, 12, 13], [14], [15], [14, 15, 16], [1, 2, 3, 4, 5, 6, 7, 8, 9, 10, 11, 12, 13, 14, 15, 16, 17], [0, 1, 2, 3, 4, 5, 6, 7, 8, 9, 10, 11, 12, 13, 14, 15, 16, 17, 18], [0, 1, 2, 3, 4, 5, 6, 7, 8, 9, 10, 11, 12, 13, 14, 15, 16, 17, 18, 19]] [] (Fr.keep (ks := [1, 3]) H (by kernel_rfl)) (fun _ _ h => by cases h) (by kernel_rfl) hS (by kernel_rfl) rfl rfl (by kernel_rfl) (by kernel_rfl) (by kernel_rfl) ?hloc_yg123 ?hstep_yg123 fun _ wd156 yg123 H157 hv hS => ?hK_yg123
    case hloc_yg123 => exact ⟨(fun _ _ _ _ => ⟨rfl, rfl⟩), (fun _ _ _ _ => ⟨rfl, rfl⟩), (fun yg123 i g hi => by have h2 : updC yg123 i g 2 = yg123 2 := updC_out hi rfl; exact ⟨(show (.agg ⟨[.string ⟨⟨y125.Name⟩⟩, .bool y125.Inherited, .int .u8 y125.Initial.Kind, .string ⟨⟨y125.Initial.Word⟩⟩, .int .i64 y125.Initial.Num, .int .u8 y125.Initial.Color.Red, .int .u8 y125.Initial.Color.Green, .int .u8 y125.Initial.Color.Blue, .int .u8 y125.Initial.Color.Alpha, .slice ((updC yg123 i g) 2 0).a y125.Words.length ((updC yg123 i g) 2 0).c, .slice ((updC yg123 i g) 2 1).a y125.Kinds.length ((updC yg123 i g) 2 1).c, .bool y125.Least]⟩ : Value) = .agg ⟨[.string ⟨⟨y125.Name⟩⟩, .bool y125.Inherited, .int .u8 y125.Initial.Kind, .string ⟨⟨y125.Initial.Word⟩⟩, .int .i64 y125.Initial.Num, .int .u8 y125.Initial.Color.Red, .int .u8 y125.Initial.Color.Green, .int .u8 y125.Initial.Color.Blue, .int .u8 y125.Initial.Color.Alpha, .slice (yg123 2 0).a y125.Words.length (yg123 2 0).c, .slice (yg123 2 1).a y125.Kinds.length (yg123 2 1).c, .bool y125.Least]⟩ by simp only [h2]), (show ([Ent.own 9 tS y125.Words ((updC yg123 i g) 2 0), Ent.own 5 (tI .u8) y125.Kinds ((updC yg123 i g) 2 1), Ent.im (tI .u8) ([] : List Int) (.nil)] : List Ent) = [Ent.own 9 tS y125.Words (yg123 2 0), Ent.own 5 (tI .u8) y125.Kinds (yg123 2 1), Ent.im (tI .u8) ([] : List Int) (.nil)] by simp only [h2])⟩), (fun _ _ _ _ => ⟨rfl, rfl⟩), (fun yg123 i g hi => by have h4 : updC yg123 i g 4 = yg123 4 := updC_out hi rfl; exact ⟨(show (.slice ((updC yg123 i g) 4 0).a 1 ((updC yg123 i g) 4 0).c : Value) = .slice (yg123 4 0).a 1 (yg123 4 0).c by simp only [h4]), (show ([Ent.own 5 (tI .u8) ([5] : List Int) ((updC yg123 i g) 4 0)] : List Ent) = [Ent.own 5 (tI .u8) ([5] : List Int) (yg123 4 0)] by simp only [h4])⟩), (fun yg123 i g hi => by have h4 : updC yg123 i g 4 = yg123 4 := updC_out hi rfl; have h5 : updC yg123 i g 5 = yg123 5 := updC_out hi rfl; exact ⟨(show (.agg ⟨[.string ⟨⟨y133.Name⟩⟩, .bool y133.Inherited, .int .u8 y133.Initial.Kind, .string ⟨⟨y133.Initial.Word⟩⟩, .int .i64 y133.Initial.Num, .int .u8 y133.Initial.Color.Red, .int .u8 y133.Initial.Color.Green, .int .u8 y133.Initial.Color.Blue, .int .u8 y133.Initial.Color.Alpha, .slice ((updC yg123 i g) 5 0).a y133.Words.length ((updC yg123 i g) 5 0).c, .slice ((updC yg123 i g) 5 1).a y133.Kinds.length ((updC yg123 i g) 5 1).c, .bool y133.Least]⟩ : Value) = .agg ⟨[.string ⟨⟨y133.Name⟩⟩, .bool y133.Inherited, .int .u8 y133.Initial.Kind, .string ⟨⟨y133.Initial.Word⟩⟩, .int .i64 y133.Initial.Num, .int .u8 y133.Initial.Color.Red, .int .u8 y133.Initial.Color.Green, .int .u8 y133.Initial.Color.Blue, .int .u8 y133.Initial.Color.Alpha, .slice (yg123 5 0).a y133.Words.length (yg123 5 0).c, .slice (yg123 5 1).a y133.Kinds.length (yg123 5 1).c, .bool y133.Least]⟩ by simp only [h5]), (show ([Ent.own 9 tS y133.Words ((updC yg123 i g) 5 0), Ent.own 5 (tI .u8) y133.Kinds ((updC yg123 i g) 5 1), Ent.im (tI .u8) ([5] : List Int) ((updC yg123 i g) 4 0)] : List Ent) = [Ent.own 9 tS y133.Words (yg123 5 0), Ent.own 5 (tI .u8) y133.Kinds (yg123 5 1), Ent.im (tI .u8) ([5] : List Int) (yg123 4 0)] by simp only [h4, h5])⟩), (fun yg123 i g hi => by have h6 : updC yg123 i g 6 = yg123 6 := updC_out hi rfl; exact ⟨(show (.agg ⟨[.string ⟨⟨y138.Name⟩⟩, .bool y138.Inherited, .int .u8 y138.Initial.Kind, .string ⟨⟨y138.Initial.Word⟩⟩, .int .i64 y138.Initial.Num, .int .u8 y138.Initial.Color.Red, .int .u8 y138.Initial.Color.Green, .int .u8 y138.Initial.Color.Blue, .int .u8 y138.Initial.Color.Alpha, .slice ((updC yg123 i g) 6 0).a y138.Words.length ((updC yg123 i g) 6 0).c, .slice ((updC yg123 i g) 6 1).a y138.Kinds.length ((updC yg123 i g) 6 1).c, .bool y138.Least]⟩ : Value) = .agg ⟨[.string ⟨⟨y138.Name⟩⟩, .bool y138.Inherited, .int .u8 y138.Initial.Kind, .string ⟨⟨y138.Initial.Word⟩⟩, .int .i64 y138.Initial.Num, .int .u8 y138.Initial.Color.Red, .int .u8 y138.Initial.Color.Green, .int .u8 y138.Initial.Color.Blue, .int .u8 y138.Initial.Color.Alpha, .slice (yg123 6 0).a y138.Words.length (yg123 6 0).c, .slice (yg123 6 1).a y138.Kinds.length (yg123 6 1).c, .bool y138.Least]⟩ by simp only [h6]), (show ([Ent.own 9 tS y138.Words ((updC yg123 i g) 6 0), Ent.own 5 (tI .u8) y138.Kinds ((updC yg123 i g) 6 1)] : List Ent) = [Ent.own 9 tS y138.Words (yg123 6 0), Ent.own 5 (tI .u8) y138.Kinds (yg123 6 1)] by simp only [h6])⟩), (fun _ _ _ _ => ⟨rfl, rfl⟩), (fun yg123 i g hi => by have h8 : updC yg123 i g 8 = yg123 8 := updC_out hi rfl; exact ⟨(show (.slice ((updC yg123 i g) 8 0).a 1 ((updC yg123 i g) 8 0).c : Value) = .slice (yg123 8 0).a 1 (yg123 8 0).c by simp only [h8]), (show ([Ent.own 5 (tI .u8) ([5] : List Int) ((updC yg123 i g) 8 0)] : List Ent) = [Ent.own 5 (tI .u8) ([5] : List Int) (yg123 8 0)] by simp only [h8])⟩), (fun yg123 i g hi => by have h8 : updC yg123 i g 8 = yg123 8 := updC_out hi rfl; exact ⟨(show (.agg ⟨[.string ⟨⟨[111, 112, 97, 99, 105, 116, 121]⟩⟩, .bool false, .int .u8 5, .string ⟨⟨[]⟩⟩, .int .i64 1000, .int .u8 0, .int .u8 0, .int .u8 0, .int .u8 0, .slice none 0 0, .slice ((updC yg123 i g) 8 0).a 1 ((updC yg123 i g) 8 0).c, .bool false]⟩ : Value) = .agg ⟨[.string ⟨⟨[111, 112, 97, 99, 105, 116, 121]⟩⟩, .bool false, .int .u8 5, .string ⟨⟨[]⟩⟩, .int .i64 1000, .int .u8 0, .int .u8 0, .int .u8 0, .int .u8 0, .slice none 0 0, .slice (yg123 8 0).a 1 (yg123 8 0).c, .bool false]⟩ by simp only [h8]), (show ([] : List Ent) = [] by simp only [])⟩), (fun _ _ _ _ => ⟨rfl, rfl⟩), (fun yg123 i g hi => by have h11 : updC yg123 i g 11 = yg123 11 := updC_out hi rfl; exact ⟨(show (.slice ((updC yg123 i g) 11 0).a 1 ((updC yg123 i g) 11 0).c : Value) = .slice (yg123 11 0).a 1 (yg123 11 0).c by simp only [h11]), (show ([Ent.own 9 tS ([[97, 117, 116, 111]] : List Str) ((updC yg123 i g) 11 0)] : List Ent) = [Ent.own 9 tS ([[97, 117, 116, 111]] : List Str) (yg123 11 0)] by simp only [h11])⟩), (fun yg123 i g hi => by have h12 : updC yg123 i g 12 = yg123 12 := updC_out hi rfl; exact ⟨(show (.slice ((updC yg123 i g) 12 0).a 1 ((updC yg123 i g) 12 0).c : Value) = .slice (yg123 12 0).a 1 (yg123 12 0).c by simp only [h12]), (show ([Ent.own 5 (tI .u8) ([6] : List Int) ((updC yg123 i g) 12 0)] : List Ent) = [Ent.own 5 (tI .u8) ([6] : List Int) (yg123 12 0)] by simp only [h12])⟩), (fun yg123 i g hi => by have h11 : updC yg123 i g 11 = yg123 11 := updC_out hi rfl; have h12 : updC yg123 i g 12 = yg123 12 := updC_out hi rfl; exact ⟨(show (.agg ⟨[.string ⟨⟨[122, 45, 105, 110, 100, 101, 120]⟩⟩, .bool false, .int .u8 y3.Kind, .string ⟨⟨y3.Word⟩⟩, .int .i64 y3.Num, .int .u8 y3.Color.Red, .int .u8 y3.Color.Green, .int .u8 y3.Color.Blue, .int .u8 y3.Color.Alpha, .slice ((updC yg123 i g) 11 0).a 1 ((updC yg123 i g) 11 0).c, .slice ((updC yg123 i g) 12 0).a 1 ((updC yg123 i g) 12 0).c, .bool false]⟩ : Value) = .agg ⟨[.string ⟨⟨[122, 45, 105, 110, 100, 101, 120]⟩⟩, .bool false, .int .u8 y3.Kind, .string ⟨⟨y3.Word⟩⟩, .int .i64 y3.Num, .int .u8 y3.Color.Red, .int .u8 y3.Color.Green, .int .u8 y3.Color.Blue, .int .u8 y3.Color.Alpha, .slice (yg123 11 0).a 1 (yg123 11 0).c, .slice (yg123 12 0).a 1 (yg123 12 0).c, .bool false]⟩ by simp only [h11, h12]), (show ([] : List Ent) = [] by simp only [])⟩), (fun _ _ _ _ => ⟨rfl, rfl⟩), (fun yg123 i g hi => by have h15 : updC yg123 i g 15 = yg123 15 := updC_out hi rfl; exact ⟨(show (.slice ((updC yg123 i g) 15 0).a 1 ((updC yg123 i g) 15 0).c : Value) = .slice (yg123 15 0).a 1 (yg123 15 0).c by simp only [h15]), (show ([Ent.own 5 (tI .u8) ([6] : List Int) ((updC yg123 i g) 15 0)] : List Ent) = [Ent.own 5 (tI .u8) ([6] : List Int) (yg123 15 0)] by simp only [h15])⟩), (fun yg123 i g hi => by have h15 : updC yg123 i g 15 = yg123 15 := updC_out hi rfl; exact ⟨(show (.agg ⟨[.string ⟨⟨[111, 114, 100, 101, 114]⟩⟩, .bool false, .int .u8 6, .string ⟨⟨[]⟩⟩, .int .i64 0, .int .u8 0, .int .u8 0, .int .u8 0, .int .u8 0, .slice none 0 0, .slice ((updC yg123 i g) 15 0).a 1 ((updC yg123 i g) 15 0).c, .bool false]⟩ : Value) = .agg ⟨[.string ⟨⟨[111, 114, 100, 101, 114]⟩⟩, .bool false, .int .u8 6, .string ⟨⟨[]⟩⟩, .int .i64 0, .int .u8 0, .int .u8 0, .int .u8 0, .int .u8 0, .slice none 0 0, .slice (yg123 15 0).a 1 (yg123 15 0).c, .bool false]⟩ by simp only [h15]), (show ([] : List Ent) = [] by simp only [])⟩), (fun yg123 i g hi => by have h2 : updC yg123 i g 2 = yg123 2 := updC_out hi rfl; have h4 : updC yg123 i g 4 = yg123 4 := updC_out hi rfl; have h5 : updC yg123 i g 5 = yg123 5 := updC_out hi rfl; have h6 : updC yg123 i g 6 = yg123 6 := updC_out hi rfl; have h8 : updC yg123 i g 8 = yg123 8 := updC_out hi rfl; have h11 : updC yg123 i g 11 = yg123 11 := updC_out hi rfl; have h12 : updC yg123 i g 12 = yg123 12 := updC_out hi rfl; have h15 : updC yg123 i g 15 = yg123 15 := updC_out hi rfl; have h17 : updC yg123 i g 17 = yg123 17 := updC_out hi rfl; exact ⟨(show (.slice ((updC yg123 i g) 17 0).a 6 ((updC yg123 i g) 17 0).c : Value) = .slice (yg123 17 0).a 6 (yg123 17 0).c by simp only [h17]), (show ([Ent.own 51 tyProp ([y125, y133, y138, (TProp.mk [111, 112, 97, 99, 105, 116, 121] false (TVal.mk 5 [] 1000 (TColor.mk 0 0 0 0)) [] ([5] : List Int) false), (TProp.mk [122, 45, 105, 110, 100, 101, 120] false y3 ([[97, 117, 116, 111]] : List Str) ([6] : List Int) false), (TProp.mk [111, 114, 100, 101, 114] false (TVal.mk 6 [] 0 (TColor.mk 0 0 0 0)) [] ([6] : List Int) false)] : List TProp) ((updC yg123 i g) 17 0), Ent.im (tI .u8) ([6] : List Int) ((updC yg123 i g) 15 0), Ent.im (tI .u8) ([6] : List Int) ((updC yg123 i g) 12 0), Ent.im tS ([[97, 117, 116, 111]] : List Str) ((updC yg123 i g) 11 0), Ent.im (tI .u8) ([5] : List Int) ((updC yg123 i g) 8 0), Ent.im (tI .u8) y138.Kinds ((updC yg123 i g) 6 1), Ent.im tS y138.Words ((updC yg123 i g) 6 0), Ent.im (tI .u8) y133.Kinds ((updC yg123 i g) 5 1), Ent.im tS y133.Words ((updC yg123 i g) 5 0), Ent.im (tI .u8) y125.Kinds ((updC yg123 i g) 2 1), Ent.im tS y125.Words ((updC yg123 i g) 2 0), Ent.im (tI .u8) ([] : List Int) (.nil), Ent.im (tI .u8) ([5] : List Int) ((updC yg123 i g) 4 0)] : List Ent) = [Ent.own 51 tyProp ([y125, y133, y138, (TProp.mk [111, 112, 97, 99, 105, 116, 121] false (TVal.mk 5 [] 1000 (TColor.mk 0 0 0 0)) [] ([5] : List Int) false), (TProp.mk [122, 45, 105, 110, 100, 101, 120] false y3 ([[97, 117, 116, 111]] : List Str) ([6] : List Int) false), (TProp.mk [111, 114, 100, 101, 114] false (TVal.mk 6 [] 0 (TColor.mk 0 0 0 0)) [] ([6] : List Int) false)] : List TProp) (yg123 17 0), Ent.im (tI .u8) ([6] : List Int) (yg123 15 0), Ent.im (tI .u8) ([6] : List Int) (yg123 12 0), Ent.im tS ([[97, 117, 116, 111]] : List Str) (yg123 11 0), Ent.im (tI .u8) ([5] : List Int) (yg123 8 0), Ent.im (tI .u8) y138.Kinds (yg123 6 1), Ent.im tS y138.Words (yg123 6 0), Ent.im (tI .u8) y133.Kinds (yg123 5 1), Ent.im tS y133.Words (yg123 5 0), Ent.im (tI .u8) y125.Kinds (yg123 2 1), Ent.im tS y125.Words (yg123 2 0), Ent.im (tI .u8) ([] : List Int) (.nil), Ent.im (tI .u8) ([5] : List Int) (yg123 4 0)] by simp only [h2, h4, h5, h6, h8, h11, h12, h15, h17])⟩), (fun yg123 i g hi => by have h18 : updC yg123 i g 18 = yg123 18 := updC_out hi rfl; exact ⟨(show (.slice ((updC yg123 i g) 18 0).a q154.length ((updC yg123 i g) 18 0).c : Value) = .slice (yg123 18 0).a q154.length (yg123 18 0).c by simp only [h18]), (show ([Ent.own 51 tyProp q154 ((updC yg123 i g) 18 0)] : List Ent) = [Ent.own 51 tyProp q154 (yg123 18 0)] by simp only [h18])⟩), (fun yg123 i g hi => by have h18 : updC yg123 i g 18 = yg123 18 := updC_out hi rfl; exact ⟨(show (.slice ((updC yg123 i g) 18 0).a q154.length ((updC yg123 i g) 18 0).c : Value) = .slice (yg123 18 0).a q154.length (yg123 18 0).c by simp only [h18]), (show ([] : List Ent) = [] by simp only [])⟩), trivial⟩
    case hstep_yg123 =>
      refine ⟨?_, ?_, ?_, ?_, ?_, ?_, ?_, ?_, ?_, ?_, ?_, ?_, ?_, ?_, ?_, ?_, ?_, ?_, ?_, ?_, trivial⟩
      · intro o ho a w yg123 M Hb hv hO hS0
        obtain rfl := Option.some.inj ho
        have H : Fr 57 ([] ++ [(1, [], .pointer (some ⟨b6, 0, none⟩)), (3, [], .slice g122.a z81.length g122.c)]) _ := Hb
        obtain ⟨X, hX⟩ : ∃ X, X = fpl [Ent.own 51 tyProp z81 g122] := ⟨_, rfl⟩
        have hS : SH M X w [Ent.own 51 tyProp z81 g122] w := by rw [hX]; exact hS0
        refine Stp.mono (o_evs [] (.slice g122.a z81.length g122.c) none [] H rfl (by kernel_rfl) (fun q e => by cases e)) ?_
        rintro v w2 ⟨rfl, hq⟩
        replace hS : SH M X w [Ent.own 51 tyProp z81 g122] _ := hS.below hq.below
        rw [hX] at hS
        exact ⟨gL [], fun _ _ => rfl, hS.sel [0] rfl⟩
      · intro o ho a w yg123 M Hb hv hO hS0
        obtain rfl := Option.some.inj ho
        have H : Fr 57 ([] ++ [(1, [], .pointer (some ⟨b6, 0, none⟩)), (3, [], .slice g122.a z81.length g122.c)]) _ := Hb
        obtain ⟨X, hX⟩ : ∃ X, X = fpl [] := ⟨_, rfl⟩
        have hS : SH M X w [] w := by rw [hX]; exact hS0
        refine Stp.mono (o_evs [] (.agg ⟨[.int .u8 2, .string ⟨⟨[]⟩⟩, .int .i64 16000, .int .u8 0, .int .u8 0, .int .u8 0, .int .u8 0]⟩) none [] H rfl (by kernel_rfl) (fun q e => by cases e)) ?_
        rintro v w2 ⟨rfl, hq⟩
        replace hS : SH M X w [] _ := hS.below hq.below
        rw [hX] at hS
        exact ⟨gL [], fun _ _ => rfl, hS.sel [] rfl⟩
      · intro o ho a w yg123 M Hb hv hO hS0
        obtain rfl := Option.some.inj ho
        have H : Fr 57 ([(39, [], .agg ⟨[.int .u8 2, .string ⟨⟨[]⟩⟩, .int .i64 16000, .int .u8 0, .int .u8 0, .int .u8 0, .int .u8 0]⟩)] ++ [(1, [], .pointer (some ⟨b6, 0, none⟩)), (3, [], .slice g122.a z81.length g122.c)]) _ := (Hb).add (hv 1 (by decide) (by decide) 39 rfl)
        obtain ⟨X, hX⟩ : ∃ X, X = fpl [Ent.im (tI .u8) gl_strings_asciiSpace (Gh.mk (some ⟨0, 0, none⟩) 256 fun _ _ => .nil)] := ⟨_, rfl⟩
        have hS : SH M X w [Ent.im (tI .u8) gl_strings_asciiSpace (Gh.mk (some ⟨0, 0, none⟩) 256 fun _ _ => .nil)] w := by rw [hX]; exact hS0
        replace hS : SH M X w [Ent.own 5 (tI .u8) ([] : List Int) (.nil), Ent.im (tI .u8) gl_strings_asciiSpace (Gh.mk (some ⟨0, 0, none⟩) 256 fun _ _ => .nil)] _ := hS.addNil 5 (tI .u8)
        replace hS : SH M X w [Ent.im (tI .u8) ([] : List Int) (.nil), Ent.im (tI .u8) gl_strings_asciiSpace (Gh.mk (some ⟨0, 0, none⟩) 256 fun _ _ => .nil)] _ := SH.frz1 (hS.sel [0, 1] rfl)
        have hd : S0 (AvL M [Ent.im (tI .u8) ([] : List Int) (.nil), Ent.im (tI .u8) gl_strings_asciiSpace (Gh.mk (some ⟨0, 0, none⟩) 256 fun _ _ => .nil)]) [Ent.im (tI .u8) ([] : List Int) (.nil), Ent.im (tI .u8) gl_strings_asciiSpace (Gh.mk (some ⟨0, 0, none⟩) 256 fun _ _ => .nil)] _ := hS.hand [0, 1] [0, 1] rfl rfl
        refine Stp.mono (o_callx H rfl rfl (props_length_ok (g_more := Gh.nil) m _ _ _ _ _ _ _ hy125 _ _ hd)) ?_
        rintro v w2 hq
        obtain ⟨g126, g128, rfl, hq⟩ := hq
        replace hS : SH M X w [Ent.own 9 tS y125.Words g126, Ent.own 5 (tI .u8) y125.Kinds g128, Ent.im (tI .u8) ([] : List Int) (.nil), Ent.im (tI .u8) gl_strings_asciiSpace (Gh.mk (some ⟨0, 0, none⟩) 256 fun _ _ => .nil)] _ := hS.join [0, 1] [0, 1] rfl rfl hq
        clear hq
        rw [hX] at hS
        exact ⟨gL [g126, g128], fun _ _ => rfl, hS.sel [0, 1, 2, 3] rfl⟩
      · intro o ho a w yg123 M Hb hv hO hS0
        obtain rfl := Option.some.inj ho
        have H : Fr 57 ([] ++ [(1, [], .pointer (some ⟨b6, 0, none⟩)), (3, [], .slice g122.a z81.length g122.c)]) _ := Hb
        obtain ⟨X, hX⟩ : ∃ X, X = fpl [] := ⟨_, rfl⟩
        have hS : SH M X w [] w := by rw [hX]; exact hS0
        refine Stp.mono (o_evs [(.agg ⟨[.int .u8 y130.Kind, .string ⟨⟨y130.Word⟩⟩, .int .i64 y130.Num, .int .u8 y130.Color.Red, .int .u8 y130.Color.Green, .int .u8 y130.Color.Blue, .int .u8 y130.Color.Alpha]⟩)] (.agg ⟨[.int .u8 y130.Kind, .string ⟨⟨y130.Word⟩⟩, .int .i64 y130.Num, .int .u8 y130.Color.Red, .int .u8 y130.Color.Green, .int .u8 y130.Color.Blue, .int .u8 y130.Color.Alpha]⟩) (some (fun wz => RetB Tryd.prog 31 ⟨[.string ⟨⟨[110, 111, 114, 109, 97, 108]⟩⟩]⟩ (.agg ⟨[.int .u8 y130.Kind, .string ⟨⟨y130.Word⟩⟩, .int .i64 y130.Num, .int .u8 y130.Color.Red, .int .u8 y130.Color.Green, .int .u8 y130.Color.Blue, .int .u8 y130.Color.Alpha]⟩) wz)) [] H rfl (by subst hy130; kernel_rfl) (fun q e => by cases e; exact ((by rw [hy130]; exact (props_word_ok _).b)))) ?_
        rintro v w2 ⟨rfl, hq⟩
        replace hS : SH M X w [] _ := hS.below hq.below
        rw [hX] at hS
        exact ⟨gL [], fun _ _ => rfl, hS.sel [] rfl⟩
      · intro o ho a w yg123 M Hb hv hO hS0
        obtain rfl := Option.some.inj ho
        have H : Fr 57 ([] ++ [(1, [], .pointer (some ⟨b6, 0, none⟩)), (3, [], .slice g122.a z81.length g122.c)]) _ := Hb
        obtain ⟨X, hX⟩ : ∃ X, X = fpl [] := ⟨_, rfl⟩
        have hS : SH M X w [] w := by rw [hX]; exact hS0
        have hd : S0 (AvL M []) [] _ := hS.hand [] [] rfl rfl
        refine Stp.mono (o_lit (T := (tI .u8)) (E := 5) (zv := .int .u8 0) [.int .u8 5] ([5] : List Int) [gL []] _ H hd rfl (by kernel_rfl) (by kernel_rfl) (by kernel_rfl) (by kernel_rfl) (by kernel_rfl) (by kernel_rfl) (by kernel_rfl) rfl (InnL.cons trivial InnL.nil)) ?_
        rintro v w2 hq
        obtain ⟨g131, rfl, hq⟩ := hq
        replace hS : SH M X w [Ent.own 5 (tI .u8) ([5] : List Int) g131] _ := hS.join [] [] rfl rfl hq
        clear hq
        rw [hX] at hS
        exact ⟨gL [g131], fun _ _ => rfl, hS.sel [0] rfl⟩
      · intro o ho a w yg123 M Hb hv hO hS0
        obtain rfl := Option.some.inj ho
        have H : Fr 57 ([(42, [], .slice (yg123 4 0).a 1 (yg123 4 0).c), (41, [], .agg ⟨[.int .u8 y130.Kind, .string ⟨⟨y130.Word⟩⟩, .int .i64 y130.Num, .int .u8 y130.Color.Red, .int .u8 y130.Color.Green, .int .u8 y130.Color.Blue, .int .u8 y130.Color.Alpha]⟩)] ++ [(1, [], .pointer (some ⟨b6, 0, none⟩)), (3, [], .slice g122.a z81.length g122.c)]) _ := ((Hb).add (hv 3 (by decide) (by decide) 41 rfl)).add (hv 4 (by decide) (by decide) 42 rfl)
        obtain ⟨X, hX⟩ : ∃ X, X = fpl [Ent.own 5 (tI .u8) ([5] : List Int) (yg123 4 0), Ent.im (tI .u8) gl_strings_asciiSpace (Gh.mk (some ⟨0, 0, none⟩) 256 fun _ _ => .nil)] := ⟨_, rfl⟩
        have hS : SH M X w [Ent.own 5 (tI .u8) ([5] : List Int) (yg123 4 0), Ent.im (tI .u8) gl_strings_asciiSpace (Gh.mk (some ⟨0, 0, none⟩) 256 fun _ _ => .nil)] w := by rw [hX]; exact hS0
        replace hS : SH M X w [Ent.im (tI .u8) ([5] : List Int) (yg123 4 0), Ent.im (tI .u8) gl_strings_asciiSpace (Gh.mk (some ⟨0, 0, none⟩) 256 fun _ _ => .nil)] _ := SH.frz1 (hS.sel [0, 1] rfl)
        have hd : S0 (AvL M [Ent.im (tI .u8) ([5] : List Int) (yg123 4 0), Ent.im (tI .u8) gl_strings_asciiSpace (Gh.mk (some ⟨0, 0, none⟩) 256 fun _ _ => .nil)]) [Ent.im (tI .u8) ([5] : List Int) (yg123 4 0), Ent.im (tI .u8) gl_strings_asciiSpace (Gh.mk (some ⟨0, 0, none⟩) 256 fun _ _ => .nil)] _ := hS.hand [0, 1] [0, 1] rfl rfl
        refine Stp.mono (o_callx H rfl rfl (props_length_ok (g_more := (yg123 4 0)) m _ _ _ _ _ _ _ hy133 _ _ hd)) ?_
        rintro v w2 hq
        obtain ⟨g134, g136, rfl, hq⟩ := hq
        replace hS : SH M X w [Ent.own 9 tS y133.Words g134, Ent.own 5 (tI .u8) y133.Kinds g136, Ent.im (tI .u8) ([5] : List Int) (yg123 4 0), Ent.im (tI .u8) gl_strings_asciiSpace (Gh.mk (some ⟨0, 0, none⟩) 256 fun _ _ => .nil)] _ := hS.join [0, 1] [0, 1] rfl rfl hq
        clear hq
        rw [hX] at hS
        exact ⟨gL [g134, g136], fun _ _ => rfl, hS.sel [0, 1, 2, 3] rfl⟩
      · intro o ho a w yg123 M Hb hv hO hS0
        obtain rfl := Option.some.inj ho
        have H : Fr 57 ([] ++ [(1, [], .pointer (some ⟨b6, 0, none⟩)), (3, [], .slice g122.a z81.length g122.c)]) _ := Hb
        obtain ⟨X, hX⟩ : ∃ X, X = fpl [Ent.im (tI .u8) gl_strings_asciiSpace (Gh.mk (some ⟨0, 0, none⟩) 256 fun _ _ => .nil)] := ⟨_, rfl⟩
        have hS : SH M X w [Ent.im (tI .u8) gl_strings_asciiSpace (Gh.mk (some ⟨0, 0, none⟩) 256 fun _ _ => .nil)] w := by rw [hX]; exact hS0
        have hd : S0 (AvL M [Ent.im (tI .u8) gl_strings_asciiSpace (Gh.mk (some ⟨0, 0, none⟩) 256 fun _ _ => .nil)]) [Ent.im (tI .u8) gl_strings_asciiSpace (Gh.mk (some ⟨0, 0, none⟩) 256 fun _ _ => .nil)] _ := hS.hand [0] [0] rfl rfl
        refine Stp.mono (o_callx H rfl rfl (props_words_ok m _ _ _ _ _ hy138 _ _ hd)) ?_
        rintro v w2 hq
        obtain ⟨g139, g141, rfl, hq⟩ := hq
        replace hS : SH M X w [Ent.own 9 tS y138.Words g139, Ent.own 5 (tI .u8) y138.Kinds g141, Ent.im (tI .u8) gl_strings_asciiSpace (Gh.mk (some ⟨0, 0, none⟩) 256 fun _ _ => .nil)] _ := hS.join [0] [0] rfl rfl hq
        clear hq
        rw [hX] at hS
        exact ⟨gL [g139, g141], fun _ _ => rfl, hS.sel [0, 1, 2] rfl⟩
      · intro o ho a w yg123 M Hb hv hO hS0
        obtain rfl := Option.some.inj ho
        have H : Fr 57 ([] ++ [(1, [], .pointer (some ⟨b6, 0, none⟩)), (3, [], .slice g122.a z81.length g122.c)]) _ := Hb
        obtain ⟨X, hX⟩ : ∃ X, X = fpl [] := ⟨_, rfl⟩
        have hS : SH M X w [] w := by rw [hX]; exact hS0
        refine Stp.mono (o_evs [] (.agg ⟨[.int .u8 5, .string ⟨⟨[]⟩⟩, .int .i64 1000, .int .u8 0, .int .u8 0, .int .u8 0, .int .u8 0]⟩) none [] H rfl (by kernel_rfl) (fun q e => by cases e)) ?_
        rintro v w2 ⟨rfl, hq⟩
        replace hS : SH M X w [] _ := hS.below hq.below
        rw [hX] at hS
        exact ⟨gL [], fun _ _ => rfl, hS.sel [] rfl⟩
      · intro o ho a w yg123 M Hb hv hO hS0
        obtain rfl := Option.some.inj ho
        have H : Fr 57 ([] ++ [(1, [], .pointer (some ⟨b6, 0, none⟩)), (3, [], .slice g122.a z81.length g122.c)]) _ := Hb
        obtain ⟨X, hX⟩ : ∃ X, X = fpl [] := ⟨_, rfl⟩
        have hS : SH M X w [] w := by rw [hX]; exact hS0
        have hd : S0 (AvL M []) [] _ := hS.hand [] [] rfl rfl
        refine Stp.mono (o_lit (T := (tI .u8)) (E := 5) (zv := .int .u8 0) [.int .u8 5] ([5] : List Int) [gL []] _ H hd rfl (by kernel_rfl) (by kernel_rfl) (by kernel_rfl) (by kernel_rfl) (by kernel_rfl) (by kernel_rfl) (by kernel_rfl) rfl (InnL.cons trivial InnL.nil)) ?_
        rintro v w2 hq
        obtain ⟨g143, rfl, hq⟩ := hq
        replace hS : SH M X w [Ent.own 5 (tI .u8) ([5] : List Int) g143] _ := hS.join [] [] rfl rfl hq
        clear hq
        rw [hX] at hS
        exact ⟨gL [g143], fun _ _ => rfl, hS.sel [0] rfl⟩
      · intro o ho a w yg123 M Hb hv hO hS0
        obtain rfl := Option.some.inj ho
        have H : Fr 57 ([(46, [], .slice (yg123 8 0).a 1 (yg123 8 0).c), (45, [], .agg ⟨[.int .u8 5, .string ⟨⟨[]⟩⟩, .int .i64 1000, .int .u8 0, .int .u8 0, .int .u8 0, .int .u8 0]⟩)] ++ [(1, [], .pointer (some ⟨b6, 0, none⟩)), (3, [], .slice g122.a z81.length g122.c)]) _ := ((Hb).add (hv 7 (by decide) (by decide) 45 rfl)).add (hv 8 (by decide) (by decide) 46 rfl)
        obtain ⟨X, hX⟩ : ∃ X, X = fpl [Ent.own 5 (tI .u8) ([5] : List Int) (yg123 8 0)] := ⟨_, rfl⟩
        have hS : SH M X w [Ent.own 5 (tI .u8) ([5] : List Int) (yg123 8 0)] w := by rw [hX]; exact hS0
        refine Stp.mono (o_evs [] (.agg ⟨[.string ⟨⟨[111, 112, 97, 99, 105, 116, 121]⟩⟩, .bool false, .int .u8 5, .string ⟨⟨[]⟩⟩, .int .i64 1000, .int .u8 0, .int .u8 0, .int .u8 0, .int .u8 0, .slice none 0 0, .slice (yg123 8 0).a 1 (yg123 8 0).c, .bool false]⟩) none [] H rfl (by kernel_rfl) (fun q e => by cases e)) ?_
        rintro v w2 ⟨rfl, hq⟩
        replace hS : SH M X w [Ent.own 5 (tI .u8) ([5] : List Int) (yg123 8 0)] _ := hS.below hq.below
        rw [hX] at hS
        exact ⟨gL [], fun _ _ => rfl, hS.sel [0] rfl⟩
      · intro o ho a w yg123 M Hb hv hO hS0
        obtain rfl := Option.some.inj ho
        have H : Fr 57 ([] ++ [(1, [], .pointer (some ⟨b6, 0, none⟩)), (3, [], .slice g122.a z81.length g122.c)]) _ := Hb
        obtain ⟨X, hX⟩ : ∃ X, X = fpl [Ent.blk b6 [.int .u8 y3.Kind, .string ⟨⟨y3.Word⟩⟩, .int .i64 y3.Num, .int .u8 y3.Color.Red, .int .u8 y3.Color.Green, .int .u8 y3.Color.Blue, .int .u8 y3.Color.Alpha]] := ⟨_, rfl⟩
        have hS : SH M X w [Ent.blk b6 [.int .u8 y3.Kind, .string ⟨⟨y3.Word⟩⟩, .int .i64 y3.Num, .int .u8 y3.Color.Red, .int .u8 y3.Color.Green, .int .u8 y3.Color.Blue, .int .u8 y3.Color.Alpha]] w := by rw [hX]; exact hS0
        refine Stp.mono (o_evs [(.agg ⟨[.int .u8 y3.Kind, .string ⟨⟨y3.Word⟩⟩, .int .i64 y3.Num, .int .u8 y3.Color.Red, .int .u8 y3.Color.Green, .int .u8 y3.Color.Blue, .int .u8 y3.Color.Alpha]⟩)] (.agg ⟨[.int .u8 y3.Kind, .string ⟨⟨y3.Word⟩⟩, .int .i64 y3.Num, .int .u8 y3.Color.Red, .int .u8 y3.Color.Green, .int .u8 y3.Color.Blue, .int .u8 y3.Color.Alpha]⟩) (some (fun wz => V.atN b6 0 [.int .u8 y3.Kind, .string ⟨⟨y3.Word⟩⟩, .int .i64 y3.Num, .int .u8 y3.Color.Red, .int .u8 y3.Color.Green, .int .u8 y3.Color.Blue, .int .u8 y3.Color.Alpha] 0 wz)) [] H rfl (by kernel_rfl) (fun q e => by cases e; exact ((hS.bk 0 rfl).atD rfl))) ?_
        rintro v w2 ⟨rfl, hq⟩
        replace hS : SH M X w [Ent.blk b6 [.int .u8 y3.Kind, .string ⟨⟨y3.Word⟩⟩, .int .i64 y3.Num, .int .u8 y3.Color.Red, .int .u8 y3.Color.Green, .int .u8 y3.Color.Blue, .int .u8 y3.Color.Alpha]] _ := hS.below hq.below
        rw [hX] at hS
        exact ⟨gL [], fun _ _ => rfl, hS.sel [0] rfl⟩
      · intro o ho a w yg123 M Hb hv hO hS0
        obtain rfl := Option.some.inj ho
        have H : Fr 57 ([] ++ [(1, [], .pointer (some ⟨b6, 0, none⟩)), (3, [], .slice g122.a z81.length g122.c)]) _ := Hb
        obtain ⟨X, hX⟩ : ∃ X, X = fpl [] := ⟨_, rfl⟩
        have hS : SH M X w [] w := by rw [hX]; exact hS0
        have hd : S0 (AvL M []) [] _ := hS.hand [] [] rfl rfl
        refine Stp.mono (o_lit (T := tS) (E := 9) (zv := .string ⟨⟨[]⟩⟩) [.string ⟨⟨[97, 117, 116, 111]⟩⟩] ([[97, 117, 116, 111]] : List Str) [gL []] _ H hd rfl (by kernel_rfl) (by kernel_rfl) (by kernel_rfl) (by kernel_rfl) (by kernel_rfl) (by kernel_rfl) (by kernel_rfl) rfl (InnL.cons trivial InnL.nil)) ?_
        rintro v w2 hq
        obtain ⟨g145, rfl, hq⟩ := hq
        replace hS : SH M X w [Ent.own 9 tS ([[97, 117, 116, 111]] : List Str) g145] _ := hS.join [] [] rfl rfl hq
        clear hq
        rw [hX] at hS
        exact ⟨gL [g145], fun _ _ => rfl, hS.sel [0] rfl⟩
      · intro o ho a w yg123 M Hb hv hO hS0
        obtain rfl := Option.some.inj ho
        have H : Fr 57 ([] ++ [(1, [], .pointer (some ⟨b6, 0, none⟩)), (3, [], .slice g122.a z81.length g122.c)]) _ := Hb
        obtain ⟨X, hX⟩ : ∃ X, X = fpl [] := ⟨_, rfl⟩
        have hS : SH M X w [] w := by rw [hX]; exact hS0
        have hd : S0 (AvL M []) [] _ := hS.hand [] [] rfl rfl
        refine Stp.mono (o_lit (T := (tI .u8)) (E := 5) (zv := .int .u8 0) [.int .u8 6] ([6] : List Int) [gL []] _ H hd rfl (by kernel_rfl) (by kernel_rfl) (by kernel_rfl) (by kernel_rfl) (by kernel_rfl) (by kernel_rfl) (by kernel_rfl) rfl (InnL.cons trivial InnL.nil)) ?_
        rintro v w2 hq
        obtain ⟨g147, rfl, hq⟩ := hq
        replace hS : SH M X w [Ent.own 5 (tI .u8) ([6] : List Int) g147] _ := hS.join [] [] rfl rfl hq
        clear hq
        rw [hX] at hS
        exact ⟨gL [g147], fun _ _ => rfl, hS.sel [0] rfl⟩
      · intro o ho a w yg123 M Hb hv hO hS0
        obtain rfl := Option.some.inj ho
        have H : Fr 57 ([(50, [], .slice (yg123 12 0).a 1 (yg123 12 0).c), (49, [], .slice (yg123 11 0).a 1 (yg123 11 0).c), (48, [], .agg ⟨[.int .u8 y3.Kind, .string ⟨⟨y3.Word⟩⟩, .int .i64 y3.Num, .int .u8 y3.Color.Red, .int .u8 y3.Color.Green, .int .u8 y3.Color.Blue, .int .u8 y3.Color.Alpha]⟩)] ++ [(1, [], .pointer (some ⟨b6, 0, none⟩)), (3, [], .slice g122.a z81.length g122.c)]) _ := (((Hb).add (hv 10 (by decide) (by decide) 48 rfl)).add (hv 11 (by decide) (by decide) 49 rfl)).add (hv 12 (by decide) (by decide) 50 rfl)
        obtain ⟨X, hX⟩ : ∃ X, X = fpl [Ent.own 9 tS ([[97, 117, 116, 111]] : List Str) (yg123 11 0), Ent.own 5 (tI .u8) ([6] : List Int) (yg123 12 0)] := ⟨_, rfl⟩
        have hS : SH M X w [Ent.own 9 tS ([[97, 117, 116, 111]] : List Str) (yg123 11 0), Ent.own 5 (tI .u8) ([6] : List Int) (yg123 12 0)] w := by rw [hX]; exact hS0
        refine Stp.mono (o_evs [] (.agg ⟨[.string ⟨⟨[122, 45, 105, 110, 100, 101, 120]⟩⟩, .bool false, .int .u8 y3.Kind, .string ⟨⟨y3.Word⟩⟩, .int .i64 y3.Num, .int .u8 y3.Color.Red, .int .u8 y3.Color.Green, .int .u8 y3.Color.Blue, .int .u8 y3.Color.Alpha, .slice (yg123 11 0).a 1 (yg123 11 0).c, .slice (yg123 12 0).a 1 (yg123 12 0).c, .bool false]⟩) none [] H rfl (by kernel_rfl) (fun q e => by cases e)) ?_
        rintro v w2 ⟨rfl, hq⟩
        replace hS : SH M X w [Ent.own 9 tS ([[97, 117, 116, 111]] : List Str) (yg123 11 0), Ent.own 5 (tI .u8) ([6] : List Int) (yg123 12 0)] _ := hS.below hq.below
        rw [hX] at hS
        exact ⟨gL [], fun _ _ => rfl, hS.sel [0, 1] rfl⟩
      · intro o ho a w yg123 M Hb hv hO hS0
        obtain rfl := Option.some.inj ho
        have H : Fr 57 ([] ++ [(1, [], .pointer (some ⟨b6, 0, none⟩)), (3, [], .slice g122.a z81.length g122.c)]) _ := Hb
        obtain ⟨X, hX⟩ : ∃ X, X = fpl [] := ⟨_, rfl⟩
        have hS : SH M X w [] w := by rw [hX]; exact hS0
        refine Stp.mono (o_evs [] (.agg ⟨[.int .u8 6, .string ⟨⟨[]⟩⟩, .int .i64 0, .int .u8 0, .int .u8 0, .int .u8 0, .int .u8 0]⟩) none [] H rfl (by kernel_rfl) (fun q e => by cases e)) ?_
        rintro v w2 ⟨rfl, hq⟩
        replace hS : SH M X w [] _ := hS.below hq.below
        rw [hX] at hS
        exact ⟨gL [], fun _ _ => rfl, hS.sel [] rfl⟩
      · intro o ho a w yg123 M Hb hv hO hS0
        obtain rfl := Option.some.inj ho
        have H : Fr 57 ([] ++ [(1, [], .pointer (some ⟨b6, 0, none⟩)), (3, [], .slice g122.a z81.length g122.c)]) _ := Hb
        obtain ⟨X, hX⟩ : ∃ X, X = fpl [] := ⟨_, rfl⟩
        have hS : SH M X w [] w := by rw [hX]; exact hS0
        have hd : S0 (AvL M []) [] _ := hS.hand [] [] rfl rfl
        refine Stp.mono (o_lit (T := (tI .u8)) (E := 5) (zv := .int .u8 0) [.int .u8 6] ([6] : List Int) [gL []] _ H hd rfl (by kernel_rfl) (by kernel_rfl) (by kernel_rfl) (by kernel_rfl) (by kernel_rfl) (by kernel_rfl) (by kernel_rfl) rfl (InnL.cons trivial InnL.nil)) ?_
        rintro v w2 hq
        obtain ⟨g149, rfl, hq⟩ := hq
        replace hS : SH M X w [Ent.own 5 (tI .u8) ([6] : List Int) g149] _ := hS.join [] [] rfl rfl hq
        clear hq
        rw [hX] at hS
        exact ⟨gL [g149], fun _ _ => rfl, hS.sel [0] rfl⟩
      · intro o ho a w yg123 M Hb hv hO hS0
        obtain rfl := Option.some.inj ho
        have H : Fr 57 ([(53, [], .slice (yg123 15 0).a 1 (yg123 15 0).c), (52, [], .agg ⟨[.int .u8 6, .string ⟨⟨[]⟩⟩, .int .i64 0, .int .u8 0, .int .u8 0, .int .u8 0, .int .u8 0]⟩)] ++ [(1, [], .pointer (some ⟨b6, 0, none⟩)), (3, [], .slice g122.a z81.length g122.c)]) _ := ((Hb).add (hv 14 (by decide) (by decide) 52 rfl)).add (hv 15 (by decide) (by decide) 53 rfl)
        obtain ⟨X, hX⟩ : ∃ X, X = fpl [Ent.own 5 (tI .u8) ([6] : List Int) (yg123 15 0)] := ⟨_, rfl⟩
        have hS : SH M X w [Ent.own 5 (tI .u8) ([6] : List Int) (yg123 15 0)] w := by rw [hX]; exact hS0
        refine Stp.mono (o_evs [] (.agg ⟨[.string ⟨⟨[111, 114, 100, 101, 114]⟩⟩, .bool false, .int .u8 6, .string ⟨⟨[]⟩⟩, .int .i64 0, .int .u8 0, .int .u8 0, .int .u8 0, .int .u8 0, .slice none 0 0, .slice (yg123 15 0).a 1 (yg123 15 0).c, .bool false]⟩) none [] H rfl (by kernel_rfl) (fun q e => by cases e)) ?_
        rintro v w2 ⟨rfl, hq⟩
        replace hS : SH M X w [Ent.own 5 (tI .u8) ([6] : List Int) (yg123 15 0)] _ := hS.below hq.below
        rw [hX] at hS
        exact ⟨gL [], fun _ _ => rfl, hS.sel [0] rfl⟩
      · intro o ho a w yg123 M Hb hv hO hS0
        obtain rfl := Option.some.inj ho
        have H : Fr 57 ([(54, [], .agg ⟨[.string ⟨⟨[111, 114, 100, 101, 114]⟩⟩, .bool false, .int .u8 6, .string ⟨⟨[]⟩⟩, .int .i64 0, .int .u8 0, .int .u8 0, .int .u8 0, .int .u8 0, .slice none 0 0, .slice (yg123 15 0).a 1 (yg123 15 0).c, .bool false]⟩), (51, [], .agg ⟨[.string ⟨⟨[122, 45, 105, 110, 100, 101, 120]⟩⟩, .bool false, .int .u8 y3.Kind, .string ⟨⟨y3.Word⟩⟩, .int .i64 y3.Num, .int .u8 y3.Color.Red, .int .u8 y3.Color.Green, .int .u8 y3.Color.Blue, .int .u8 y3.Color.Alpha, .slice (yg123 11 0).a 1 (yg123 11 0).c, .slice (yg123 12 0).a 1 (yg123 12 0).c, .bool false]⟩), (47, [], .agg ⟨[.string ⟨⟨[111, 112, 97, 99, 105, 116, 121]⟩⟩, .bool false, .int .u8 5, .string ⟨⟨[]⟩⟩, .int .i64 1000, .int .u8 0, .int .u8 0, .int .u8 0, .int .u8 0, .slice none 0 0, .slice (yg123 8 0).a 1 (yg123 8 0).c, .bool false]⟩), (44, [], .agg ⟨[.string ⟨⟨y138.Name⟩⟩, .bool y138.Inherited, .int .u8 y138.Initial.Kind, .string ⟨⟨y138.Initial.Word⟩⟩, .int .i64 y138.Initial.Num, .int .u8 y138.Initial.Color.Red, .int .u8 y138.Initial.Color.Green, .int .u8 y138.Initial.Color.Blue, .int .u8 y138.Initial.Color.Alpha, .slice (yg123 6 0).a y138.Words.length (yg123 6 0).c, .slice (yg123 6 1).a y138.Kinds.length (yg123 6 1).c, .bool y138.Least]⟩), (43, [], .agg ⟨[.string ⟨⟨y133.Name⟩⟩, .bool y133.Inherited, .int .u8 y133.Initial.Kind, .string ⟨⟨y133.Initial.Word⟩⟩, .int .i64 y133.Initial.Num, .int .u8 y133.Initial.Color.Red, .int .u8 y133.Initial.Color.Green, .int .u8 y133.Initial.Color.Blue, .int .u8 y133.Initial.Color.Alpha, .slice (yg123 5 0).a y133.Words.length (yg123 5 0).c, .slice (yg123 5 1).a y133.Kinds.length (yg123 5 1).c, .bool y133.Least]⟩), (40, [], .agg ⟨[.string ⟨⟨y125.Name⟩⟩, .bool y125.Inherited, .int .u8 y125.Initial.Kind, .string ⟨⟨y125.Initial.Word⟩⟩, .int .i64 y125.Initial.Num, .int .u8 y125.Initial.Color.Red, .int .u8 y125.Initial.Color.Green, .int .u8 y125.Initial.Color.Blue, .int .u8 y125.Initial.Color.Alpha, .slice (yg123 2 0).a y125.Words.length (yg123 2 0).c, .slice (yg123 2 1).a y125.Kinds.length (yg123 2 1).c, .bool y125.Least]⟩)] ++ [(1, [], .pointer (some ⟨b6, 0, none⟩)), (3, [], .slice g122.a z81.length g122.c)]) _ := ((((((Hb).add (hv 2 (by decide) (by decide) 40 rfl)).add (hv 5 (by decide) (by decide) 43 rfl)).add (hv 6 (by decide) (by decide) 44 rfl)).add (hv 9 (by decide) (by decide) 47 rfl)).add (hv 13 (by decide) (by decide) 51 rfl)).add (hv 16 (by decide) (by decide) 54 rfl)
        obtain ⟨X, hX⟩ : ∃ X, X = fpl [Ent.own 9 tS y125.Words (yg123 2 0), Ent.own 5 (tI .u8) y125.Kinds (yg123 2 1), Ent.im (tI .u8) ([] : List Int) (.nil), Ent.own 9 tS y133.Words (yg123 5 0), Ent.own 5 (tI .u8) y133.Kinds (yg123 5 1), Ent.im (tI .u8) ([5] : List Int) (yg123 4 0), Ent.own 9 tS y138.Words (yg123 6 0), Ent.own 5 (tI .u8) y138.Kinds (yg123 6 1), Ent.own 5 (tI .u8) ([5] : List Int) (yg123 8 0), Ent.own 9 tS ([[97, 117, 116, 111]] : List Str) (yg123 11 0), Ent.own 5 (tI .u8) ([6] : List Int) (yg123 12 0), Ent.own 5 (tI .u8) ([6] : List Int) (yg123 15 0)] := ⟨_, rfl⟩
        have hS : SH M X w [Ent.own 9 tS y125.Words (yg123 2 0), Ent.own 5 (tI .u8) y125.Kinds (yg123 2 1), Ent.im (tI .u8) ([] : List Int) (.nil), Ent.own 9 tS y133.Words (yg123 5 0), Ent.own 5 (tI .u8) y133.Kinds (yg123 5 1), Ent.im (tI .u8) ([5] : List Int) (yg123 4 0), Ent.own 9 tS y138.Words (yg123 6 0), Ent.own 5 (tI .u8) y138.Kinds (yg123 6 1), Ent.own 5 (tI .u8) ([5] : List Int) (yg123 8 0), Ent.own 9 tS ([[97, 117, 116, 111]] : List Str) (yg123 11 0), Ent.own 5 (tI .u8) ([6] : List Int) (yg123 12 0), Ent.own 5 (tI .u8) ([6] : List Int) (yg123 15 0)] w := by rw [hX]; exact hS0
        replace hS : SH M X w [Ent.im tS y125.Words (yg123 2 0), Ent.own 5 (tI .u8) y125.Kinds (yg123 2 1), Ent.im (tI .u8) ([] : List Int) (.nil), Ent.own 9 tS y133.Words (yg123 5 0), Ent.own 5 (tI .u8) y133.Kinds (yg123 5 1), Ent.im (tI .u8) ([5] : List Int) (yg123 4 0), Ent.own 9 tS y138.Words (yg123 6 0), Ent.own 5 (tI .u8) y138.Kinds (yg123 6 1), Ent.own 5 (tI .u8) ([5] : List Int) (yg123 8 0), Ent.own 9 tS ([[97, 117, 116, 111]] : List Str) (yg123 11 0), Ent.own 5 (tI .u8) ([6] : List Int) (yg123 12 0), Ent.own 5 (tI .u8) ([6] : List Int) (yg123 15 0)] _ := SH.frz1 (hS.sel [0, 1, 2, 3, 4, 5, 6, 7, 8, 9, 10, 11] rfl)
        replace hS : SH M X w [Ent.im (tI .u8) y125.Kinds (yg123 2 1), Ent.im tS y125.Words (yg123 2 0), Ent.im (tI .u8) ([] : List Int) (.nil), Ent.own 9 tS y133.Words (yg123 5 0), Ent.own 5 (tI .u8) y133.Kinds (yg123 5 1), Ent.im (tI .u8) ([5] : List Int) (yg123 4 0), Ent.own 9 tS y138.Words (yg123 6 0), Ent.own 5 (tI .u8) y138.Kinds (yg123 6 1), Ent.own 5 (tI .u8) ([5] : List Int) (yg123 8 0), Ent.own 9 tS ([[97, 117, 116, 111]] : List Str) (yg123 11 0), Ent.own 5 (tI .u8) ([6] : List Int) (yg123 12 0), Ent.own 5 (tI .u8) ([6] : List Int) (yg123 15 0)] _ := SH.frz1 (hS.sel [1, 0, 2, 3, 4, 5, 6, 7, 8, 9, 10, 11] rfl)
        replace hS : SH M X w [Ent.im tS y133.Words (yg123 5 0), Ent.im (tI .u8) y125.Kinds (yg123 2 1), Ent.im tS y125.Words (yg123 2 0), Ent.im (tI .u8) ([] : List Int) (.nil), Ent.own 5 (tI .u8) y133.Kinds (yg123 5 1), Ent.im (tI .u8) ([5] : List Int) (yg123 4 0), Ent.own 9 tS y138.Words (yg123 6 0), Ent.own 5 (tI .u8) y138.Kinds (yg123 6 1), Ent.own 5 (tI .u8) ([5] : List Int) (yg123 8 0), Ent.own 9 tS ([[97, 117, 116, 111]] : List Str) (yg123 11 0), Ent.own 5 (tI .u8) ([6] : List Int) (yg123 12 0), Ent.own 5 (tI .u8) ([6] : List Int) (yg123 15 0)] _ := SH.frz1 (hS.sel [3, 0, 1, 2, 4, 5, 6, 7, 8, 9, 10, 11] rfl)
        replace hS : SH M X w [Ent.im (tI .u8) y133.Kinds (yg123 5 1), Ent.im tS y133.Words (yg123 5 0), Ent.im (tI .u8) y125.Kinds (yg123 2 1), Ent.im tS y125.Words (yg123 2 0), Ent.im (tI .u8) ([] : List Int) (.nil), Ent.im (tI .u8) ([5] : List Int) (yg123 4 0), Ent.own 9 tS y138.Words (yg123 6 0), Ent.own 5 (tI .u8) y138.Kinds (yg123 6 1), Ent.own 5 (tI .u8) ([5] : List Int) (yg123 8 0), Ent.own 9 tS ([[97, 117, 116, 111]] : List Str) (yg123 11 0), Ent.own 5 (tI .u8) ([6] : List Int) (yg123 12 0), Ent.own 5 (tI .u8) ([6] : List Int) (yg123 15 0)] _ := SH.frz1 (hS.sel [4, 0, 1, 2, 3, 5, 6, 7, 8, 9, 10, 11] rfl)
        replace hS : SH M X w [Ent.im tS y138.Words (yg123 6 0), Ent.im (tI .u8) y133.Kinds (yg123 5 1), Ent.im tS y133.Words (yg123 5 0), Ent.im (tI .u8) y125.Kinds (yg123 2 1), Ent.im tS y125.Words (yg123 2 0), Ent.im (tI .u8) ([] : List Int) (.nil), Ent.im (tI .u8) ([5] : List Int) (yg123 4 0), Ent.own 5 (tI .u8) y138.Kinds (yg123 6 1), Ent.own 5 (tI .u8) ([5] : List Int) (yg123 8 0), Ent.own 9 tS ([[97, 117, 116, 111]] : List Str) (yg123 11 0), Ent.own 5 (tI .u8) ([6] : List Int) (yg123 12 0), Ent.own 5 (tI .u8) ([6] : List Int) (yg123 15 0)] _ := SH.frz1 (hS.sel [6, 0, 1, 2, 3, 4, 5, 7, 8, 9, 10, 11] rfl)
        replace hS : SH M X w [Ent.im (tI .u8) y138.Kinds (yg123 6 1), Ent.im tS y138.Words (yg123 6 0), Ent.im (tI .u8) y133.Kinds (yg123 5 1), Ent.im tS y133.Words (yg123 5 0), Ent.im (tI .u8) y125.Kinds (yg123 2 1), Ent.im tS y125.Words (yg123 2 0), Ent.im (tI .u8) ([] : List Int) (.nil), Ent.im (tI .u8) ([5] : List Int) (yg123 4 0), Ent.own 5 (tI .u8) ([5] : List Int) (yg123 8 0), Ent.own 9 tS ([[97, 117, 116, 111]] : List Str) (yg123 11 0), Ent.own 5 (tI .u8) ([6] : List Int) (yg123 12 0), Ent.own 5 (tI .u8) ([6] : List Int) (yg123 15 0)] _ := SH.frz1 (hS.sel [7, 0, 1, 2, 3, 4, 5, 6, 8, 9, 10, 11] rfl)
        replace hS : SH M X w [Ent.im (tI .u8) ([5] : List Int) (yg123 8 0), Ent.im (tI .u8) y138.Kinds (yg123 6 1), Ent.im tS y138.Words (yg123 6 0), Ent.im (tI .u8) y133.Kinds (yg123 5 1), Ent.im tS y133.Words (yg123 5 0), Ent.im (tI .u8) y125.Kinds (yg123 2 1), Ent.im tS y125.Words (yg123 2 0), Ent.im (tI .u8) ([] : List Int) (.nil), Ent.im (tI .u8) ([5] : List Int) (yg123 4 0), Ent.own 9 tS ([[97, 117, 116, 111]] : List Str) (yg123 11 0), Ent.own 5 (tI .u8) ([6] : List Int) (yg123 12 0), Ent.own 5 (tI .u8) ([6] : List Int) (yg123 15 0)] _ := SH.frz1 (hS.sel [8, 0, 1, 2, 3, 4, 5, 6, 7, 9, 10, 11] rfl)
        replace hS : SH M X w [Ent.im tS ([[97, 117, 116, 111]] : List Str) (yg123 11 0), Ent.im (tI .u8) ([5] : List Int) (yg123 8 0), Ent.im (tI .u8) y138.Kinds (yg123 6 1), Ent.im tS y138.Words (yg123 6 0), Ent.im (tI .u8) y133.Kinds (yg123 5 1), Ent.im tS y133.Words (yg123 5 0), Ent.im (tI .u8) y125.Kinds (yg123 2 1), Ent.im tS y125.Words (yg123 2 0), Ent.im (tI .u8) ([] : List Int) (.nil), Ent.im (tI .u8) ([5] : List Int) (yg123 4 0), Ent.own 5 (tI .u8) ([6] : List Int) (yg123 12 0), Ent.own 5 (tI .u8) ([6] : List Int) (yg123 15 0)] _ := SH.frz1 (hS.sel [9, 0, 1, 2, 3, 4, 5, 6, 7, 8, 10, 11] rfl)
        replace hS : SH M X w [Ent.im (tI .u8) ([6] : List Int) (yg123 12 0), Ent.im tS ([[97, 117, 116, 111]] : List Str) (yg123 11 0), Ent.im (tI .u8) ([5] : List Int) (yg123 8 0), Ent.im (tI .u8) y138.Kinds (yg123 6 1), Ent.im tS y138.Words (yg123 6 0), Ent.im (tI .u8) y133.Kinds (yg123 5 1), Ent.im tS y133.Words (yg123 5 0), Ent.im (tI .u8) y125.Kinds (yg123 2 1), Ent.im tS y125.Words (yg123 2 0), Ent.im (tI .u8) ([] : List Int) (.nil), Ent.im (tI .u8) ([5] : List Int) (yg123 4 0), Ent.own 5 (tI .u8) ([6] : List Int) (yg123 15 0)] _ := SH.frz1 (hS.sel [10, 0, 1, 2, 3, 4, 5, 6, 7, 8, 9, 11] rfl)
        replace hS : SH M X w [Ent.im (tI .u8) ([6] : List Int) (yg123 15 0), Ent.im (tI .u8) ([6] : List Int) (yg123 12 0), Ent.im tS ([[97, 117, 116, 111]] : List Str) (yg123 11 0), Ent.im (tI .u8) ([5] : List Int) (yg123 8 0), Ent.im (tI .u8) y138.Kinds (yg123 6 1), Ent.im tS y138.Words (yg123 6 0), Ent.im (tI .u8) y133.Kinds (yg123 5 1), Ent.im tS y133.Words (yg123 5 0), Ent.im (tI .u8) y125.Kinds (yg123 2 1), Ent.im tS y125.Words (yg123 2 0), Ent.im (tI .u8) ([] : List Int) (.nil), Ent.im (tI .u8) ([5] : List Int) (yg123 4 0)] _ := SH.frz1 (hS.sel [11, 0, 1, 2, 3, 4, 5, 6, 7, 8, 9, 10] rfl)
        have hd : S0 (AvL M [Ent.im (tI .u8) ([6] : List Int) (yg123 15 0), Ent.im (tI .u8) ([6] : List Int) (yg123 12 0), Ent.im tS ([[97, 117, 116, 111]] : List Str) (yg123 11 0), Ent.im (tI .u8) ([5] : List Int) (yg123 8 0), Ent.im (tI .u8) y138.Kinds (yg123 6 1), Ent.im tS y138.Words (yg123 6 0), Ent.im (tI .u8) y133.Kinds (yg123 5 1), Ent.im tS y133.Words (yg123 5 0), Ent.im (tI .u8) y125.Kinds (yg123 2 1), Ent.im tS y125.Words (yg123 2 0), Ent.im (tI .u8) ([] : List Int) (.nil), Ent.im (tI .u8) ([5] : List Int) (yg123 4 0)]) [Ent.im tS y125.Words (yg123 2 0), Ent.im (tI .u8) y125.Kinds (yg123 2 1), Ent.im tS y133.Words (yg123 5 0), Ent.im (tI .u8) y133.Kinds (yg123 5 1), Ent.im tS y138.Words (yg123 6 0), Ent.im (tI .u8) y138.Kinds (yg123 6 1), Ent.im (tI .u8) ([5] : List Int) (yg123 8 0), Ent.im tS ([[97, 117, 116, 111]] : List Str) (yg123 11 0), Ent.im (tI .u8) ([6] : List Int) (yg123 12 0), Ent.im (tI .u8) ([6] : List Int) (yg123 15 0)] _ := hS.hand [9, 8, 7, 6, 5, 4, 3, 2, 1, 0] [0, 1, 2, 3, 4, 5, 6, 7, 8, 9, 10, 11] rfl rfl
        refine Stp.mono (o_lit (T := tyProp) (E := 51) (zv := .agg ⟨[.string ⟨⟨[]⟩⟩, .bool false, .int .u8 0, .string ⟨⟨[]⟩⟩, .int .i64 0, .int .u8 0, .int .u8 0, .int .u8 0, .int .u8 0, .slice none 0 0, .slice none 0 0, .bool false]⟩) [.string ⟨⟨y125.Name⟩⟩, .bool y125.Inherited, .int .u8 y125.Initial.Kind, .string ⟨⟨y125.Initial.Word⟩⟩, .int .i64 y125.Initial.Num, .int .u8 y125.Initial.Color.Red, .int .u8 y125.Initial.Color.Green, .int .u8 y125.Initial.Color.Blue, .int .u8 y125.Initial.Color.Alpha, .slice (yg123 2 0).a y125.Words.length (yg123 2 0).c, .slice (yg123 2 1).a y125.Kinds.length (yg123 2 1).c, .bool y125.Least, .string ⟨⟨y133.Name⟩⟩, .bool y133.Inherited, .int .u8 y133.Initial.Kind, .string ⟨⟨y133.Initial.Word⟩⟩, .int .i64 y133.Initial.Num, .int .u8 y133.Initial.Color.Red, .int .u8 y133.Initial.Color.Green, .int .u8 y133.Initial.Color.Blue, .int .u8 y133.Initial.Color.Alpha, .slice (yg123 5 0).a y133.Words.length (yg123 5 0).c, .slice (yg123 5 1).a y133.Kinds.length (yg123 5 1).c, .bool y133.Least, .string ⟨⟨y138.Name⟩⟩, .bool y138.Inherited, .int .u8 y138.Initial.Kind, .string ⟨⟨y138.Initial.Word⟩⟩, .int .i64 y138.Initial.Num, .int .u8 y138.Initial.Color.Red, .int .u8 y138.Initial.Color.Green, .int .u8 y138.Initial.Color.Blue, .int .u8 y138.Initial.Color.Alpha, .slice (yg123 6 0).a y138.Words.length (yg123 6 0).c, .slice (yg123 6 1).a y138.Kinds.length (yg123 6 1).c, .bool y138.Least, .string ⟨⟨[111, 112, 97, 99, 105, 116, 121]⟩⟩, .bool false, .int .u8 5, .string ⟨⟨[]⟩⟩, .int .i64 1000, .int .u8 0, .int .u8 0, .int .u8 0, .int .u8 0, .slice none 0 0, .slice (yg123 8 0).a 1 (yg123 8 0).c, .bool false, .string ⟨⟨[122, 45, 105, 110, 100, 101, 120]⟩⟩, .bool false, .int .u8 y3.Kind, .string ⟨⟨y3.Word⟩⟩, .int .i64 y3.Num, .int .u8 y3.Color.Red, .int .u8 y3.Color.Green, .int .u8 y3.Color.Blue, .int .u8 y3.Color.Alpha, .slice (yg123 11 0).a 1 (yg123 11 0).c, .slice (yg123 12 0).a 1 (yg123 12 0).c, .bool false, .string ⟨⟨[111, 114, 100, 101, 114]⟩⟩, .bool false, .int .u8 6, .string ⟨⟨[]⟩⟩, .int .i64 0, .int .u8 0, .int .u8 0, .int .u8 0, .int .u8 0, .slice none 0 0, .slice (yg123 15 0).a 1 (yg123 15 0).c, .bool false] ([y125, y133, y138, (TProp.mk [111, 112, 97, 99, 105, 116, 121] false (TVal.mk 5 [] 1000 (TColor.mk 0 0 0 0)) [] ([5] : List Int) false), (TProp.mk [122, 45, 105, 110, 100, 101, 120] false y3 ([[97, 117, 116, 111]] : List Str) ([6] : List Int) false), (TProp.mk [111, 114, 100, 101, 114] false (TVal.mk 6 [] 0 (TColor.mk 0 0 0 0)) [] ([6] : List Int) false)] : List TProp) [gL [(yg123 2 0), (yg123 2 1)], gL [(yg123 5 0), (yg123 5 1)], gL [(yg123 6 0), (yg123 6 1)], gL [Gh.nil, (yg123 8 0)], gL [(yg123 11 0), (yg123 12 0)], gL [Gh.nil, (yg123 15 0)]] _ H hd rfl (by kernel_rfl) (by kernel_rfl) (by kernel_rfl) (by kernel_rfl) (by kernel_rfl) (by kernel_rfl) (by kernel_rfl) rfl (InnL.cons (tyProp_mk (hd.im 0 rfl) (hd.im 1 rfl)) (InnL.cons (tyProp_mk (hd.im 2 rfl) (hd.im 3 rfl)) (InnL.cons (tyProp_mk (hd.im 4 rfl) (hd.im 5 rfl)) (InnL.cons (tyProp_mk SlG.nil (hd.im 6 rfl)) (InnL.cons (tyProp_mk (hd.im 7 rfl) (hd.im 8 rfl)) (InnL.cons (tyProp_mk SlG.nil (hd.im 9 rfl)) InnL.nil))))))) ?_
        rintro v w2 hq
        obtain ⟨g151, rfl, hq⟩ := hq
        replace hS : SH M X w [Ent.own 51 tyProp ([y125, y133, y138, (TProp.mk [111, 112, 97, 99, 105, 116, 121] false (TVal.mk 5 [] 1000 (TColor.mk 0 0 0 0)) [] ([5] : List Int) false), (TProp.mk [122, 45, 105, 110, 100, 101, 120] false y3 ([[97, 117, 116, 111]] : List Str) ([6] : List Int) false), (TProp.mk [111, 114, 100, 101, 114] false (TVal.mk 6 [] 0 (TColor.mk 0 0 0 0)) [] ([6] : List Int) false)] : List TProp) g151, Ent.im (tI .u8) ([6] : List Int) (yg123 15 0), Ent.im (tI .u8) ([6] : List Int) (yg123 12 0), Ent.im tS ([[97, 117, 116, 111]] : List Str) (yg123 11 0), Ent.im (tI .u8) ([5] : List Int) (yg123 8 0), Ent.im (tI .u8) y138.Kinds (yg123 6 1), Ent.im tS y138.Words (yg123 6 0), Ent.im (tI .u8) y133.Kinds (yg123 5 1), Ent.im tS y133.Words (yg123 5 0), Ent.im (tI .u8) y125.Kinds (yg123 2 1), Ent.im tS y125.Words (yg123 2 0), Ent.im (tI .u8) ([] : List Int) (.nil), Ent.im (tI .u8) ([5] : List Int) (yg123 4 0)] _ := hS.join [9, 8, 7, 6, 5, 4, 3, 2, 1, 0] [0, 1, 2, 3, 4, 5, 6, 7, 8, 9, 10, 11] rfl rfl hq
        clear hq
        rw [hX] at hS
        exact ⟨gL [g151], fun _ _ => rfl, hS.sel [0, 1, 2, 3, 4, 5, 6, 7, 8, 9, 10, 11, 12] rfl⟩
      · intro o ho a w yg123 M Hb hv hO hS0
        obtain rfl := Option.some.inj ho
        have H : Fr 57 ([(55, [], .slice (yg123 17 0).a 6 (yg123 17 0).c), (38, [], .slice g122.a z81.length g122.c)] ++ [(1, [], .pointer (some ⟨b6, 0, none⟩)), (3, [], .slice g122.a z81.length g122.c)]) _ := ((Hb).add (hv 0 (by decide) (by decide) 38 rfl)).add (hv 17 (by decide) (by decide) 55 rfl)
        obtain ⟨X, hX⟩ : ∃ X, X = fpl [Ent.own 51 tyProp ([y125, y133, y138, (TProp.mk [111, 112, 97, 99, 105, 116, 121] false (TVal.mk 5 [] 1000 (TColor.mk 0 0 0 0)) [] ([5] : List Int) false), (TProp.mk [122, 45, 105, 110, 100, 101, 120] false y3 ([[97, 117, 116, 111]] : List Str) ([6] : List Int) false), (TProp.mk [111, 114, 100, 101, 114] false (TVal.mk 6 [] 0 (TColor.mk 0 0 0 0)) [] ([6] : List Int) false)] : List TProp) (yg123 17 0), Ent.im (tI .u8) ([6] : List Int) (yg123 15 0), Ent.im (tI .u8) ([6] : List Int) (yg123 12 0), Ent.im tS ([[97, 117, 116, 111]] : List Str) (yg123 11 0), Ent.im (tI .u8) ([5] : List Int) (yg123 8 0), Ent.im (tI .u8) y138.Kinds (yg123 6 1), Ent.im tS y138.Words (yg123 6 0), Ent.im (tI .u8) y133.Kinds (yg123 5 1), Ent.im tS y133.Words (yg123 5 0), Ent.im (tI .u8) y125.Kinds (yg123 2 1), Ent.im tS y125.Words (yg123 2 0), Ent.im (tI .u8) ([] : List Int) (.nil), Ent.im (tI .u8) ([5] : List Int) (yg123 4 0), Ent.own 51 tyProp z81 g122] := ⟨_, rfl⟩
        have hS : SH M X w [Ent.own 51 tyProp ([y125, y133, y138, (TProp.mk [111, 112, 97, 99, 105, 116, 121] false (TVal.mk 5 [] 1000 (TColor.mk 0 0 0 0)) [] ([5] : List Int) false), (TProp.mk [122, 45, 105, 110, 100, 101, 120] false y3 ([[97, 117, 116, 111]] : List Str) ([6] : List Int) false), (TProp.mk [111, 114, 100, 101, 114] false (TVal.mk 6 [] 0 (TColor.mk 0 0 0 0)) [] ([6] : List Int) false)] : List TProp) (yg123 17 0), Ent.im (tI .u8) ([6] : List Int) (yg123 15 0), Ent.im (tI .u8) ([6] : List Int) (yg123 12 0), Ent.im tS ([[97, 117, 116, 111]] : List Str) (yg123 11 0), Ent.im (tI .u8) ([5] : List Int) (yg123 8 0), Ent.im (tI .u8) y138.Kinds (yg123 6 1), Ent.im tS y138.Words (yg123 6 0), Ent.im (tI .u8) y133.Kinds (yg123 5 1), Ent.im tS y133.Words (yg123 5 0), Ent.im (tI .u8) y125.Kinds (yg123 2 1), Ent.im tS y125.Words (yg123 2 0), Ent.im (tI .u8) ([] : List Int) (.nil), Ent.im (tI .u8) ([5] : List Int) (yg123 4 0), Ent.own 51 tyProp z81 g122] w := by rw [hX]; exact hS0
        have hd : S0 (AvL M [Ent.im (tI .u8) ([6] : List Int) (yg123 15 0), Ent.im (tI .u8) ([6] : List Int) (yg123 12 0), Ent.im tS ([[97, 117, 116, 111]] : List Str) (yg123 11 0), Ent.im (tI .u8) ([5] : List Int) (yg123 8 0), Ent.im (tI .u8) y138.Kinds (yg123 6 1), Ent.im tS y138.Words (yg123 6 0), Ent.im (tI .u8) y133.Kinds (yg123 5 1), Ent.im tS y133.Words (yg123 5 0), Ent.im (tI .u8) y125.Kinds (yg123 2 1), Ent.im tS y125.Words (yg123 2 0), Ent.im (tI .u8) ([] : List Int) (.nil), Ent.im (tI .u8) ([5] : List Int) (yg123 4 0)]) [Ent.own 51 tyProp z81 g122, Ent.own 51 tyProp ([y125, y133, y138, (TProp.mk [111, 112, 97, 99, 105, 116, 121] false (TVal.mk 5 [] 1000 (TColor.mk 0 0 0 0)) [] ([5] : List Int) false), (TProp.mk [122, 45, 105, 110, 100, 101, 120] false y3 ([[97, 117, 116, 111]] : List Str) ([6] : List Int) false), (TProp.mk [111, 114, 100, 101, 114] false (TVal.mk 6 [] 0 (TColor.mk 0 0 0 0)) [] ([6] : List Int) false)] : List TProp) (yg123 17 0)] _ := hS.hand [13, 0] [1, 2, 3, 4, 5, 6, 7, 8, 9, 10, 11, 12] rfl rfl
        refine Stp.mono (o_app2 (T := tyProp) (zv := .agg ⟨[.string ⟨⟨[]⟩⟩, .bool false, .int .u8 0, .string ⟨⟨[]⟩⟩, .int .i64 0, .int .u8 0, .int .u8 0, .int .u8 0, .int .u8 0, .slice none 0 0, .slice none 0 0, .bool false]⟩) (g1 := g122) (g2 := (yg123 17 0)) (l1 := z81) (l2 := ([y125, y133, y138, (TProp.mk [111, 112, 97, 99, 105, 116, 121] false (TVal.mk 5 [] 1000 (TColor.mk 0 0 0 0)) [] ([5] : List Int) false), (TProp.mk [122, 45, 105, 110, 100, 101, 120] false y3 ([[97, 117, 116, 111]] : List Str) ([6] : List Int) false), (TProp.mk [111, 114, 100, 101, 114] false (TVal.mk 6 [] 0 (TColor.mk 0 0 0 0)) [] ([6] : List Int) false)] : List TProp)) q154 hq154.symm H hd rfl rfl rfl rfl rfl rfl rfl (by kernel_rfl) (by kernel_rfl) rfl rfl ho153) ?_
        rintro v w2 hq
        obtain ⟨g155, rfl, hq⟩ := hq
        replace hS : SH M X w [Ent.own 51 tyProp q154 g155, Ent.own 51 tyProp ([y125, y133, y138, (TProp.mk [111, 112, 97, 99, 105, 116, 121] false (TVal.mk 5 [] 1000 (TColor.mk 0 0 0 0)) [] ([5] : List Int) false), (TProp.mk [122, 45, 105, 110, 100, 101, 120] false y3 ([[97, 117, 116, 111]] : List Str) ([6] : List Int) false), (TProp.mk [111, 114, 100, 101, 114] false (TVal.mk 6 [] 0 (TColor.mk 0 0 0 0)) [] ([6] : List Int) false)] : List TProp) (yg123 17 0), Ent.im (tI .u8) ([6] : List Int) (yg123 15 0), Ent.im (tI .u8) ([6] : List Int) (yg123 12 0), Ent.im tS ([[97, 117, 116, 111]] : List Str) (yg123 11 0), Ent.im (tI .u8) ([5] : List Int) (yg123 8 0), Ent.im (tI .u8) y138.Kinds (yg123 6 1), Ent.im tS y138.Words (yg123 6 0), Ent.im (tI .u8) y133.Kinds (yg123 5 1), Ent.im tS y133.Words (yg123 5 0), Ent.im (tI .u8) y125.Kinds (yg123 2 1), Ent.im tS y125.Words (yg123 2 0), Ent.im (tI .u8) ([] : List Int) (.nil), Ent.im (tI .u8) ([5] : List Int) (yg123 4 0)] _ := hS.join [13, 0] [1, 2, 3, 4, 5, 6, 7, 8, 9, 10, 11, 12] rfl rfl hq
        clear hq
        rw [hX] at hS
        exact ⟨gL [g155], fun _ _ => rfl, hS.sel [0, 1, 2, 3, 4, 5, 6, 7, 8, 9, 10, 11, 12, 13] rfl⟩
      · intro o ho a w yg123 M Hb hv hO hS0
        obtain rfl := Option.some.inj ho
        have H : Fr 57 ([(56, [], .slice (yg123 18 0).a q154.length (yg123 18 0).c)] ++ [(1, [], .pointer (some ⟨b6, 0, none⟩)), (3, [], .slice g122.a z81.length g122.c)]) _ := (Hb).add (hv 18 (by decide) (by decide) 56 rfl)
        obtain ⟨X, hX⟩ : ∃ X, X = fpl [Ent.own 51 tyProp q154 (yg123 18 0)] := ⟨_, rfl⟩
        have hS : SH M X w [Ent.own 51 tyProp q154 (yg123 18 0)] w := by rw [hX]; exact hS0
        refine Stp.mono (o_evs [] (.slice (yg123 18 0).a q154.length (yg123 18 0).c) none [] H rfl (by kernel_rfl) (fun q e => by cases e)) ?_
        rintro v w2 ⟨rfl, hq⟩
        replace hS : SH M X w [Ent.own 51 tyProp q154 (yg123 18 0)] _ := hS.below hq.below
        rw [hX] at hS
        exact ⟨gL [], fun _ _ => rfl, hS.sel [0] rfl⟩
    have H158 : Fr 57 [(0, [], .slice (yg123 18 0).a q154.length (yg123 18 0).c)] _ := (Fr.add (Fr.keep (ks := []) H157 (by kernel_rfl)) (hv 19 0 rfl))
    replace hS : SH M X w [Ent.own 51 tyProp ([y125, y133, y138, (TProp.mk [111, 112, 97, 99, 105, 116, 121] false (TVal.mk 5 [] 1000 (TColor.mk 0 0 0 0)) [] ([5] : List Int) false), (TProp.mk [122, 45, 105, 110, 100, 101, 120] false y3 ([[97, 117, 116, 111]] : List Str) ([6] : List Int) false), (TProp.mk [111, 114, 100, 101, 114] false (TVal.mk 6 [] 0 (TColor.mk 0 0 0 0)) [] ([6] : List Int) false)] : List TProp) (yg123 17 0), Ent.im (tI .u8) ([6] : List Int) (yg123 15 0), Ent.im (tI .u8) ([6] : List Int) (yg123 12 0), Ent.im tS ([[97, 117, 116, 111]] : List Str) (yg123 11 0), Ent.im (tI .u8) ([5] : List Int) (yg123 8 0), Ent.im (tI .u8) y138.Kinds (yg123 6 1), Ent.im tS y138.Words (yg123 6 0), Ent.im (tI .u8) y133.Kinds (yg123 5 1), Ent.im tS y133.Words (yg123 5 0), Ent.im (tI .u8) y125.Kinds (yg123 2 1), Ent.im tS y125.Words (yg123 2 0), Ent.im (tI .u8) ([] : List Int) (.nil), Ent.im (tI .u8) ([5] : List Int) (yg123 4 0), Ent.own 51 tyProp q154 (yg123 18 0), Ent.blk b6 [.int .u8 y3.Kind, .string ⟨⟨y3.Word⟩⟩, .int .i64 y3.Num, .int .u8 y3.Color.Red, .int .u8 y3.Color.Green, .int .u8 y3.Color.Blue, .int .u8 y3.Color.Alpha], Ent.im (tI .u8) gl_strings_asciiSpace (Gh.mk (some ⟨0, 0, none⟩) 256 fun _ _ => .nil)] _ := hS
    clear hv H157
    generalize yg123 18 0 = g159 at H158 hS
    generalize yg123 17 0 = g160 at H158 hS
    generalize yg123 15 0 = g161 at H158 hS
    generalize yg123 12 0 = g162 at H158 hS
    generalize yg123 11 0 = g163 at H158 hS
    generalize yg123 8 0 = g164 at H158 hS
    generalize yg123 6 1 = g165 at H158 hS
    generalize yg123 6 0 = g166 at H158 hS
    generalize yg123 5 1 = g167 at H158 hS
    generalize yg123 5 0 = g168 at H158 hS
    generalize yg123 2 1 = g169 at H158 hS
    generalize yg123 2 0 = g170 at H158 hS
    generalize yg123 4 0 = g171 at H158 hS
    replace hS : SH M X w [Ent.own 51 tyProp q154 g159, Ent.im (tI .u8) gl_strings_asciiSpace (Gh.mk (some ⟨0, 0, none⟩) 256 fun _ _ => .nil)] _ := hS.sel [13, 15] rfl
    refine w_ret ?_
    obtain rfl := someE hm
    exact retR1 H158 rfl rfl ⟨_, rfl, g159, rfl, (hS.sel [0] rfl)⟩
theorem props_Table_ok  (m : Nat)  (r : List TProp) (hm : props_Table m = some r) (M : Av) (w : World) (hS : S0 M [Ent.im (tI .u8) gl_strings_asciiSpace (Gh.mk (some ⟨0, 0, none⟩) 256 fun _ _ => .nil)] w) : DoesX Tryd.prog 22 ⟨[]⟩ w (fun v w' => ∃ (g901 : Gh), v = .slice g901.a r.length g901.c ∧ SH M (fpl [Ent.im (tI .u8) gl_strings_asciiSpace (Gh.mk (some ⟨0, 0, none⟩) 256 fun _ _ => .nil)]) w [Ent.own 51 tyProp r g901] w') := ⟨Tryd.call22 _, props_Table_w M m    r hm w hS⟩

def props_Find_1 (p : TProp) (u0 : Str) : Bool :=
  p.Name == u0
theorem props_Find_1_w {g_p_0 : Gh} {g_p_1 : Gh} {b_u0 : Nat} (M : Av) (p : TProp) (u0 : Str) (r : Bool) (hm : props_Find_1 p u0 = r) (w : World) (hS : S0 M [Ent.im tS p.Words g_p_0, Ent.im (tI .u8) p.Kinds g_p_1, Ent.ro b_u0 [.string ⟨⟨u0⟩⟩]] w) : Calls Tryd.prog 26 ⟨[.agg ⟨[.string ⟨⟨p.Name⟩⟩, .bool p.Inherited, .int .u8 p.Initial.Kind, .string ⟨⟨p.Initial.Word⟩⟩, .int .i64 p.Initial.Num, .int .u8 p.Initial.Color.Red, .int .u8 p.Initial.Color.Green, .int .u8 p.Initial.Color.Blue, .int .u8 p.Initial.Color.Alpha, .slice g_p_0.a p.Words.length g_p_0.c, .slice g_p_1.a p.Kinds.length g_p_1.c, .bool p.Least]⟩, .pointer (some ⟨b_u0, 0, none⟩)]⟩ w (fun e w' => ∃ v, e = .returned v ∧ v = .bool r ∧ SH M (fpl [Ent.im tS p.Words g_p_0, Ent.im (tI .u8) p.Kinds g_p_1, Ent.ro b_u0 [.string ⟨⟨u0⟩⟩]]) w [] w') := by
  rw [props_Find_1] at hm
  have hS0 : SH M (fpl [Ent.im tS p.Words g_p_0, Ent.im (tI .u8) p.Kinds g_p_1, Ent.ro b_u0 [.string ⟨⟨u0⟩⟩]]) w [Ent.im tS p.Words g_p_0, Ent.im (tI .u8) p.Kinds g_p_1, Ent.ro b_u0 [.string ⟨⟨u0⟩⟩]] w := hS
  generalize hX : fpl [Ent.im tS p.Words g_p_0, Ent.im (tI .u8) p.Kinds g_p_1, Ent.ro b_u0 [.string ⟨⟨u0⟩⟩]] = X at hS0 ⊢
  clear hS hX
  have hS := hS0
  clear hS0
  refine calls_entryP Tryd.func26 rfl Tryd.ntmps26 rfl fun _ H => ?_
  refine w_seq ?_
  refine wl_start ?_
  have hd : S0 (AvL M [Ent.im tS p.Words g_p_0, Ent.im (tI .u8) p.Kinds g_p_1, Ent.ro b_u0 [.string ⟨⟨u0⟩⟩]]) [] _ := hS.hand [] [0, 1, 2] rfl rfl
  refine m_stp [2, 1] [(1, [], .pointer (some ⟨b_u0, 0, none⟩))] H rfl rfl rfl rfl (o_box [.string ⟨⟨p.Name⟩⟩, .bool p.Inherited, .int .u8 p.Initial.Kind, .string ⟨⟨p.Initial.Word⟩⟩, .int .i64 p.Initial.Num, .int .u8 p.Initial.Color.Red, .int .u8 p.Initial.Color.Green, .int .u8 p.Initial.Color.Blue, .int .u8 p.Initial.Color.Alpha, .slice g_p_0.a p.Words.length g_p_0.c, .slice g_p_1.a p.Kinds.length g_p_1.c, .bool p.Least] H hd rfl rfl) (fun _ => rfl) fun _ wd2 v H3 hq => ?_
  clear H hd
  obtain ⟨b1, rfl, hq⟩ := hq
  replace hS : SH M X w [Ent.blk b1 [.string ⟨⟨p.Name⟩⟩, .bool p.Inherited, .int .u8 p.Initial.Kind, .string ⟨⟨p.Initial.Word⟩⟩, .int .i64 p.Initial.Num, .int .u8 p.Initial.Color.Red, .int .u8 p.Initial.Color.Green, .int .u8 p.Initial.Color.Blue, .int .u8 p.Initial.Color.Alpha, .slice g_p_0.a p.Words.length g_p_0.c, .slice g_p_1.a p.Kinds.length g_p_1.c, .bool p.Least], Ent.im tS p.Words g_p_0, Ent.im (tI .u8) p.Kinds g_p_1, Ent.ro b_u0 [.string ⟨⟨u0⟩⟩]] _ := hS.join [] [0, 1, 2] rfl rfl hq
  clear hq
  refine wl_batch 1 2 [] [1, 2] [(1, [], .pointer (some ⟨b_u0, 0, none⟩)), (2, [], .pointer (some ⟨b1, 0, none⟩))] [] H3 (by decide) (by kernel_rfl) trivial fun _ wd4 H5 hb => ?_
  clear H3
  replace hS := hS.below hb
  clear hb
  refine wl_end rfl ?_
  refine s_reg [(.string ⟨⟨p.Name⟩⟩), (.string ⟨⟨u0⟩⟩)] [3] [(3, [], .bool (p.Name == u0))] [fun wz => V.at1 ⟨b1, 0, none⟩ (.string ⟨⟨p.Name⟩⟩) wz, fun wz => V.at1 ⟨b_u0, 0, none⟩ (.string ⟨⟨u0⟩⟩) wz] H5 (by kernel_rfl) ⟨((hS.bk 0 rfl).at1 rfl), ((hS.ro 3 rfl).at1 rfl), trivial⟩ fun _ wd6 H7 hb => ?_
  clear H5
  replace hS := hS.below hb
  clear hb
  replace hS : SH M X w [] _ := hS.sel [] rfl
  refine w_ret ?_
  subst hm
  exact retR1 H7 rfl rfl ⟨_, rfl, rfl, (hS.sel [] rfl)⟩
theorem props_Find_1_ok {g_p_0 : Gh} {g_p_1 : Gh} {b_u0 : Nat} (p : TProp) (u0 : Str) (w : World) (hL : S0 F0 [Ent.im tS p.Words g_p_0, Ent.im (tI .u8) p.Kinds g_p_1, Ent.ro b_u0 [.string ⟨⟨u0⟩⟩]] w ∧ fpl [Ent.im tS p.Words g_p_0, Ent.im (tI .u8) p.Kinds g_p_1, Ent.ro b_u0 [.string ⟨⟨u0⟩⟩]] = []) : RetB Tryd.prog 26 ⟨[.agg ⟨[.string ⟨⟨p.Name⟩⟩, .bool p.Inherited, .int .u8 p.Initial.Kind, .string ⟨⟨p.Initial.Word⟩⟩, .int .i64 p.Initial.Num, .int .u8 p.Initial.Color.Red, .int .u8 p.Initial.Color.Green, .int .u8 p.Initial.Color.Blue, .int .u8 p.Initial.Color.Alpha, .slice g_p_0.a p.Words.length g_p_0.c, .slice g_p_1.a p.Kinds.length g_p_1.c, .bool p.Least]⟩, .pointer (some ⟨b_u0, 0, none⟩)]⟩ (.bool (props_Find_1 p u0)) w := retB_of hL (Tryd.call26 _) (fun w' h => props_Find_1_w F0   p u0 _ rfl w' h)

def slices_IndexFunc_api_Prop_api_Prop_L1 (m : Nat) (s : List TProp) (f_c0 : Str) : Nat → Int → Option (Sum (Int) (Unit))
  | 0, _ => none
  | kk + 1, v6 =>
    cond (decide (v6 < (ln s))) (
    chk (0 ≤ v6 ∧ v6 < ln s) <|
    cond (props_Find_1 (gi s v6) f_c0) (
    some (.inl v6)) (
    slices_IndexFunc_api_Prop_api_Prop_L1 m s f_c0 kk (w64 (v6 + 1)))) (
    some (.inr ()))
def slices_IndexFunc_api_Prop_api_Prop (m : Nat) (s : List TProp) (f_c0 : Str) : Option (Int) :=
  Option.bind (
  slices_IndexFunc_api_Prop_api_Prop_L1 m s f_c0 m 0) fun (z3 : Sum (Int) (Unit)) => sumK z3 fun s_z3 =>
  some (-1)
theorem slices_IndexFunc_api_Prop_api_Prop_w {g_s : Gh} {b_f_c0 : Nat} (M : Av) (m : Nat) (s : List TProp) (f_c0 : Str) (r : Int) (hm : slices_IndexFunc_api_Prop_api_Prop m s f_c0 = some r) (w : World) (hS : S0 M [Ent.im tyProp s g_s, Ent.ro b_f_c0 [.string ⟨⟨f_c0⟩⟩]] w) : Calls Tryd.prog 25 ⟨[.slice g_s.a s.length g_s.c, .func (.func 26) ⟨[]⟩ ⟨[.pointer (some ⟨b_f_c0, 0, none⟩)]⟩]⟩ w (fun e w' => ∃ v, e = .returned v ∧ v = .int .i64 r ∧ SH M (fpl [Ent.im tyProp s g_s, Ent.ro b_f_c0 [.string ⟨⟨f_c0⟩⟩]]) w [] w') := by
  rw [slices_IndexFunc_api_Prop_api_Prop] at hm
  have hS0 : SH M (fpl [Ent.im tyProp s g_s, Ent.ro b_f_c0 [.string ⟨⟨f_c0⟩⟩]]) w [Ent.im tyProp s g_s, Ent.ro b_f_c0 [.string ⟨⟨f_c0⟩⟩]] w := hS
  generalize hX : fpl [Ent.im tyProp s g_s, Ent.ro b_f_c0 [.string ⟨⟨f_c0⟩⟩]] = X at hS0 ⊢
  clear hS hX
  have hS := hS0
  clear hS0
  refine calls_entryP Tryd.func25 rfl Tryd.ntmps25 rfl fun _ H => ?_
  refine s_reg [] [0, 1] [(0, [], .slice g_s.a s.length g_s.c), (1, [], .func (.func 26) ⟨[]⟩ ⟨[.pointer (some ⟨b_f_c0, 0, none⟩)]⟩)] [] H (by kernel_rfl) trivial fun _ wd1 H2 hb => ?_
  clear H
  replace hS := hS.below hb
  clear hb
  obtain ⟨z3, hz, hm_z3⟩ := bindE hm
  refine w_cut (fun a' w' => ∃ s_z3 : Unit, z3 = Sum.inr s_z3 ∧ Fr 19 [] a' ∧ SH M X w [Ent.im tyProp s g_s, Ent.ro b_f_c0 [.string ⟨⟨f_c0⟩⟩]] w') ?_ ?_
  · replace hm := hz
    refine s_reg [] [0, 1, 7, 8] [(0, [], .slice g_s.a s.length g_s.c), (1, [], .func (.func 26) ⟨[]⟩ ⟨[.pointer (some ⟨b_f_c0, 0, none⟩)]⟩), (7, [], .int .i64 (ln s)), (8, [], .int .i64 0)] [] H2 (by kernel_rfl) trivial fun _ wd4 H5 hb => ?_
    clear H2
    replace hS := hS.below hb
    clear hb
    refine w_block ?_
    refine w_loop (fun kk a' w' => ∃ (v6 : Int), slices_IndexFunc_api_Prop_api_Prop_L1 m s f_c0 kk v6 = some _ ∧ Fr 19 [(0, [], .slice g_s.a s.length g_s.c), (1, [], .func (.func 26) ⟨[]⟩ ⟨[.pointer (some ⟨b_f_c0, 0, none⟩)]⟩), (7, [], .int .i64 (ln s)), (8, [], .int .i64 v6)] a' ∧ SH M X w [Ent.im tyProp s g_s, Ent.ro b_f_c0 [.string ⟨⟨f_c0⟩⟩]] w') ⟨_, 0, hm, Fr.keep (ks := [0, 1, 7, 8]) H5 (by kernel_rfl), hS⟩ ?_
    clear hm H5 hS
    rintro kk _ wd18 ⟨v6, hm, H, hS⟩
    cases kk with
    | zero => exact noneE hm
    | succ kk =>
      rw [slices_IndexFunc_api_Prop_api_Prop_L1] at hm
      refine s_reg [] [0, 1, 7, 8, 9] [(0, [], .slice g_s.a s.length g_s.c), (1, [], .func (.func 26) ⟨[]⟩ ⟨[.pointer (some ⟨b_f_c0, 0, none⟩)]⟩), (7, [], .int .i64 (ln s)), (8, [], .int .i64 v6), (9, [], .bool (decide (v6 < (ln s))))] [] H (by kernel_rfl) trivial fun _ wd7 H8 hb => ?_
      clear H
      replace hS := hS.below hb
      clear hb
      refine w_seq ?_
      refine w_if H8 rfl (fun hc => ?_) (fun hc => ?_)
      · replace hm := bT hc hm
        refine w_skip ?_
        refine w_seq ?_
        refine w_block ?_
        refine s_reg [] [0, 1, 5, 7, 8] [(0, [], .slice g_s.a s.length g_s.c), (1, [], .func (.func 26) ⟨[]⟩ ⟨[.pointer (some ⟨b_f_c0, 0, none⟩)]⟩), (5, [], .int .i64 v6), (7, [], .int .i64 (ln s)), (8, [], .int .i64 v6)] [] H8 (by kernel_rfl) trivial fun _ wd9 H10 hb => ?_
        clear H8
        replace hS := hS.below hb
        clear hb
        obtain ⟨ho11, hm⟩ := chkE hm
        refine s_reg [(.agg ⟨[.string ⟨⟨(gi s v6).Name⟩⟩, .bool ((gi s v6).Inherited), .int .u8 ((gi s v6).Initial.Kind), .string ⟨⟨(gi s v6).Initial.Word⟩⟩, .int .i64 ((gi s v6).Initial.Num), .int .u8 ((gi s v6).Initial.Color.Red), .int .u8 ((gi s v6).Initial.Color.Green), .int .u8 ((gi s v6).Initial.Color.Blue), .int .u8 ((gi s v6).Initial.Color.Alpha), .slice (g_s.s (v6).toNat 0).a (((gi s v6).Words).length) (g_s.s (v6).toNat 0).c, .slice (g_s.s (v6).toNat 1).a (((gi s v6).Kinds).length) (g_s.s (v6).toNat 1).c, .bool ((gi s v6).Least)]⟩), (.bool (props_Find_1 (gi s v6) f_c0))] [0, 1, 5, 7, 8, 16] [(0, [], .slice g_s.a s.length g_s.c), (1, [], .func (.func 26) ⟨[]⟩ ⟨[.pointer (some ⟨b_f_c0, 0, none⟩)]⟩), (5, [], .int .i64 v6), (7, [], .int .i64 (ln s)), (8, [], .int .i64 v6), (16, [], .bool (props_Find_1 (gi s v6) f_c0))] [fun _ => oka g_s.a ∧ 0 ≤ v6 ∧ v6 < ln s, fun wz => V.atN (ab g_s.a) (ao g_s.a + (v6).toNat * 12) [.string ⟨⟨(gi s v6).Name⟩⟩, .bool ((gi s v6).Inherited), .int .u8 ((gi s v6).Initial.Kind), .string ⟨⟨(gi s v6).Initial.Word⟩⟩, .int .i64 ((gi s v6).Initial.Num), .int .u8 ((gi s v6).Initial.Color.Red), .int .u8 ((gi s v6).Initial.Color.Green), .int .u8 ((gi s v6).Initial.Color.Blue), .int .u8 ((gi s v6).Initial.Color.Alpha), .slice (g_s.s (v6).toNat 0).a (((gi s v6).Words).length) (g_s.s (v6).toNat 0).c, .slice (g_s.s (v6).toNat 1).a (((gi s v6).Kinds).length) (g_s.s (v6).toNat 1).c, .bool ((gi s v6).Least)] 0 wz, fun wz => RetB Tryd.prog 26 ⟨[.agg ⟨[.string ⟨⟨(gi s v6).Name⟩⟩, .bool ((gi s v6).Inherited), .int .u8 ((gi s v6).Initial.Kind), .string ⟨⟨(gi s v6).Initial.Word⟩⟩, .int .i64 ((gi s v6).Initial.Num), .int .u8 ((gi s v6).Initial.Color.Red), .int .u8 ((gi s v6).Initial.Color.Green), .int .u8 ((gi s v6).Initial.Color.Blue), .int .u8 ((gi s v6).Initial.Color.Alpha), .slice (g_s.s (v6).toNat 0).a (((gi s v6).Words).length) (g_s.s (v6).toNat 0).c, .slice (g_s.s (v6).toNat 1).a (((gi s v6).Kinds).length) (g_s.s (v6).toNat 1).c, .bool ((gi s v6).Least)]⟩, .pointer (some ⟨b_f_c0, 0, none⟩)]⟩ (.bool (props_Find_1 (gi s v6) f_c0)) wz] H10 (by kernel_rfl) ⟨((hS.im 0 rfl).oki ho11), ((hS.im 0 rfl).atA ho11 0 rfl), (props_Find_1_ok (g_p_0 := (g_s.s (v6).toNat 0)) (g_p_1 := (g_s.s (v6).toNat 1)) (b_u0 := b_f_c0) _ _ _ (s0im (s0im (s0ro s0nil (hS.ro 1 rfl)) (tyProp_i1 ((hS.im 0 rfl).el ho11))) (tyProp_i0 ((hS.im 0 rfl).el ho11)))), trivial⟩ fun _ wd12 H13 hb => ?_
        clear H10
        replace hS := hS.below hb
        clear hb
        refine w_if H13 rfl (fun hc => ?_) (fun hc => ?_)
        · replace hm := bT hc hm
          refine s_reg [] [4] [(4, [], .int .i64 v6)] [] H13 (by kernel_rfl) trivial fun _ wd14 H15 hb => ?_
          clear H13
          replace hS := hS.below hb
          clear hb
          refine w_ret ?_
          obtain rfl := someE hm
          have hm := hm_z3
          obtain rfl := someE hm
          exact retR1 H15 rfl rfl ⟨_, rfl, rfl, (hS.sel [] rfl)⟩
        · replace hm := bF hc hm
          refine w_skip ?_
          refine w_reg [] [0, 1, 7, 8] [(0, [], .slice g_s.a s.length g_s.c), (1, [], .func (.func 26) ⟨[]⟩ ⟨[.pointer (some ⟨b_f_c0, 0, none⟩)]⟩), (7, [], .int .i64 (ln s)), (8, [], .int .i64 (w64 (v6 + 1)))] [] H13 (by kernel_rfl) trivial fun _ wd16 H17 hb => ?_
          clear H13
          replace hS := hS.below hb
          clear hb
          exact ⟨_, Nat.lt_succ_self _, w64 (v6 + 1), hm, Fr.keep (ks := [0, 1, 7, 8]) H17 (by kernel_rfl), hS⟩
      · replace hm := bF hc hm
        refine w_exit rfl ?_
        obtain rfl := someE hm
        exact ⟨_, rfl, Fr.keep (ks := []) H8 (by kernel_rfl), hS⟩
  · rintro _ wd21 ⟨s_z3, hz, H, hS⟩
    subst hz
    replace hm := sumR hm_z3
    replace hS : SH M X w [] _ := hS.sel [] rfl
    refine s_reg [] [4] [(4, [], .int .i64 (-1))] [] H (by kernel_rfl) trivial fun _ wd19 H20 hb => ?_
    clear H
    replace hS := hS.below hb
    clear hb
    refine w_ret ?_
    obtain rfl := someE hm
    exact retR1 H20 rfl rfl ⟨_, rfl, rfl, (hS.sel [] rfl)⟩
theorem slices_IndexFunc_api_Prop_api_Prop_ok {g_s : Gh} {b_f_c0 : Nat} (m : Nat) (s : List TProp) (f_c0 : Str) (r : Int) (hm : slices_IndexFunc_api_Prop_api_Prop m s f_c0 = some r) (w : World) (hL : S0 F0 [Ent.im tyProp s g_s, Ent.ro b_f_c0 [.string ⟨⟨f_c0⟩⟩]] w ∧ fpl [Ent.im tyProp s g_s, Ent.ro b_f_c0 [.string ⟨⟨f_c0⟩⟩]] = []) : RetB Tryd.prog 25 ⟨[.slice g_s.a s.length g_s.c, .func (.func 26) ⟨[]⟩ ⟨[.pointer (some ⟨b_f_c0, 0, none⟩)]⟩]⟩ (.int .i64 r) w := retB_of hL (Tryd.call25 _) (fun w' h => slices_IndexFunc_api_Prop_api_Prop_w F0 m   s f_c0 r hm w' h)

def props_Find (m : Nat) (name_ : Str) : Option (Int × Int) :=
  Option.bind (props_Table m) fun y6 =>
  Option.bind (slices_IndexFunc_api_Prop_api_Prop m y6 name_) fun y11 =>
  cond (decide (y11 < 0)) (
  some (0, 6)) (
  some (y11, 0))
theorem props_Find_w  (M : Av) (m : Nat) (name_ : Str) (r : Int × Int) (hm : props_Find m name_ = some r) (w : World) (hS : S0 M [Ent.im (tI .u8) gl_strings_asciiSpace (Gh.mk (some ⟨0, 0, none⟩) 256 fun _ _ => .nil)] w) : Calls Tryd.prog 9 ⟨[.string ⟨⟨name_⟩⟩]⟩ w (fun e w' => ∃ v, e = .returned v ∧ v = .tuple ⟨[.int .i64 r.1, .int .i64 r.2]⟩ ∧ SH M (fpl [Ent.im (tI .u8) gl_strings_asciiSpace (Gh.mk (some ⟨0, 0, none⟩) 256 fun _ _ => .nil)]) w [] w') := by
  rw [props_Find] at hm
  have hS0 : SH M (fpl [Ent.im (tI .u8) gl_strings_asciiSpace (Gh.mk (some ⟨0, 0, none⟩) 256 fun _ _ => .nil)]) w [Ent.im (tI .u8) gl_strings_asciiSpace (Gh.mk (some ⟨0, 0, none⟩) 256 fun _ _ => .nil)] w := hS
  generalize hX : fpl [Ent.im (tI .u8) gl_strings_asciiSpace (Gh.mk (some ⟨0, 0, none⟩) 256 fun _ _ => .nil)] = X at hS0 ⊢
  clear hS hX
  have hS := hS0
  clear hS0
  refine calls_entryP Tryd.func9 rfl Tryd.ntmps9 rfl fun _ H => ?_
  refine w_seq ?_
  refine wl_start ?_
  have hd : S0 (AvL M [Ent.im (tI .u8) gl_strings_asciiSpace (Gh.mk (some ⟨0, 0, none⟩) 256 fun _ _ => .nil)]) [] _ := hS.hand [] [0] rfl rfl
  refine m_stp [1] [] H rfl rfl rfl rfl (o_box [.string ⟨⟨name_⟩⟩] H hd rfl rfl) (fun _ => rfl) fun _ wd2 v H3 hq => ?_
  clear H hd
  obtain ⟨b1, rfl, hq⟩ := hq
  replace hS : SH M X w [Ent.blk b1 [.string ⟨⟨name_⟩⟩], Ent.im (tI .u8) gl_strings_asciiSpace (Gh.mk (some ⟨0, 0, none⟩) 256 fun _ _ => .nil)] _ := hS.join [] [0] rfl rfl hq
  clear hq
  refine wl_batch 1 3 [] [1] [(1, [], .pointer (some ⟨b1, 0, none⟩))] [] H3 (by decide) (by kernel_rfl) trivial fun _ wd4 H5 hb => ?_
  clear H3
  replace hS := hS.below hb
  clear hb
  refine wl_end rfl ?_
  refine w_seq ?_
  refine wl_start ?_
  obtain ⟨y6, hy6, hm⟩ := bindE hm
  have hd : S0 (AvL M [Ent.blk b1 [.string ⟨⟨name_⟩⟩], Ent.im (tI .u8) gl_strings_asciiSpace (Gh.mk (some ⟨0, 0, none⟩) 256 fun _ _ => .nil)]) [Ent.im (tI .u8) gl_strings_asciiSpace (Gh.mk (some ⟨0, 0, none⟩) 256 fun _ _ => .nil)] _ := hS.hand [1] [0, 1] rfl rfl
  refine m_stp [5, 1] [(1, [], .pointer (some ⟨b1, 0, none⟩))] H5 rfl rfl rfl rfl (o_callx H5 rfl rfl (props_Table_ok m _ hy6 _ _ hd)) (fun _ => rfl) fun _ wd9 v H10 hq => ?_
  clear H5 hd
  obtain ⟨g7, rfl, hq⟩ := hq
  replace hS : SH M X w [Ent.own 51 tyProp y6 g7, Ent.blk b1 [.string ⟨⟨name_⟩⟩], Ent.im (tI .u8) gl_strings_asciiSpace (Gh.mk (some ⟨0, 0, none⟩) 256 fun _ _ => .nil)] _ := hS.join [1] [0, 1] rfl rfl hq
  clear hq
  obtain ⟨y11, hy11, hm⟩ := bindE hm
  refine wl_batch 1 4 [(.int .i64 y11)] [4] [(4, [], .int .i64 y11)] [fun wz => RetB Tryd.prog 25 ⟨[.slice g7.a y6.length g7.c, .func (.func 26) ⟨[]⟩ ⟨[.pointer (some ⟨b1, 0, none⟩)]⟩]⟩ (.int .i64 y11) wz] H10 (by decide) (by kernel_rfl) ⟨(slices_IndexFunc_api_Prop_api_Prop_ok (g_s := g7) (b_f_c0 := b1) m _ _ _ hy11 _ (s0im (s0ro s0nil (hS.bk 1 rfl)) (hS.osl 0 rfl))), trivial⟩ fun _ wd12 H13 hb => ?_
  clear H10
  replace hS := hS.below hb
  clear hb
  refine wl_end rfl ?_
  replace hS : SH M X w [Ent.im (tI .u8) gl_strings_asciiSpace (Gh.mk (some ⟨0, 0, none⟩) 256 fun _ _ => .nil)] _ := hS.sel [2] rfl
  refine w_seq ?_
  refine s_reg [] [4, 9] [(4, [], .int .i64 y11), (9, [], .bool (decide (y11 < 0)))] [] H13 (by kernel_rfl) trivial fun _ wd14 H15 hb => ?_
  clear H13
  replace hS := hS.below hb
  clear hb
  refine w_if H15 rfl (fun hc => ?_) (fun hc => ?_)
  · replace hm := bT hc hm
    refine s_reg [] [2, 3] [(2, [], .int .i64 0), (3, [], .int .i64 6)] [] H15 (by kernel_rfl) trivial fun _ wd16 H17 hb => ?_
    clear H15
    replace hS := hS.below hb
    clear hb
    refine w_ret ?_
    obtain rfl := someE hm
    exact retR2 H17 rfl rfl rfl ⟨_, rfl, rfl, (hS.sel [] rfl)⟩
  · replace hm := bF hc hm
    refine w_skip ?_
    refine s_reg [] [2, 3] [(2, [], .int .i64 y11), (3, [], .int .i64 0)] [] H15 (by kernel_rfl) trivial fun _ wd18 H19 hb => ?_
    clear H15
    replace hS := hS.below hb
    clear hb
    refine w_ret ?_
    obtain rfl := someE hm
    exact retR2 H19 rfl rfl rfl ⟨_, rfl, rfl, (hS.sel [] rfl)⟩
theorem props_Find_ok  (m : Nat) (name_ : Str) (r : Int × Int) (hm : props_Find m name_ = some r) (w : World) (hL : S0 F0 [Ent.im (tI .u8) gl_strings_asciiSpace (Gh.mk (some ⟨0, 0, none⟩) 256 fun _ _ => .nil)] w ∧ fpl [Ent.im (tI .u8) gl_strings_asciiSpace (Gh.mk (some ⟨0, 0, none⟩) 256 fun _ _ => .nil)] = []) : RetB Tryd.prog 9 ⟨[.string ⟨⟨name_⟩⟩]⟩ (.tuple ⟨[.int .i64 r.1, .int .i64 r.2]⟩) w := retB_of hL (Tryd.call9 _) (fun w' h => props_Find_w F0 m   name_ r hm w' h)

def r25_word (s : Str) : TVal :=
  (TVal.mk 1 s 0 (TColor.mk 0 0 0 0))
theorem r25_word_w  (M : Av) (s : Str) (r : TVal) (hm : r25_word s = r) (w : World) (hS : S0 M [] w) : Calls Tryd.prog 35 ⟨[.string ⟨⟨s⟩⟩]⟩ w (fun e w' => ∃ v, e = .returned v ∧ v = .agg ⟨[.int .u8 r.Kind, .string ⟨⟨r.Word⟩⟩, .int .i64 r.Num, .int .u8 r.Color.Red, .int .u8 r.Color.Green, .int .u8 r.Color.Blue, .int .u8 r.Color.Alpha]⟩ ∧ SH M (fpl []) w [] w') := by
  rw [r25_word] at hm
  have hS0 : SH M (fpl []) w [] w := hS
  generalize hX : fpl [] = X at hS0 ⊢
  clear hS hX
  have hS := hS0
  clear hS0
  refine calls_entryP Tryd.func35 rfl Tryd.ntmps35 rfl fun _ H => ?_
  refine w_seq ?_
  refine wl_start ?_
  have hd : S0 (AvL M []) [] _ := hS.hand [] [] rfl rfl
  refine m_stp [2, 0] [(0, [], .string ⟨⟨s⟩⟩)] H rfl rfl rfl rfl (o_alloc [.int .u8 0, .string ⟨⟨[]⟩⟩, .int .i64 0, .int .u8 0, .int .u8 0, .int .u8 0, .int .u8 0] (z := .agg ⟨[.int .u8 0, .string ⟨⟨[]⟩⟩, .int .i64 0, .int .u8 0, .int .u8 0, .int .u8 0, .int .u8 0]⟩) hd (by kernel_rfl) rfl) (fun _ => rfl) fun _ wd2 v H3 hq => ?_
  clear H hd
  obtain ⟨b1, rfl, hq⟩ := hq
  replace hS : SH M X w [Ent.blk b1 [.int .u8 0, .string ⟨⟨[]⟩⟩, .int .i64 0, .int .u8 0, .int .u8 0, .int .u8 0, .int .u8 0]] _ := hS.join [] [] rfl rfl hq
  clear hq
  refine wl_end rfl ?_
  refine w_seq ?_
  refine wl_start ?_
  refine wl_batch 0 2 [] [2, 4] [(2, [], .pointer (some ⟨b1, 0, none⟩)), (4, [], .agg ⟨[.int .u8 1, .string ⟨⟨s⟩⟩, .int .i64 0, .int .u8 0, .int .u8 0, .int .u8 0, .int .u8 0]⟩)] [] H3 (by decide) (by kernel_rfl) trivial fun _ wd4 H5 hb => ?_
  clear H3
  replace hS := hS.below hb
  clear hb
  have hd : S0 (AvL M []) [Ent.blk b1 [.int .u8 0, .string ⟨⟨[]⟩⟩, .int .i64 0, .int .u8 0, .int .u8 0, .int .u8 0, .int .u8 0]] _ := hS.hand [0] [] rfl rfl
  refine m_stp0 [2] [(2, [], .pointer (some ⟨b1, 0, none⟩))] H5 rfl rfl rfl (o_store [.int .u8 1, .string ⟨⟨s⟩⟩, .int .i64 0, .int .u8 0, .int .u8 0, .int .u8 0, .int .u8 0] H5 hd rfl rfl (by kernel_rfl) rfl rfl rfl) rfl fun _ wd6 H7 hq => ?_
  clear H5 hd
  obtain ⟨_, hq⟩ := hq
  replace hS : SH M X w [Ent.blk b1 [.int .u8 1, .string ⟨⟨s⟩⟩, .int .i64 0, .int .u8 0, .int .u8 0, .int .u8 0, .int .u8 0]] _ := hS.join [0] [] rfl rfl hq
  clear hq
  refine wl_end rfl ?_
  refine w_ret ?_
  subst hm
  exact retR1 H7 rfl (oneRes_agg rfl (hS.bk 0 rfl) Tryd.underlying25 rfl (by kernel_rfl)) ⟨_, rfl, rfl, (hS.sel [] rfl)⟩
theorem r25_word_ok  (s : Str) : Ret Tryd.prog 35 ⟨[.string ⟨⟨s⟩⟩]⟩ (.agg ⟨[.int .u8 (r25_word s).Kind, .string ⟨⟨(r25_word s).Word⟩⟩, .int .i64 (r25_word s).Num, .int .u8 (r25_word s).Color.Red, .int .u8 (r25_word s).Color.Green, .int .u8 (r25_word s).Color.Blue, .int .u8 (r25_word s).Color.Alpha]⟩) := retP_of (Tryd.call35 _) (fun w h => r25_word_w F0   s _ rfl w h)

def r25_px (n_ : Int) : TVal :=
  (TVal.mk 2 [] n_ (TColor.mk 0 0 0 0))
theorem r25_px_w  (M : Av) (n_ : Int) (r : TVal) (hm : r25_px n_ = r) (w : World) (hS : S0 M [] w) : Calls Tryd.prog 36 ⟨[.int .i64 n_]⟩ w (fun e w' => ∃ v, e = .returned v ∧ v = .agg ⟨[.int .u8 r.Kind, .string ⟨⟨r.Word⟩⟩, .int .i64 r.Num, .int .u8 r.Color.Red, .int .u8 r.Color.Green, .int .u8 r.Color.Blue, .int .u8 r.Color.Alpha]⟩ ∧ SH M (fpl []) w [] w') := by
  rw [r25_px] at hm
  have hS0 : SH M (fpl []) w [] w := hS
  generalize hX : fpl [] = X at hS0 ⊢
  clear hS hX
  have hS := hS0
  clear hS0
  refine calls_entryP Tryd.func36 rfl Tryd.ntmps36 rfl fun _ H => ?_
  refine w_seq ?_
  refine wl_start ?_
  have hd : S0 (AvL M []) [] _ := hS.hand [] [] rfl rfl
  refine m_stp [2, 0] [(0, [], .int .i64 n_)] H rfl rfl rfl rfl (o_alloc [.int .u8 0, .string ⟨⟨[]⟩⟩, .int .i64 0, .int .u8 0, .int .u8 0, .int .u8 0, .int .u8 0] (z := .agg ⟨[.int .u8 0, .string ⟨⟨[]⟩⟩, .int .i64 0, .int .u8 0, .int .u8 0, .int .u8 0, .int .u8 0]⟩) hd (by kernel_rfl) rfl) (fun _ => rfl) fun _ wd2 v H3 hq => ?_
  clear H hd
  obtain ⟨b1, rfl, hq⟩ := hq
  replace hS : SH M X w [Ent.blk b1 [.int .u8 0, .string ⟨⟨[]⟩⟩, .int .i64 0, .int .u8 0, .int .u8 0, .int .u8 0, .int .u8 0]] _ := hS.join [] [] rfl rfl hq
  clear hq
  refine wl_end rfl ?_
  refine w_seq ?_
  refine wl_start ?_
  refine wl_batch 0 2 [] [2, 4] [(2, [], .pointer (some ⟨b1, 0, none⟩)), (4, [], .agg ⟨[.int .u8 2, .string ⟨⟨[]⟩⟩, .int .i64 n_, .int .u8 0, .int .u8 0, .int .u8 0, .int .u8 0]⟩)] [] H3 (by decide) (by kernel_rfl) trivial fun _ wd4 H5 hb => ?_
  clear H3
  replace hS := hS.below hb
  clear hb
  have hd : S0 (AvL M []) [Ent.blk b1 [.int .u8 0, .string ⟨⟨[]⟩⟩, .int .i64 0, .int .u8 0, .int .u8 0, .int .u8 0, .int .u8 0]] _ := hS.hand [0] [] rfl rfl
  refine m_stp0 [2] [(2, [], .pointer (some ⟨b1, 0, none⟩))] H5 rfl rfl rfl (o_store [.int .u8 2, .string ⟨⟨[]⟩⟩, .int .i64 n_, .int .u8 0, .int .u8 0, .int .u8 0, .int .u8 0] H5 hd rfl rfl (by kernel_rfl) rfl rfl rfl) rfl fun _ wd6 H7 hq => ?_
  clear H5 hd
  obtain ⟨_, hq⟩ := hq
  replace hS : SH M X w [Ent.blk b1 [.int .u8 2, .string ⟨⟨[]⟩⟩, .int .i64 n_, .int .u8 0, .int .u8 0, .int .u8 0, .int .u8 0]] _ := hS.join [0] [] rfl rfl hq
  clear hq
  refine wl_end rfl ?_
  refine w_ret ?_
  subst hm
  exact retR1 H7 rfl (oneRes_agg rfl (hS.bk 0 rfl) Tryd.underlying25 rfl (by kernel_rfl)) ⟨_, rfl, rfl, (hS.sel [] rfl)⟩
theorem r25_px_ok  (n_ : Int) : Ret Tryd.prog 36 ⟨[.int .i64 n_]⟩ (.agg ⟨[.int .u8 (r25_px n_).Kind, .string ⟨⟨(r25_px n_).Word⟩⟩, .int .i64 (r25_px n_).Num, .int .u8 (r25_px n_).Color.Red, .int .u8 (r25_px n_).Color.Green, .int .u8 (r25_px n_).Color.Blue, .int .u8 (r25_px n_).Color.Alpha]⟩) := retP_of (Tryd.call36 _) (fun w h => r25_px_w F0   n_ _ rfl w h)

def r25_Table  : Option (List TProp) :=
  lt (r25_word [105, 110, 108, 105, 110, 101]) fun y30 =>
  lt (r25_word [118, 105, 115, 105, 98, 108, 101]) fun y33 =>
  lt (r25_px 0) fun y40 =>
  lt (r25_px 0) fun y43 =>
  lt (r25_px 0) fun y46 =>
  lt (r25_px 0) fun y49 =>
  lt (r25_px 16000) fun y52 =>
  lt (r25_word [110, 111, 114, 109, 97, 108]) fun y53 =>
  chk (ln ([] : List Int) + ln ([2, 3, 4] : List Int) ≤ 1099511627776) <|
  lt (([] : List Int) ++ ([2, 3, 4] : List Int)) fun q59 =>
  chk (ln q59 + ln ([5] : List Int) ≤ 1099511627776) <|
  lt (q59 ++ ([5] : List Int)) fun q64 =>
  lt (r25_word [108, 101, 102, 116]) fun y66 =>
  some ([(TProp.mk [99, 111, 108, 111, 114] true (TVal.mk 7 [] 0 (TColor.mk 0 0 0 255)) [] ([7, 8] : List Int) false), (TProp.mk [98, 97, 99, 107, 103, 114, 111, 117, 110, 100, 45, 99, 111, 108, 111, 114] false (TVal.mk 7 [] 0 (TColor.mk 0 0 0 0)) [] ([7, 8] : List Int) false), (TProp.mk [98, 111, 114, 100, 101, 114, 45, 99, 111, 108, 111, 114] false (TVal.mk 8 [] 0 (TColor.mk 0 0 0 0)) [] ([7, 8] : List Int) false), (TProp.mk [111, 117, 116, 108, 105, 110, 101, 45, 99, 111, 108, 111, 114] false (TVal.mk 8 [] 0 (TColor.mk 0 0 0 0)) [] ([7, 8] : List Int) false), (TProp.mk [100, 105, 115, 112, 108, 97, 121] false y30 ([[98, 108, 111, 99, 107], [102, 108, 101, 120], [105, 110, 108, 105, 110, 101], [105, 110, 108, 105, 110, 101, 45, 98, 108, 111, 99, 107], [110, 111, 110, 101]] : List Str) [] false), (TProp.mk [118, 105, 115, 105, 98, 105, 108, 105, 116, 121] true y33 ([[99, 111, 108, 108, 97, 112, 115, 101], [104, 105, 100, 100, 101, 110], [118, 105, 115, 105, 98, 108, 101]] : List Str) [] false), (TProp.mk [119, 105, 100, 116, 104] false (TVal.mk 1 [97, 117, 116, 111] 0 (TColor.mk 0 0 0 0)) ([[97, 117, 116, 111]] : List Str) ([2, 3, 4] : List Int) true), (TProp.mk [104, 101, 105, 103, 104, 116] false (TVal.mk 1 [97, 117, 116, 111] 0 (TColor.mk 0 0 0 0)) ([[97, 117, 116, 111]] : List Str) ([2, 3, 4] : List Int) true), (TProp.mk [109, 97, 114, 103, 105, 110, 45, 116, 111, 112] false y40 ([[97, 117, 116, 111]] : List Str) ([2, 3, 4] : List Int) false), (TProp.mk [109, 97, 114, 103, 105, 110, 45, 114, 105, 103, 104, 116] false y43 ([[97, 117, 116, 111]] : List Str) ([2, 3, 4] : List Int) false), (TProp.mk [109, 97, 114, 103, 105, 110, 45, 98, 111, 116, 116, 111, 109] false y46 ([[97, 117, 116, 111]] : List Str) ([2, 3, 4] : List Int) false), (TProp.mk [109, 97, 114, 103, 105, 110, 45, 108, 101, 102, 116] false y49 ([[97, 117, 116, 111]] : List Str) ([2, 3, 4] : List Int) false), (TProp.mk [102, 111, 110, 116, 45, 115, 105, 122, 101] true y52 [] ([2, 3, 4] : List Int) true), (TProp.mk [108, 105, 110, 101, 45, 104, 101, 105, 103, 104, 116] true y53 ([[110, 111, 114, 109, 97, 108]] : List Str) q64 true), (TProp.mk [116, 101, 120, 116, 45, 97, 108, 105, 103, 110] true y66 ([[99, 101, 110, 116, 101, 114], [106, 117, 115, 116, 105, 102, 121], [108, 101, 102, 116], [114, 105, 103, 104, 116]] : List Str) [] false), (TProp.mk [111, 112, 97, 99, 105, 116, 121] false (TVal.mk 5 [] 1000 (TColor.mk 0 0 0 0)) [] ([5] : List Int) false), (TProp.mk [122, 45, 105, 110, 100, 101, 120] false (TVal.mk 1 [97, 117, 116, 111] 0 (TColor.mk 0 0 0 0)) ([[97, 117, 116, 111]] : List Str) ([6] : List Int) false), (TProp.mk [111, 114, 100, 101, 114] false (TVal.mk 6 [] 0 (TColor.mk 0 0 0 0)) [] ([6] : List Int) false)] : List TProp)
end Go.Proofs.YtfcnkhiohnjepaaDoor
