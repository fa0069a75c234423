/-
  What the laws of this seat share: what the listed variables hold, a world that fits, what comes in.
-/
import Derived.Test.YtpgflfjmjppmeaaGreatDoorRows
import Derived.Test.YtpgflfjmjppmeaaGreatDoorW27vd
import Derived.Test.YtpgflfjmjppmeaaGreatDoorRU
import Derived.Test.YtpgflfjmjppmeaaGreatDoorBV
import Derived.Deep.DeepHandedRow
import Derived.Deep.DeepWitnessRowRef
import Derived.ProofKit
import Derived.Lib.LaidU8
import Derived.Deep.DeepLaidRun
namespace Go.Proofs.YtpgflfjmjppmeaaGreatDoor
open Go.V Go.RowKit
set_option linter.unusedVariables false
set_option maxRecDepth 100000
theorem c_own : ownKnob Tryz.prog.godebug = none := by kernel_rfl
theorem c_laidOut : laidOutB Tryz.prog = true := by kernel_rfl
noncomputable def c_world (os : Os) : World :=
  let w0 := World.holding Tryz.prog os ⟨#[.cells #[.string ⟨#[118, 97, 108, 117, 101, 32, 111, 117, 116, 32, 111, 102, 32, 114, 97, 110, 103, 101]⟩] 213, .cells #[.string ⟨#[105, 110, 118, 97, 108, 105, 100, 32, 115, 121, 110, 116, 97, 120]⟩] 213, .cells #[.int .u16 9, .int .u16 13, .int .u16 1, .int .u16 32, .int .u16 133, .int .u16 101, .int .u16 160, .int .u16 5760, .int .u16 5600, .int .u16 8192, .int .u16 8202, .int .u16 1, .int .u16 8232, .int .u16 8233, .int .u16 1, .int .u16 8239, .int .u16 8287, .int .u16 48, .int .u16 12288, .int .u16 12288, .int .u16 1] 195, .cells #[.slice (some ⟨(World.settled Tryz.prog os).heap.size + 2, 0, none⟩) 7 7, .slice none 0 0, .int .i64 2] 192], #[], []⟩
  let put (h : Array Obj) (g : Nat) (cs : Array Value) : Array Obj := h.modify g fun
    | .cells _ t frozen => .cells cs t frozen
    | o => o
  let h0 := put w0.heap 5 #[.int .u8 0, .int .u8 1, .int .u8 28, .int .u8 2, .int .u8 29, .int .u8 14, .int .u8 24, .int .u8 3, .int .u8 30, .int .u8 22, .int .u8 20, .int .u8 15, .int .u8 25, .int .u8 17, .int .u8 4, .int .u8 8, .int .u8 31, .int .u8 27, .int .u8 13, .int .u8 23, .int .u8 21, .int .u8 19, .int .u8 16, .int .u8 7, .int .u8 26, .int .u8 12, .int .u8 18, .int .u8 6, .int .u8 11, .int .u8 5, .int .u8 10, .int .u8 9]
  let h1 := put h0 6 #[.int .u8 0, .int .u8 1, .int .u8 56, .int .u8 2, .int .u8 57, .int .u8 49, .int .u8 28, .int .u8 3, .int .u8 61, .int .u8 58, .int .u8 42, .int .u8 50, .int .u8 38, .int .u8 29, .int .u8 17, .int .u8 4, .int .u8 62, .int .u8 47, .int .u8 59, .int .u8 36, .int .u8 45, .int .u8 43, .int .u8 51, .int .u8 22, .int .u8 53, .int .u8 39, .int .u8 33, .int .u8 30, .int .u8 24, .int .u8 18, .int .u8 12, .int .u8 5, .int .u8 63, .int .u8 55, .int .u8 48, .int .u8 27, .int .u8 60, .int .u8 41, .int .u8 37, .int .u8 16, .int .u8 46, .int .u8 35, .int .u8 44, .int .u8 21, .int .u8 52, .int .u8 32, .int .u8 23, .int .u8 11, .int .u8 54, .int .u8 26, .int .u8 40, .int .u8 15, .int .u8 34, .int .u8 20, .int .u8 31, .int .u8 10, .int .u8 25, .int .u8 14, .int .u8 19, .int .u8 9, .int .u8 13, .int .u8 8, .int .u8 7, .int .u8 6]
  let h2 := put h1 4 #[.int .u64 1, .int .u64 10, .int .u64 100, .int .u64 1000, .int .u64 10000, .int .u64 100000, .int .u64 1000000, .int .u64 10000000, .int .u64 100000000, .int .u64 1000000000, .int .u64 10000000000, .int .u64 100000000000, .int .u64 1000000000000, .int .u64 10000000000000, .int .u64 100000000000000, .int .u64 1000000000000000, .int .u64 10000000000000000, .int .u64 100000000000000000, .int .u64 1000000000000000000, .int .u64 10000000000000000000]
  let h3 := put h2 3 #[.iface 211 (.pointer (some ⟨(World.settled Tryz.prog os).heap.size + 0, 0, none⟩))]
  let h4 := put h3 2 #[.iface 211 (.pointer (some ⟨(World.settled Tryz.prog os).heap.size + 1, 0, none⟩))]
  let h5 := put h4 1 #[.pointer (some ⟨(World.settled Tryz.prog os).heap.size + 3, 0, none⟩)]
  let h6 := put h5 0 #[.int .u8 0, .int .u8 0, .int .u8 0, .int .u8 0, .int .u8 0, .int .u8 0, .int .u8 0, .int .u8 0, .int .u8 0, .int .u8 1, .int .u8 1, .int .u8 1, .int .u8 1, .int .u8 1, .int .u8 0, .int .u8 0, .int .u8 0, .int .u8 0, .int .u8 0, .int .u8 0, .int .u8 0, .int .u8 0, .int .u8 0, .int .u8 0, .int .u8 0, .int .u8 0, .int .u8 0, .int .u8 0, .int .u8 0, .int .u8 0, .int .u8 0, .int .u8 0, .int .u8 1, .int .u8 0, .int .u8 0, .int .u8 0, .int .u8 0, .int .u8 0, .int .u8 0, .int .u8 0, .int .u8 0, .int .u8 0, .int .u8 0, .int .u8 0, .int .u8 0, .int .u8 0, .int .u8 0, .int .u8 0, .int .u8 0, .int .u8 0, .int .u8 0, .int .u8 0, .int .u8 0, .int .u8 0, .int .u8 0, .int .u8 0, .int .u8 0, .int .u8 0, .int .u8 0, .int .u8 0, .int .u8 0, .int .u8 0, .int .u8 0, .int .u8 0, .int .u8 0, .int .u8 0, .int .u8 0, .int .u8 0, .int .u8 0, .int .u8 0, .int .u8 0, .int .u8 0, .int .u8 0, .int .u8 0, .int .u8 0, .int .u8 0, .int .u8 0, .int .u8 0, .int .u8 0, .int .u8 0, .int .u8 0, .int .u8 0, .int .u8 0, .int .u8 0, .int .u8 0, .int .u8 0, .int .u8 0, .int .u8 0, .int .u8 0, .int .u8 0, .int .u8 0, .int .u8 0, .int .u8 0, .int .u8 0, .int .u8 0, .int .u8 0, .int .u8 0, .int .u8 0, .int .u8 0, .int .u8 0, .int .u8 0, .int .u8 0, .int .u8 0, .int .u8 0, .int .u8 0, .int .u8 0, .int .u8 0, .int .u8 0, .int .u8 0, .int .u8 0, .int .u8 0, .int .u8 0, .int .u8 0, .int .u8 0, .int .u8 0, .int .u8 0, .int .u8 0, .int .u8 0, .int .u8 0, .int .u8 0, .int .u8 0, .int .u8 0, .int .u8 0, .int .u8 0, .int .u8 0, .int .u8 0, .int .u8 0, .int .u8 0, .int .u8 0, .int .u8 0, .int .u8 0, .int .u8 0, .int .u8 0, .int .u8 0, .int .u8 0, .int .u8 0, .int .u8 0, .int .u8 0, .int .u8 0, .int .u8 0, .int .u8 0, .int .u8 0, .int .u8 0, .int .u8 0, .int .u8 0, .int .u8 0, .int .u8 0, .int .u8 0, .int .u8 0, .int .u8 0, .int .u8 0, .int .u8 0, .int .u8 0, .int .u8 0, .int .u8 0, .int .u8 0, .int .u8 0, .int .u8 0, .int .u8 0, .int .u8 0, .int .u8 0, .int .u8 0, .int .u8 0, .int .u8 0, .int .u8 0, .int .u8 0, .int .u8 0, .int .u8 0, .int .u8 0, .int .u8 0, .int .u8 0, .int .u8 0, .int .u8 0, .int .u8 0, .int .u8 0, .int .u8 0, .int .u8 0, .int .u8 0, .int .u8 0, .int .u8 0, .int .u8 0, .int .u8 0, .int .u8 0, .int .u8 0, .int .u8 0, .int .u8 0, .int .u8 0, .int .u8 0, .int .u8 0, .int .u8 0, .int .u8 0, .int .u8 0, .int .u8 0, .int .u8 0, .int .u8 0, .int .u8 0, .int .u8 0, .int .u8 0, .int .u8 0, .int .u8 0, .int .u8 0, .int .u8 0, .int .u8 0, .int .u8 0, .int .u8 0, .int .u8 0, .int .u8 0, .int .u8 0, .int .u8 0, .int .u8 0, .int .u8 0, .int .u8 0, .int .u8 0, .int .u8 0, .int .u8 0, .int .u8 0, .int .u8 0, .int .u8 0, .int .u8 0, .int .u8 0, .int .u8 0, .int .u8 0, .int .u8 0, .int .u8 0, .int .u8 0, .int .u8 0, .int .u8 0, .int .u8 0, .int .u8 0, .int .u8 0, .int .u8 0, .int .u8 0, .int .u8 0, .int .u8 0, .int .u8 0, .int .u8 0, .int .u8 0, .int .u8 0, .int .u8 0, .int .u8 0, .int .u8 0, .int .u8 0, .int .u8 0, .int .u8 0, .int .u8 0, .int .u8 0, .int .u8 0, .int .u8 0, .int .u8 0, .int .u8 0, .int .u8 0, .int .u8 0, .int .u8 0, .int .u8 0, .int .u8 0, .int .u8 0]
  { w0 with heap := h6 }
theorem c_laid (os : Os) (args : Array Value) : laidMet Tryz.prog Rows.shortValuesUptoRow.laid ((c_world os).forCall (fun _ _ => 0) ⟨#[], args, []⟩).memory :=
  laidMet_of_run3 12 (by kernel_rfl) (by kernel_rfl) (by kernel_rfl)
theorem c_gl_math_bits_deBruijn32tab {W : World} (h : laidMetH Tryz.prog Rows.shortValuesUptoRow.laid W) : SlG (tI .u8) F0 W gl_math_bits_deBruijn32tab (Gh.mk (some ⟨5, 0, none⟩) 32 fun _ _ => .nil) := by
  have h1 : Lib.VarReads Tryz.prog W "math/bits.deBruijn32tab" Rows.laid_math_bits_deBruijn32tab := Lib.laidMet.reads h (.head _)
  have e1 : (Rows.laid_math_bits_deBruijn32tab : DataW Unit) = Lib.tabData .u8 gl_math_bits_deBruijn32tab := by kernel_rfl
  rw [e1] at h1
  exact tab_reads (n := 32) (by kernel_rfl) (by kernel_rfl) Tryz.underlying227 Tryz.underlying5 (by kernel_rfl) (by kernel_rfl) (by kernel_rfl) h1 (by kernel_rfl)
theorem c_gl_math_bits_deBruijn64tab {W : World} (h : laidMetH Tryz.prog Rows.shortValuesUptoRow.laid W) : SlG (tI .u8) F0 W gl_math_bits_deBruijn64tab (Gh.mk (some ⟨6, 0, none⟩) 64 fun _ _ => .nil) := by
  have h1 : Lib.VarReads Tryz.prog W "math/bits.deBruijn64tab" Rows.laid_math_bits_deBruijn64tab := Lib.laidMet.reads h (.tail _ (.head _))
  have e1 : (Rows.laid_math_bits_deBruijn64tab : DataW Unit) = Lib.tabData .u8 gl_math_bits_deBruijn64tab := by kernel_rfl
  rw [e1] at h1
  exact tab_reads (n := 64) (by kernel_rfl) (by kernel_rfl) Tryz.underlying228 Tryz.underlying5 (by kernel_rfl) (by kernel_rfl) (by kernel_rfl) h1 (by kernel_rfl)
theorem c_gl_strings_asciiSpace {W : World} (h : laidMetH Tryz.prog Rows.shortValuesUptoRow.laid W) : SlG (tI .u8) F0 W gl_strings_asciiSpace (Gh.mk (some ⟨0, 0, none⟩) 256 fun _ _ => .nil) := by
  have h1 : Lib.VarReads Tryz.prog W "strings.asciiSpace" Rows.laid_strings_asciiSpace := Lib.laidMet.reads h (.tail _ (.tail _ (.tail _ (.tail _ (.tail _ (.tail _ (.head _)))))))
  have e1 : (Rows.laid_strings_asciiSpace : DataW Unit) = Lib.tabData .u8 gl_strings_asciiSpace := by kernel_rfl
  rw [e1] at h1
  exact tab_reads (n := 256) (by kernel_rfl) (by kernel_rfl) Tryz.underlying166 Tryz.underlying5 (by kernel_rfl) (by kernel_rfl) (by kernel_rfl) h1 (by kernel_rfl)
def bk_TToken (x : TToken) : Nat := 1 + (x.Text.length + 1) + 1 + (x.Unit.length + 1) + 1 + 1
def wf_TToken (x : TToken) : Prop := (Lit.int .u8 x.Kind).wf = true ∧ x.Text.length ≤ maxLen ∧ (Lit.int .i64 x.Num).wf = true ∧ x.Unit.length ≤ maxLen ∧ True
theorem opn_TToken {H : Type} {W : World} {enc : TypeId × Value → H} : Opb Tryz.prog W enc 49 tyToken wf_TToken bk_TToken := by
  intro n cs x h
  obtain ⟨hl, y, hf, hb⟩ := opb_fields Tryz.underlying49 h
  obtain ⟨k0, h0⟩ := hf 0 _ rfl
  obtain ⟨v0, g0, e0, i0, w0, b0⟩ := (opb_one (opn_int Tryz.underlying5)) _ _ _ h0
  obtain ⟨k1, h1⟩ := hf 1 _ rfl
  obtain ⟨v1, g1, e1, i1, w1, b1⟩ := (opb_str Tryz.underlying9) _ _ _ h1
  obtain ⟨k2, h2⟩ := hf 2 _ rfl
  obtain ⟨v2, g2, e2, i2, w2, b2⟩ := (opb_one (opn_int Tryz.underlying2)) _ _ _ h2
  obtain ⟨k3, h3⟩ := hf 3 _ rfl
  obtain ⟨v3, g3, e3, i3, w3, b3⟩ := (opb_str Tryz.underlying9) _ _ _ h3
  obtain ⟨k4, h4⟩ := hf 4 _ rfl
  obtain ⟨v4, g4, e4, i4, w4, b4⟩ := (opb_one (opn_bool Tryz.underlying4)) _ _ _ h4
  refine ⟨⟨v0, v1, v2, v3, v4⟩, fun _ => .nil, (cut_at (o := 0) (k := 1) (c := Tryz.prog.cellsOf 5) (by kernel_rfl) e0 (cut_at (o := 1) (k := 1) (c := Tryz.prog.cellsOf 9) (by kernel_rfl) e1 (cut_at (o := 2) (k := 1) (c := Tryz.prog.cellsOf 2) (by kernel_rfl) e2 (cut_at (o := 3) (k := 1) (c := Tryz.prog.cellsOf 9) (by kernel_rfl) e3 (cut_at (o := 4) (k := 1) (c := Tryz.prog.cellsOf 4) (by kernel_rfl) e4 (cut_end (o := 5) (hl.trans (by kernel_rfl)))))))), trivial, ⟨w0, w1, w2, w3, w4⟩, ?_⟩
  have hb : Rows.uptoBulk x.1 = Rows.uptoBulk (y 0).1 + (Rows.uptoBulk (y 1).1 + (Rows.uptoBulk (y 2).1 + (Rows.uptoBulk (y 3).1 + (Rows.uptoBulk (y 4).1 + 0)))) + 1 := hb
  have b0 : 1 ≤ Rows.uptoBulk (y 0).1 := b0
  have b1 : (v1.length + 1) ≤ Rows.uptoBulk (y 1).1 := b1
  have b2 : 1 ≤ Rows.uptoBulk (y 2).1 := b2
  have b3 : (v3.length + 1) ≤ Rows.uptoBulk (y 3).1 := b3
  have b4 : 1 ≤ Rows.uptoBulk (y 4).1 := b4
  show 1 + (v1.length + 1) + 1 + (v3.length + 1) + 1 + 1 ≤ _
  omega
theorem opk_TValue {H : Type} {W : World} {enc : TypeId × Value → H} : ∀ K, OpbK K Tryz.prog W enc 51 tyValue wfV zV := by
  intro K
  induction K with
  | zero => intro n hn; omega
  | succ K ih =>
  intro n hn cs x h
  obtain ⟨k, rfl, hl, y, hf, hb⟩ := opk_fields Tryz.underlying51 h
  have h0 := hf 0 _ rfl
  obtain ⟨v0, g0, e0, i0, w0, b0⟩ := opn_TToken _ _ _ h0
  have h1 := hf 1 _ rfl
  obtain ⟨v1, g1, e1, i1, w1, b1⟩ := (opk_slice Tryz.underlying22 (by kernel_rfl) (by kernel_rfl) ih) k (by omega) _ _ h1
  refine ⟨.mk v0 v1, gL [g1 0], (cut_at (o := 0) (k := 5) (c := Tryz.prog.cellsOf 49) (by kernel_rfl) e0 (cut_at (o := 5) (k := 1) (c := Tryz.prog.cellsOf 22) (by kernel_rfl) e1 (cut_end (o := 6) (hl.trans (by kernel_rfl))))), tyValue_mk (i1), ⟨w0, w1.1, wf_all v1 w1.2⟩, ?_⟩
  have hb : Rows.uptoBulk x.1 = Rows.uptoBulk (y 0).1 + (Rows.uptoBulk (y 1).1 + 0) + 1 := hb
  show zT v0 + (zVs v1 + 1) + 1 ≤ _
  have b0 : zT v0 ≤ Rows.uptoBulk (y 0).1 := b0
  have b1 : (v1.map zV).sum + 1 ≤ Rows.uptoBulk (y 1).1 := b1
  have hz := z_map v1
  omega
theorem opn_TValue {H : Type} {W : World} {enc : TypeId × Value → H} : Opb Tryz.prog W enc 51 tyValue wfV zV := fun n cs x h => opk_TValue (n + 1) n (Nat.lt_succ_self n) cs x h
def bk_TDecl (x : TDecl) : Nat := (x.Name.length + 1) + bkL zV x.Value + 1 + 1
def wf_TDecl (x : TDecl) : Prop := x.Name.length ≤ maxLen ∧ (x.Value.length ≤ maxLen ∧ ∀ y ∈ x.Value, wfV y) ∧ True
theorem opn_TDecl {H : Type} {W : World} {enc : TypeId × Value → H} : Opb Tryz.prog W enc 38 tyDecl wf_TDecl bk_TDecl := by
  intro n cs x h
  obtain ⟨hl, y, hf, hb⟩ := opb_fields Tryz.underlying38 h
  obtain ⟨k0, h0⟩ := hf 0 _ rfl
  obtain ⟨v0, g0, e0, i0, w0, b0⟩ := (opb_str Tryz.underlying9) _ _ _ h0
  obtain ⟨k1, h1⟩ := hf 1 _ rfl
  obtain ⟨v1, g1, e1, i1, w1, b1⟩ := (opb_slice Tryz.underlying22 (by kernel_rfl) (by kernel_rfl) opn_TValue) _ _ _ h1
  obtain ⟨k2, h2⟩ := hf 2 _ rfl
  obtain ⟨v2, g2, e2, i2, w2, b2⟩ := (opb_one (opn_bool Tryz.underlying4)) _ _ _ h2
  refine ⟨⟨v0, v1, v2⟩, gL [g1 0], (cut_at (o := 0) (k := 1) (c := Tryz.prog.cellsOf 9) (by kernel_rfl) e0 (cut_at (o := 1) (k := 1) (c := Tryz.prog.cellsOf 22) (by kernel_rfl) e1 (cut_at (o := 2) (k := 1) (c := Tryz.prog.cellsOf 4) (by kernel_rfl) e2 (cut_end (o := 3) (hl.trans (by kernel_rfl)))))), tyDecl_mk (i1), ⟨w0, w1, w2⟩, ?_⟩
  have hb : Rows.uptoBulk x.1 = Rows.uptoBulk (y 0).1 + (Rows.uptoBulk (y 1).1 + (Rows.uptoBulk (y 2).1 + 0)) + 1 := hb
  have b0 : (v0.length + 1) ≤ Rows.uptoBulk (y 0).1 := b0
  have b1 : bkL zV v1 ≤ Rows.uptoBulk (y 1).1 := b1
  have b2 : 1 ≤ Rows.uptoBulk (y 2).1 := b2
  show (v0.length + 1) + bkL zV v1 + 1 + 1 ≤ _
  omega
end Go.Proofs.YtpgflfjmjppmeaaGreatDoor
