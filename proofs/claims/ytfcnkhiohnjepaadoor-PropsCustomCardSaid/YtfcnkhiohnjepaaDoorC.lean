/-
  What the laws of this seat share: what the listed variables hold, a world that fits, what comes in.
-/
import Derived.Test.YtfcnkhiohnjepaaDoorRows
import Derived.Test.YtfcnkhiohnjepaaDoorW25d
import Derived.Test.YtfcnkhiohnjepaaDoorR
import Derived.Deep.DeepHandedRow
import Derived.Deep.DeepWitnessRowRef
import Derived.ProofKit
import Derived.Lib.LaidU8
namespace Go.Proofs.YtfcnkhiohnjepaaDoor
open Go.V Go.RowKit
set_option linter.unusedVariables false
set_option maxRecDepth 100000
theorem c_own : ownKnob Tryd.prog.godebug = none := by kernel_rfl
theorem c_laidOut : laidOutB Tryd.prog = true := by kernel_rfl
noncomputable def c_world (os : Os) : World :=
  let w0 := World.holding Tryd.prog os ⟨#[.cells #[.int .u16 9, .int .u16 13, .int .u16 1, .int .u16 32, .int .u16 133, .int .u16 101, .int .u16 160, .int .u16 5760, .int .u16 5600, .int .u16 8192, .int .u16 8202, .int .u16 1, .int .u16 8232, .int .u16 8233, .int .u16 1, .int .u16 8239, .int .u16 8287, .int .u16 48, .int .u16 12288, .int .u16 12288, .int .u16 1] 81, .cells #[.slice (some ⟨(World.settled Tryd.prog os).heap.size + 0, 0, none⟩) 7 7, .slice none 0 0, .int .i64 2] 78], #[], []⟩
  let put (h : Array Obj) (g : Nat) (cs : Array Value) : Array Obj := h.modify g fun
    | .cells _ t frozen => .cells cs t frozen
    | o => o
  let h0 := put w0.heap 1 #[.pointer (some ⟨(World.settled Tryd.prog os).heap.size + 1, 0, none⟩)]
  let h1 := put h0 0 #[.int .u8 0, .int .u8 0, .int .u8 0, .int .u8 0, .int .u8 0, .int .u8 0, .int .u8 0, .int .u8 0, .int .u8 0, .int .u8 1, .int .u8 1, .int .u8 1, .int .u8 1, .int .u8 1, .int .u8 0, .int .u8 0, .int .u8 0, .int .u8 0, .int .u8 0, .int .u8 0, .int .u8 0, .int .u8 0, .int .u8 0, .int .u8 0, .int .u8 0, .int .u8 0, .int .u8 0, .int .u8 0, .int .u8 0, .int .u8 0, .int .u8 0, .int .u8 0, .int .u8 1, .int .u8 0, .int .u8 0, .int .u8 0, .int .u8 0, .int .u8 0, .int .u8 0, .int .u8 0, .int .u8 0, .int .u8 0, .int .u8 0, .int .u8 0, .int .u8 0, .int .u8 0, .int .u8 0, .int .u8 0, .int .u8 0, .int .u8 0, .int .u8 0, .int .u8 0, .int .u8 0, .int .u8 0, .int .u8 0, .int .u8 0, .int .u8 0, .int .u8 0, .int .u8 0, .int .u8 0, .int .u8 0, .int .u8 0, .int .u8 0, .int .u8 0, .int .u8 0, .int .u8 0, .int .u8 0, .int .u8 0, .int .u8 0, .int .u8 0, .int .u8 0, .int .u8 0, .int .u8 0, .int .u8 0, .int .u8 0, .int .u8 0, .int .u8 0, .int .u8 0, .int .u8 0, .int .u8 0, .int .u8 0, .int .u8 0, .int .u8 0, .int .u8 0, .int .u8 0, .int .u8 0, .int .u8 0, .int .u8 0, .int .u8 0, .int .u8 0, .int .u8 0, .int .u8 0, .int .u8 0, .int .u8 0, .int .u8 0, .int .u8 0, .int .u8 0, .int .u8 0, .int .u8 0, .int .u8 0, .int .u8 0, .int .u8 0, .int .u8 0, .int .u8 0, .int .u8 0, .int .u8 0, .int .u8 0, .int .u8 0, .int .u8 0, .int .u8 0, .int .u8 0, .int .u8 0, .int .u8 0, .int .u8 0, .int .u8 0, .int .u8 0, .int .u8 0, .int .u8 0, .int .u8 0, .int .u8 0, .int .u8 0, .int .u8 0, .int .u8 0, .int .u8 0, .int .u8 0, .int .u8 0, .int .u8 0, .int .u8 0, .int .u8 0, .int .u8 0, .int .u8 0, .int .u8 0, .int .u8 0, .int .u8 0, .int .u8 0, .int .u8 0, .int .u8 0, .int .u8 0, .int .u8 0, .int .u8 0, .int .u8 0, .int .u8 0, .int .u8 0, .int .u8 0, .int .u8 0, .int .u8 0, .int .u8 0, .int .u8 0, .int .u8 0, .int .u8 0, .int .u8 0, .int .u8 0, .int .u8 0, .int .u8 0, .int .u8 0, .int .u8 0, .int .u8 0, .int .u8 0, .int .u8 0, .int .u8 0, .int .u8 0, .int .u8 0, .int .u8 0, .int .u8 0, .int .u8 0, .int .u8 0, .int .u8 0, .int .u8 0, .int .u8 0, .int .u8 0, .int .u8 0, .int .u8 0, .int .u8 0, .int .u8 0, .int .u8 0, .int .u8 0, .int .u8 0, .int .u8 0, .int .u8 0, .int .u8 0, .int .u8 0, .int .u8 0, .int .u8 0, .int .u8 0, .int .u8 0, .int .u8 0, .int .u8 0, .int .u8 0, .int .u8 0, .int .u8 0, .int .u8 0, .int .u8 0, .int .u8 0, .int .u8 0, .int .u8 0, .int .u8 0, .int .u8 0, .int .u8 0, .int .u8 0, .int .u8 0, .int .u8 0, .int .u8 0, .int .u8 0, .int .u8 0, .int .u8 0, .int .u8 0, .int .u8 0, .int .u8 0, .int .u8 0, .int .u8 0, .int .u8 0, .int .u8 0, .int .u8 0, .int .u8 0, .int .u8 0, .int .u8 0, .int .u8 0, .int .u8 0, .int .u8 0, .int .u8 0, .int .u8 0, .int .u8 0, .int .u8 0, .int .u8 0, .int .u8 0, .int .u8 0, .int .u8 0, .int .u8 0, .int .u8 0, .int .u8 0, .int .u8 0, .int .u8 0, .int .u8 0, .int .u8 0, .int .u8 0, .int .u8 0, .int .u8 0, .int .u8 0, .int .u8 0, .int .u8 0, .int .u8 0, .int .u8 0, .int .u8 0, .int .u8 0, .int .u8 0, .int .u8 0, .int .u8 0, .int .u8 0, .int .u8 0, .int .u8 0, .int .u8 0, .int .u8 0, .int .u8 0, .int .u8 0, .int .u8 0, .int .u8 0]
  { w0 with heap := h1 }
theorem c_laid (os : Os) (args : Array Value) : laidMet Tryd.prog Rows.propsNamesRow.laid ((c_world os).forCall (fun _ _ => 0) ⟨#[], args, []⟩).memory :=
  laidMet_of_run' 12 (by kernel_rfl) (by kernel_rfl)
theorem c_gl_strings_asciiSpace {W : World} (h : laidMetH Tryd.prog Rows.propsNamesRow.laid W) : SlG (tI .u8) F0 W gl_strings_asciiSpace (Gh.mk (some ⟨0, 0, none⟩) 256 fun _ _ => .nil) := by
  have h1 : Lib.VarReads Tryd.prog W "strings.asciiSpace" Rows.laid_strings_asciiSpace := Lib.laidMet.reads h (.tail _ (.head _))
  have e1 : (Rows.laid_strings_asciiSpace : DataW Unit) = Lib.tabData .u8 gl_strings_asciiSpace := by kernel_rfl
  rw [e1] at h1
  exact tab_reads (n := 256) (by kernel_rfl) (by kernel_rfl) Tryd.underlying66 Tryd.underlying5 (by kernel_rfl) (by kernel_rfl) (by kernel_rfl) h1 (by kernel_rfl)
def wf_TColor (x : TColor) : Prop := (Lit.int .u8 x.Red).wf = true ∧ (Lit.int .u8 x.Green).wf = true ∧ (Lit.int .u8 x.Blue).wf = true ∧ (Lit.int .u8 x.Alpha).wf = true
theorem opn_TColor {H : Type} {W : World} {enc : TypeId × Value → H} : Opn Tryd.prog W enc 23 tyColor wf_TColor := by
  intro n cs x h
  obtain ⟨hl, hf⟩ := opn_fields Tryd.underlying23 h
  obtain ⟨k0, y0, h0⟩ := hf 0 _ rfl
  obtain ⟨v0, g0, e0, i0, w0⟩ := (opn_int Tryd.underlying5) _ _ _ h0
  obtain ⟨k1, y1, h1⟩ := hf 1 _ rfl
  obtain ⟨v1, g1, e1, i1, w1⟩ := (opn_int Tryd.underlying5) _ _ _ h1
  obtain ⟨k2, y2, h2⟩ := hf 2 _ rfl
  obtain ⟨v2, g2, e2, i2, w2⟩ := (opn_int Tryd.underlying5) _ _ _ h2
  obtain ⟨k3, y3, h3⟩ := hf 3 _ rfl
  obtain ⟨v3, g3, e3, i3, w3⟩ := (opn_int Tryd.underlying5) _ _ _ h3
  refine ⟨⟨v0, v1, v2, v3⟩, fun _ => .nil, (cut_at (o := 0) (k := 1) (c := Tryd.prog.cellsOf 5) (by kernel_rfl) e0 (cut_at (o := 1) (k := 1) (c := Tryd.prog.cellsOf 5) (by kernel_rfl) e1 (cut_at (o := 2) (k := 1) (c := Tryd.prog.cellsOf 5) (by kernel_rfl) e2 (cut_at (o := 3) (k := 1) (c := Tryd.prog.cellsOf 5) (by kernel_rfl) e3 (cut_end (o := 4) (hl.trans (by kernel_rfl))))))), trivial, ⟨w0, w1, w2, w3⟩⟩
def wf_TVal (x : TVal) : Prop := (Lit.int .u8 x.Kind).wf = true ∧ x.Word.length ≤ maxLen ∧ (Lit.int .i64 x.Num).wf = true ∧ wf_TColor x.Color
theorem opn_TVal {H : Type} {W : World} {enc : TypeId × Value → H} : Opn Tryd.prog W enc 25 tyVal wf_TVal := by
  intro n cs x h
  obtain ⟨hl, hf⟩ := opn_fields Tryd.underlying25 h
  obtain ⟨k0, y0, h0⟩ := hf 0 _ rfl
  obtain ⟨v0, g0, e0, i0, w0⟩ := (opn_int Tryd.underlying5) _ _ _ h0
  obtain ⟨k1, y1, h1⟩ := hf 1 _ rfl
  obtain ⟨v1, g1, e1, i1, w1⟩ := (opn_str Tryd.underlying9) _ _ _ h1
  obtain ⟨k2, y2, h2⟩ := hf 2 _ rfl
  obtain ⟨v2, g2, e2, i2, w2⟩ := (opn_int Tryd.underlying2) _ _ _ h2
  obtain ⟨k3, y3, h3⟩ := hf 3 _ rfl
  obtain ⟨v3, g3, e3, i3, w3⟩ := opn_TColor _ _ _ h3
  refine ⟨⟨v0, v1, v2, v3⟩, fun _ => .nil, (cut_at (o := 0) (k := 1) (c := Tryd.prog.cellsOf 5) (by kernel_rfl) e0 (cut_at (o := 1) (k := 1) (c := Tryd.prog.cellsOf 9) (by kernel_rfl) e1 (cut_at (o := 2) (k := 1) (c := Tryd.prog.cellsOf 2) (by kernel_rfl) e2 (cut_at (o := 3) (k := 4) (c := Tryd.prog.cellsOf 23) (by kernel_rfl) e3 (cut_end (o := 7) (hl.trans (by kernel_rfl))))))), trivial, ⟨w0, w1, w2, w3⟩⟩
end Go.Proofs.YtfcnkhiohnjepaaDoor
