/-
  What the laws of this seat share: what the listed variables hold, a world that fits, what comes in.
-/
import Derived.Test.YtipafpkdkhnjmaaGreatDoorRA
import Derived.Test.YtipafpkdkhnjmaaGreatDoorRows
import Derived.Test.YtipafpkdkhnjmaaGreatDoorW40Tb
import Derived.Test.YtipafpkdkhnjmaaGreatDoorRU
import Derived.Deep.DeepHandedRow
import Derived.Deep.DeepWitnessRowRef
import Derived.ProofKit
import Derived.Lib.LaidU8
import Derived.Deep.DeepLaidRun
namespace Go.Proofs.YtipafpkdkhnjmaaGreatDoor
open Go.V Go.RowKit
set_option linter.unusedVariables false
set_option maxRecDepth 100000
theorem c_own : ownKnob Tryz.prog.godebug = none := by kernel_rfl
theorem c_laidOut : laidOutB Tryz.prog = true := by kernel_rfl
noncomputable def c_world (os : Os) : World :=
  let w0 := World.holding Tryz.prog os ⟨#[.cells #[.string ⟨#[118, 97, 108, 117, 101, 32, 111, 117, 116, 32, 111, 102, 32, 114, 97, 110, 103, 101]⟩] 144, .cells #[.string ⟨#[105, 110, 118, 97, 108, 105, 100, 32, 115, 121, 110, 116, 97, 120]⟩] 144], #[], []⟩
  let put (h : Array Obj) (g : Nat) (cs : Array Value) : Array Obj := h.modify g fun
    | .cells _ t frozen => .cells cs t frozen
    | o => o
  let h0 := put w0.heap 4 #[.int .u8 0, .int .u8 1, .int .u8 28, .int .u8 2, .int .u8 29, .int .u8 14, .int .u8 24, .int .u8 3, .int .u8 30, .int .u8 22, .int .u8 20, .int .u8 15, .int .u8 25, .int .u8 17, .int .u8 4, .int .u8 8, .int .u8 31, .int .u8 27, .int .u8 13, .int .u8 23, .int .u8 21, .int .u8 19, .int .u8 16, .int .u8 7, .int .u8 26, .int .u8 12, .int .u8 18, .int .u8 6, .int .u8 11, .int .u8 5, .int .u8 10, .int .u8 9]
  let h1 := put h0 5 #[.int .u8 0, .int .u8 1, .int .u8 56, .int .u8 2, .int .u8 57, .int .u8 49, .int .u8 28, .int .u8 3, .int .u8 61, .int .u8 58, .int .u8 42, .int .u8 50, .int .u8 38, .int .u8 29, .int .u8 17, .int .u8 4, .int .u8 62, .int .u8 47, .int .u8 59, .int .u8 36, .int .u8 45, .int .u8 43, .int .u8 51, .int .u8 22, .int .u8 53, .int .u8 39, .int .u8 33, .int .u8 30, .int .u8 24, .int .u8 18, .int .u8 12, .int .u8 5, .int .u8 63, .int .u8 55, .int .u8 48, .int .u8 27, .int .u8 60, .int .u8 41, .int .u8 37, .int .u8 16, .int .u8 46, .int .u8 35, .int .u8 44, .int .u8 21, .int .u8 52, .int .u8 32, .int .u8 23, .int .u8 11, .int .u8 54, .int .u8 26, .int .u8 40, .int .u8 15, .int .u8 34, .int .u8 20, .int .u8 31, .int .u8 10, .int .u8 25, .int .u8 14, .int .u8 19, .int .u8 9, .int .u8 13, .int .u8 8, .int .u8 7, .int .u8 6]
  let h2 := put h1 1 #[.int .u64 1, .int .u64 10, .int .u64 100, .int .u64 1000, .int .u64 10000, .int .u64 100000, .int .u64 1000000, .int .u64 10000000, .int .u64 100000000, .int .u64 1000000000, .int .u64 10000000000, .int .u64 100000000000, .int .u64 1000000000000, .int .u64 10000000000000, .int .u64 100000000000000, .int .u64 1000000000000000, .int .u64 10000000000000000, .int .u64 100000000000000000, .int .u64 1000000000000000000, .int .u64 10000000000000000000]
  let h3 := put h2 3 #[.iface 142 (.pointer (some ⟨(World.settled Tryz.prog os).heap.size + 0, 0, none⟩))]
  let h4 := put h3 2 #[.iface 142 (.pointer (some ⟨(World.settled Tryz.prog os).heap.size + 1, 0, none⟩))]
  { w0 with heap := h4 }
theorem c_laid (os : Os) (args : Array Value) : laidMet Tryz.prog Rows.answerTextsUptoRow.laid ((c_world os).forCall (fun _ _ => 0) ⟨#[], args, []⟩).memory :=
  laidMet_of_run3 12 (by kernel_rfl) (by kernel_rfl) (by kernel_rfl)
theorem c_tab1 {W : World} (h : laidMetH Tryz.prog Rows.answerTextsUptoRow.laid W) : (Ent.tab 1 (Lib.pow10Tab.map fun z => Value.int .u64 z)).p F0 W := by
  have h1 : Lib.VarReads Tryz.prog W "internal/strconv.uint64pow10" Rows.laid_internal_strconv_uint64pow10 := Lib.laidMet.reads h (.tail _ (.tail _ (.head _)))
  have e1 : (Rows.laid_internal_strconv_uint64pow10 : DataW Unit) = Lib.tabData .u64 Lib.pow10Tab := by kernel_rfl
  rw [e1] at h1
  exact tabW_reads (n := 20) (by kernel_rfl) (by kernel_rfl) Tryz.underlying132 Tryz.underlying114 (by kernel_rfl) (by kernel_rfl) h1
theorem c_ifc2 {W : World} (h : laidMetH Tryz.prog Rows.answerTextsUptoRow.laid W) : (Ent.gifc 2).p F0 W :=
  ifc_reads (by kernel_rfl) (by kernel_rfl) Tryz.underlying51 (Lib.laidMet.reads (n := "strconv.ErrSyntax") (d := Rows.laid_strconv_ErrSyntax) h (.tail _ (.tail _ (.tail _ (.tail _ (.head _))))))
theorem c_ifc3 {W : World} (h : laidMetH Tryz.prog Rows.answerTextsUptoRow.laid W) : (Ent.gifc 3).p F0 W :=
  ifc_reads (by kernel_rfl) (by kernel_rfl) Tryz.underlying51 (Lib.laidMet.reads (n := "strconv.ErrRange") (d := Rows.laid_strconv_ErrRange) h (.tail _ (.tail _ (.tail _ (.head _)))))
def bk_TAnswer (x : TAnswer) : Nat := 1 + 1 + bkL (fun v => v.length + 1) x.Texts + bkL (fun _ => 1) x.Numbers + 1
def wf_TAnswer (x : TAnswer) : Prop := (Lit.int .i64 x.Err).wf = true ∧ (Lit.int .i64 x.Num).wf = true ∧ (x.Texts.length ≤ maxLen ∧ ∀ y ∈ x.Texts, y.length ≤ maxLen) ∧ (x.Numbers.length ≤ maxLen ∧ ∀ y ∈ x.Numbers, (Lit.int .i64 y).wf = true)
theorem opn_TAnswer {H : Type} {W : World} {enc : TypeId × Value → H} : Opb Tryz.prog W enc 43 tyAnswer wf_TAnswer bk_TAnswer := by
  intro n cs x h
  obtain ⟨hl, y, hf, hb⟩ := opb_fields Tryz.underlying43 h
  obtain ⟨k0, h0⟩ := hf 0 _ rfl
  obtain ⟨v0, g0, e0, i0, w0, b0⟩ := (opb_one (opn_int Tryz.underlying24)) _ _ _ h0
  obtain ⟨k1, h1⟩ := hf 1 _ rfl
  obtain ⟨v1, g1, e1, i1, w1, b1⟩ := (opb_one (opn_int Tryz.underlying3)) _ _ _ h1
  obtain ⟨k2, h2⟩ := hf 2 _ rfl
  obtain ⟨v2, g2, e2, i2, w2, b2⟩ := (opb_slice Tryz.underlying40 (by kernel_rfl) (by kernel_rfl) (opb_str Tryz.underlying9)) _ _ _ h2
  obtain ⟨k3, h3⟩ := hf 3 _ rfl
  obtain ⟨v3, g3, e3, i3, w3, b3⟩ := (opb_slice Tryz.underlying41 (by kernel_rfl) (by kernel_rfl) (opb_one (opn_int Tryz.underlying3))) _ _ _ h3
  refine ⟨⟨v0, v1, v2, v3⟩, gL [g2 0, g3 0], (cut_at (o := 0) (k := 1) (c := Tryz.prog.cellsOf 24) (by kernel_rfl) e0 (cut_at (o := 1) (k := 1) (c := Tryz.prog.cellsOf 3) (by kernel_rfl) e1 (cut_at (o := 2) (k := 1) (c := Tryz.prog.cellsOf 40) (by kernel_rfl) e2 (cut_at (o := 3) (k := 1) (c := Tryz.prog.cellsOf 41) (by kernel_rfl) e3 (cut_end (o := 4) (hl.trans (by kernel_rfl))))))), tyAnswer_mk (i2) (i3), ⟨w0, w1, w2, w3⟩, ?_⟩
  have hb : Rows.uptoBulk x.1 = Rows.uptoBulk (y 0).1 + (Rows.uptoBulk (y 1).1 + (Rows.uptoBulk (y 2).1 + (Rows.uptoBulk (y 3).1 + 0))) + 1 := hb
  have b0 : 1 ≤ Rows.uptoBulk (y 0).1 := b0
  have b1 : 1 ≤ Rows.uptoBulk (y 1).1 := b1
  have b2 : bkL (fun v => v.length + 1) v2 ≤ Rows.uptoBulk (y 2).1 := b2
  have b3 : bkL (fun _ => 1) v3 ≤ Rows.uptoBulk (y 3).1 := b3
  show 1 + 1 + bkL (fun v => v.length + 1) v2 + bkL (fun _ => 1) v3 + 1 ≤ _
  omega
end Go.Proofs.YtipafpkdkhnjmaaGreatDoor
