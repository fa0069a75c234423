/-
  What the laws of this seat share: what the listed variables hold, a world that fits, what comes in.
-/
import Derived.Test.YtehlikdeobajcaaGreatDoorRows
import Derived.Test.YtehlikdeobajcaaGreatDoorW31ld
import Derived.Test.YtehlikdeobajcaaGreatDoorRU
import Derived.Test.YtehlikdeobajcaaGreatDoorBV
import Derived.Deep.DeepHandedRow
import Derived.Deep.DeepWitnessRowRef
import Derived.ProofKit
import Derived.Lib.LaidU8
import Derived.Deep.DeepLaidRun
namespace Go.Proofs.YtehlikdeobajcaaGreatDoor
open Go.V Go.RowKit
set_option linter.unusedVariables false
set_option maxRecDepth 100000
theorem c_own : ownKnob Tryz.prog.godebug = none := by kernel_rfl
theorem c_laidOut : laidOutB Tryz.prog = true := by kernel_rfl
noncomputable def c_world (os : Os) : World :=
  let w0 := World.holding Tryz.prog os ⟨#[.cells #[.int .u16 9, .int .u16 13, .int .u16 1, .int .u16 32, .int .u16 133, .int .u16 101, .int .u16 160, .int .u16 5760, .int .u16 5600, .int .u16 8192, .int .u16 8202, .int .u16 1, .int .u16 8232, .int .u16 8233, .int .u16 1, .int .u16 8239, .int .u16 8287, .int .u16 48, .int .u16 12288, .int .u16 12288, .int .u16 1] 166, .cells #[.slice (some ⟨(World.settled Tryz.prog os).heap.size + 0, 0, none⟩) 7 7, .slice none 0 0, .int .i64 2] 163], #[], []⟩
  let put (h : Array Obj) (g : Nat) (cs : Array Value) : Array Obj := h.modify g fun
    | .cells _ t frozen => .cells cs t frozen
    | o => o
  let h0 := put w0.heap 1 #[.pointer (some ⟨(World.settled Tryz.prog os).heap.size + 1, 0, none⟩)]
  let h1 := put h0 0 #[.int .u8 0, .int .u8 0, .int .u8 0, .int .u8 0, .int .u8 0, .int .u8 0, .int .u8 0, .int .u8 0, .int .u8 0, .int .u8 1, .int .u8 1, .int .u8 1, .int .u8 1, .int .u8 1, .int .u8 0, .int .u8 0, .int .u8 0, .int .u8 0, .int .u8 0, .int .u8 0, .int .u8 0, .int .u8 0, .int .u8 0, .int .u8 0, .int .u8 0, .int .u8 0, .int .u8 0, .int .u8 0, .int .u8 0, .int .u8 0, .int .u8 0, .int .u8 0, .int .u8 1, .int .u8 0, .int .u8 0, .int .u8 0, .int .u8 0, .int .u8 0, .int .u8 0, .int .u8 0, .int .u8 0, .int .u8 0, .int .u8 0, .int .u8 0, .int .u8 0, .int .u8 0, .int .u8 0, .int .u8 0, .int .u8 0, .int .u8 0, .int .u8 0, .int .u8 0, .int .u8 0, .int .u8 0, .int .u8 0, .int .u8 0, .int .u8 0, .int .u8 0, .int .u8 0, .int .u8 0, .int .u8 0, .int .u8 0, .int .u8 0, .int .u8 0, .int .u8 0, .int .u8 0, .int .u8 0, .int .u8 0, .int .u8 0, .int .u8 0, .int .u8 0, .int .u8 0, .int .u8 0, .int .u8 0, .int .u8 0, .int .u8 0, .int .u8 0, .int .u8 0, .int .u8 0, .int .u8 0, .int .u8 0, .int .u8 0, .int .u8 0, .int .u8 0, .int .u8 0, .int .u8 0, .int .u8 0, .int .u8 0, .int .u8 0, .int .u8 0, .int .u8 0, .int .u8 0, .int .u8 0, .int .u8 0, .int .u8 0, .int .u8 0, .int .u8 0, .int .u8 0, .int .u8 0, .int .u8 0, .int .u8 0, .int .u8 0, .int .u8 0, .int .u8 0, .int .u8 0, .int .u8 0, .int .u8 0, .int .u8 0, .int .u8 0, .int .u8 0, .int .u8 0, .int .u8 0, .int .u8 0, .int .u8 0, .int .u8 0, .int .u8 0, .int .u8 0, .int .u8 0, .int .u8 0, .int .u8 0, .int .u8 0, .int .u8 0, .int .u8 0, .int .u8 0, .int .u8 0, .int .u8 0, .int .u8 0, .int .u8 0, .int .u8 0, .int .u8 0, .int .u8 0, .int .u8 0, .int .u8 0, .int .u8 0, .int .u8 0, .int .u8 0, .int .u8 0, .int .u8 0, .int .u8 0, .int .u8 0, .int .u8 0, .int .u8 0, .int .u8 0, .int .u8 0, .int .u8 0, .int .u8 0, .int .u8 0, .int .u8 0, .int .u8 0, .int .u8 0, .int .u8 0, .int .u8 0, .int .u8 0, .int .u8 0, .int .u8 0, .int .u8 0, .int .u8 0, .int .u8 0, .int .u8 0, .int .u8 0, .int .u8 0, .int .u8 0, .int .u8 0, .int .u8 0, .int .u8 0, .int .u8 0, .int .u8 0, .int .u8 0, .int .u8 0, .int .u8 0, .int .u8 0, .int .u8 0, .int .u8 0, .int .u8 0, .int .u8 0, .int .u8 0, .int .u8 0, .int .u8 0, .int .u8 0, .int .u8 0, .int .u8 0, .int .u8 0, .int .u8 0, .int .u8 0, .int .u8 0, .int .u8 0, .int .u8 0, .int .u8 0, .int .u8 0, .int .u8 0, .int .u8 0, .int .u8 0, .int .u8 0, .int .u8 0, .int .u8 0, .int .u8 0, .int .u8 0, .int .u8 0, .int .u8 0, .int .u8 0, .int .u8 0, .int .u8 0, .int .u8 0, .int .u8 0, .int .u8 0, .int .u8 0, .int .u8 0, .int .u8 0, .int .u8 0, .int .u8 0, .int .u8 0, .int .u8 0, .int .u8 0, .int .u8 0, .int .u8 0, .int .u8 0, .int .u8 0, .int .u8 0, .int .u8 0, .int .u8 0, .int .u8 0, .int .u8 0, .int .u8 0, .int .u8 0, .int .u8 0, .int .u8 0, .int .u8 0, .int .u8 0, .int .u8 0, .int .u8 0, .int .u8 0, .int .u8 0, .int .u8 0, .int .u8 0, .int .u8 0, .int .u8 0, .int .u8 0, .int .u8 0, .int .u8 0, .int .u8 0, .int .u8 0, .int .u8 0, .int .u8 0, .int .u8 0, .int .u8 0, .int .u8 0, .int .u8 0, .int .u8 0, .int .u8 0, .int .u8 0, .int .u8 0, .int .u8 0, .int .u8 0, .int .u8 0, .int .u8 0, .int .u8 0]
  { w0 with heap := h1 }
theorem c_laid (os : Os) (args : Array Value) : laidMet Tryz.prog Rows.wideLesserUptoRow.laid ((c_world os).forCall (fun _ _ => 0) ⟨#[], args, []⟩).memory :=
  laidMet_of_run3 12 (by kernel_rfl) (by kernel_rfl) (by kernel_rfl)
theorem c_gl_strings_asciiSpace {W : World} (h : laidMetH Tryz.prog Rows.wideLesserUptoRow.laid W) : SlG (tI .u8) F0 W gl_strings_asciiSpace (Gh.mk (some ⟨0, 0, none⟩) 256 fun _ _ => .nil) := by
  have h1 : Lib.VarReads Tryz.prog W "strings.asciiSpace" Rows.laid_strings_asciiSpace := Lib.laidMet.reads h (.tail _ (.head _))
  have e1 : (Rows.laid_strings_asciiSpace : DataW Unit) = Lib.tabData .u8 gl_strings_asciiSpace := by kernel_rfl
  rw [e1] at h1
  exact tab_reads (n := 256) (by kernel_rfl) (by kernel_rfl) Tryz.underlying140 Tryz.underlying5 (by kernel_rfl) (by kernel_rfl) (by kernel_rfl) h1 (by kernel_rfl)
def bk_TToken (x : TToken) : Nat := 1 + (x.Text.length + 1) + 1 + (x.Unit.length + 1) + 1 + 1
def wf_TToken (x : TToken) : Prop := (Lit.int .u8 x.Kind).wf = true ∧ x.Text.length ≤ maxLen ∧ (Lit.int .i64 x.Num).wf = true ∧ x.Unit.length ≤ maxLen ∧ True
theorem opn_TToken {H : Type} {W : World} {enc : TypeId × Value → H} : Opb Tryz.prog W enc 61 tyToken wf_TToken bk_TToken := by
  intro n cs x h
  obtain ⟨hl, y, hf, hb⟩ := opb_fields Tryz.underlying61 h
  obtain ⟨k0, h0⟩ := hf 0 _ rfl
  obtain ⟨v0, g0, e0, i0, w0, b0⟩ := (opb_one (opn_int Tryz.underlying5)) _ _ _ h0
  obtain ⟨k1, h1⟩ := hf 1 _ rfl
  obtain ⟨v1, g1, e1, i1, w1, b1⟩ := (opb_str Tryz.underlying9) _ _ _ h1
  obtain ⟨k2, h2⟩ := hf 2 _ rfl
  obtain ⟨v2, g2, e2, i2, w2, b2⟩ := (opb_one (opn_int Tryz.underlying2)) _ _ _ h2
  obtain ⟨k3, h3⟩ := hf 3 _ rfl
  obtain ⟨v3, g3, e3, i3, w3, b3⟩ := (opb_str Tryz.underlying9) _ _ _ h3
  obtain ⟨k4, h4⟩ := hf 4 _ rfl
  obtain ⟨v4, g4, e4, i4, w4, b4⟩ := (opb_one (opn_bool Tryz.underlying4)) _ _ _ h4
  refine ⟨⟨v0, v1, v2, v3, v4⟩, fun _ => .nil, (cut_at (o := 0) (k := 1) (c := Tryz.prog.cellsOf 5) (by kernel_rfl) e0 (cut_at (o := 1) (k := 1) (c := Tryz.prog.cellsOf 9) (by kernel_rfl) e1 (cut_at (o := 2) (k := 1) (c := Tryz.prog.cellsOf 2) (by kernel_rfl) e2 (cut_at (o := 3) (k := 1) (c := Tryz.prog.cellsOf 9) (by kernel_rfl) e3 (cut_at (o := 4) (k := 1) (c := Tryz.prog.cellsOf 4) (by kernel_rfl) e4 (cut_end (o := 5) (hl.trans (by kernel_rfl)))))))), trivial, ⟨w0, w1, w2, w3, w4⟩, ?_⟩
  have hb : Rows.uptoBulk x.1 = Rows.uptoBulk (y 0).1 + (Rows.uptoBulk (y 1).1 + (Rows.uptoBulk (y 2).1 + (Rows.uptoBulk (y 3).1 + (Rows.uptoBulk (y 4).1 + 0)))) + 1 := hb
  have b0 : 1 ≤ Rows.uptoBulk (y 0).1 := b0
  have b1 : (v1.length + 1) ≤ Rows.uptoBulk (y 1).1 := b1
  have b2 : 1 ≤ Rows.uptoBulk (y 2).1 := b2
  have b3 : (v3.length + 1) ≤ Rows.uptoBulk (y 3).1 := b3
  have b4 : 1 ≤ Rows.uptoBulk (y 4).1 := b4
  show 1 + (v1.length + 1) + 1 + (v3.length + 1) + 1 + 1 ≤ _
  omega
theorem opk_TValue {H : Type} {W : World} {enc : TypeId × Value → H} : ∀ K, OpbK K Tryz.prog W enc 63 tyValue wfV zV := by
  intro K
  induction K with
  | zero => intro n hn; omega
  | succ K ih =>
  intro n hn cs x h
  obtain ⟨k, rfl, hl, y, hf, hb⟩ := opk_fields Tryz.underlying63 h
  have h0 := hf 0 _ rfl
  obtain ⟨v0, g0, e0, i0, w0, b0⟩ := opn_TToken _ _ _ h0
  have h1 := hf 1 _ rfl
  obtain ⟨v1, g1, e1, i1, w1, b1⟩ := (opk_slice Tryz.underlying29 (by kernel_rfl) (by kernel_rfl) ih) k (by omega) _ _ h1
  refine ⟨.mk v0 v1, gL [g1 0], (cut_at (o := 0) (k := 5) (c := Tryz.prog.cellsOf 61) (by kernel_rfl) e0 (cut_at (o := 5) (k := 1) (c := Tryz.prog.cellsOf 29) (by kernel_rfl) e1 (cut_end (o := 6) (hl.trans (by kernel_rfl))))), tyValue_mk (i1), ⟨w0, w1.1, wf_all v1 w1.2⟩, ?_⟩
  have hb : Rows.uptoBulk x.1 = Rows.uptoBulk (y 0).1 + (Rows.uptoBulk (y 1).1 + 0) + 1 := hb
  show zT v0 + (zVs v1 + 1) + 1 ≤ _
  have b0 : zT v0 ≤ Rows.uptoBulk (y 0).1 := b0
  have b1 : (v1.map zV).sum + 1 ≤ Rows.uptoBulk (y 1).1 := b1
  have hz := z_map v1
  omega
theorem opn_TValue {H : Type} {W : World} {enc : TypeId × Value → H} : Opb Tryz.prog W enc 63 tyValue wfV zV := fun n cs x h => opk_TValue (n + 1) n (Nat.lt_succ_self n) cs x h
def bk_TLong (x : TLong) : Nat := (x.Name.length + 1) + bkL zV x.Value + (x.Whole.length + 1) + 1
def wf_TLong (x : TLong) : Prop := x.Name.length ≤ maxLen ∧ (x.Value.length ≤ maxLen ∧ ∀ y ∈ x.Value, wfV y) ∧ x.Whole.length ≤ maxLen
theorem opn_TLong {H : Type} {W : World} {enc : TypeId × Value → H} : Opb Tryz.prog W enc 31 tyLong wf_TLong bk_TLong := by
  intro n cs x h
  obtain ⟨hl, y, hf, hb⟩ := opb_fields Tryz.underlying31 h
  obtain ⟨k0, h0⟩ := hf 0 _ rfl
  obtain ⟨v0, g0, e0, i0, w0, b0⟩ := (opb_str Tryz.underlying9) _ _ _ h0
  obtain ⟨k1, h1⟩ := hf 1 _ rfl
  obtain ⟨v1, g1, e1, i1, w1, b1⟩ := (opb_slice Tryz.underlying29 (by kernel_rfl) (by kernel_rfl) opn_TValue) _ _ _ h1
  obtain ⟨k2, h2⟩ := hf 2 _ rfl
  obtain ⟨v2, g2, e2, i2, w2, b2⟩ := (opb_str Tryz.underlying9) _ _ _ h2
  refine ⟨⟨v0, v1, v2⟩, gL [g1 0], (cut_at (o := 0) (k := 1) (c := Tryz.prog.cellsOf 9) (by kernel_rfl) e0 (cut_at (o := 1) (k := 1) (c := Tryz.prog.cellsOf 29) (by kernel_rfl) e1 (cut_at (o := 2) (k := 1) (c := Tryz.prog.cellsOf 9) (by kernel_rfl) e2 (cut_end (o := 3) (hl.trans (by kernel_rfl)))))), tyLong_mk (i1), ⟨w0, w1, w2⟩, ?_⟩
  have hb : Rows.uptoBulk x.1 = Rows.uptoBulk (y 0).1 + (Rows.uptoBulk (y 1).1 + (Rows.uptoBulk (y 2).1 + 0)) + 1 := hb
  have b0 : (v0.length + 1) ≤ Rows.uptoBulk (y 0).1 := b0
  have b1 : bkL zV v1 ≤ Rows.uptoBulk (y 1).1 := b1
  have b2 : (v2.length + 1) ≤ Rows.uptoBulk (y 2).1 := b2
  show (v0.length + 1) + bkL zV v1 + (v2.length + 1) + 1 ≤ _
  omega
def bk_TWeight (x : TWeight) : Nat := 1 + 1 + 1 + 1
def wf_TWeight (x : TWeight) : Prop := (Lit.int .i64 x.e0).wf = true ∧ (Lit.int .i64 x.e1).wf = true ∧ (Lit.int .i64 x.e2).wf = true
theorem opn_TWeight {H : Type} {W : World} {enc : TypeId × Value → H} : Opb Tryz.prog W enc 33 tyWeight wf_TWeight bk_TWeight := by
  intro n cs x h
  obtain ⟨hl, y, hf, hb⟩ := opb_elems Tryz.underlying33 h
  obtain ⟨k0, h0⟩ := hf 0 (by decide)
  obtain ⟨v0, g0, e0, i0, w0, b0⟩ := (opb_one (opn_int Tryz.underlying3)) _ _ _ h0
  obtain ⟨k1, h1⟩ := hf 1 (by decide)
  obtain ⟨v1, g1, e1, i1, w1, b1⟩ := (opb_one (opn_int Tryz.underlying3)) _ _ _ h1
  obtain ⟨k2, h2⟩ := hf 2 (by decide)
  obtain ⟨v2, g2, e2, i2, w2, b2⟩ := (opb_one (opn_int Tryz.underlying3)) _ _ _ h2
  refine ⟨⟨v0, v1, v2⟩, fun _ => .nil, (cut_at (o := 0) (k := 1) (c := Tryz.prog.cellsOf 3) (by kernel_rfl) e0 (cut_at (o := 1) (k := 1) (c := Tryz.prog.cellsOf 3) (by kernel_rfl) e1 (cut_at (o := 2) (k := 1) (c := Tryz.prog.cellsOf 3) (by kernel_rfl) e2 (cut_end (o := 3) (hl.trans (by kernel_rfl)))))), trivial, ⟨w0, w1, w2⟩, ?_⟩
  have hb : Rows.uptoBulk x.1 = Rows.uptoBulk (y 0).1 + (Rows.uptoBulk (y 1).1 + (Rows.uptoBulk (y 2).1 + 0)) + 1 := hb
  have b0 : 1 ≤ Rows.uptoBulk (y 0).1 := b0
  have b1 : 1 ≤ Rows.uptoBulk (y 1).1 := b1
  have b2 : 1 ≤ Rows.uptoBulk (y 2).1 := b2
  show 1 + 1 + 1 + 1 ≤ _
  omega
def bk_TDeclared (x : TDeclared) : Nat := bk_TLong x.Long + 1 + 1 + 1 + 1 + bk_TWeight x.Weight + 1 + 1
def wf_TDeclared (x : TDeclared) : Prop := wf_TLong x.Long ∧ True ∧ (Lit.int .u8 x.Origin).wf = true ∧ True ∧ (Lit.int .i64 x.Layer).wf = true ∧ wf_TWeight x.Weight ∧ (Lit.int .i64 x.Order).wf = true
theorem opn_TDeclared {H : Type} {W : World} {enc : TypeId × Value → H} : Opb Tryz.prog W enc 35 tyDeclared wf_TDeclared bk_TDeclared := by
  intro n cs x h
  obtain ⟨hl, y, hf, hb⟩ := opb_fields Tryz.underlying35 h
  obtain ⟨k0, h0⟩ := hf 0 _ rfl
  obtain ⟨v0, g0, e0, i0, w0, b0⟩ := opn_TLong _ _ _ h0
  obtain ⟨k1, h1⟩ := hf 1 _ rfl
  obtain ⟨v1, g1, e1, i1, w1, b1⟩ := (opb_one (opn_bool Tryz.underlying4)) _ _ _ h1
  obtain ⟨k2, h2⟩ := hf 2 _ rfl
  obtain ⟨v2, g2, e2, i2, w2, b2⟩ := (opb_one (opn_int Tryz.underlying5)) _ _ _ h2
  obtain ⟨k3, h3⟩ := hf 3 _ rfl
  obtain ⟨v3, g3, e3, i3, w3, b3⟩ := (opb_one (opn_bool Tryz.underlying4)) _ _ _ h3
  obtain ⟨k4, h4⟩ := hf 4 _ rfl
  obtain ⟨v4, g4, e4, i4, w4, b4⟩ := (opb_one (opn_int Tryz.underlying3)) _ _ _ h4
  obtain ⟨k5, h5⟩ := hf 5 _ rfl
  obtain ⟨v5, g5, e5, i5, w5, b5⟩ := opn_TWeight _ _ _ h5
  obtain ⟨k6, h6⟩ := hf 6 _ rfl
  obtain ⟨v6, g6, e6, i6, w6, b6⟩ := (opb_one (opn_int Tryz.underlying3)) _ _ _ h6
  refine ⟨⟨v0, v1, v2, v3, v4, v5, v6⟩, gL [g0 0], (cut_at (o := 0) (k := 3) (c := Tryz.prog.cellsOf 31) (by kernel_rfl) e0 (cut_at (o := 3) (k := 1) (c := Tryz.prog.cellsOf 4) (by kernel_rfl) e1 (cut_at (o := 4) (k := 1) (c := Tryz.prog.cellsOf 5) (by kernel_rfl) e2 (cut_at (o := 5) (k := 1) (c := Tryz.prog.cellsOf 4) (by kernel_rfl) e3 (cut_at (o := 6) (k := 1) (c := Tryz.prog.cellsOf 3) (by kernel_rfl) e4 (cut_at (o := 7) (k := 3) (c := Tryz.prog.cellsOf 33) (by kernel_rfl) e5 (cut_at (o := 10) (k := 1) (c := Tryz.prog.cellsOf 3) (by kernel_rfl) e6 (cut_end (o := 11) (hl.trans (by kernel_rfl)))))))))), tyDeclared_mk (tyLong_i0 i0), ⟨w0, w1, w2, w3, w4, w5, w6⟩, ?_⟩
  have hb : Rows.uptoBulk x.1 = Rows.uptoBulk (y 0).1 + (Rows.uptoBulk (y 1).1 + (Rows.uptoBulk (y 2).1 + (Rows.uptoBulk (y 3).1 + (Rows.uptoBulk (y 4).1 + (Rows.uptoBulk (y 5).1 + (Rows.uptoBulk (y 6).1 + 0)))))) + 1 := hb
  have b0 : bk_TLong v0 ≤ Rows.uptoBulk (y 0).1 := b0
  have b1 : 1 ≤ Rows.uptoBulk (y 1).1 := b1
  have b2 : 1 ≤ Rows.uptoBulk (y 2).1 := b2
  have b3 : 1 ≤ Rows.uptoBulk (y 3).1 := b3
  have b4 : 1 ≤ Rows.uptoBulk (y 4).1 := b4
  have b5 : bk_TWeight v5 ≤ Rows.uptoBulk (y 5).1 := b5
  have b6 : 1 ≤ Rows.uptoBulk (y 6).1 := b6
  show bk_TLong v0 + 1 + 1 + 1 + 1 + bk_TWeight v5 + 1 + 1 ≤ _
  omega
end Go.Proofs.YtehlikdeobajcaaGreatDoor
