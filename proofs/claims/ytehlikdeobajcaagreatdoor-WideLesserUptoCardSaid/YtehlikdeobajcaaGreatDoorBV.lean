/-
 Component values: how large they are, and what a reading says of them. No program in sight.
-/
import Derived.Test.YtehlikdeobajcaaGreatDoorM
set_option linter.unusedVariables false
namespace Go.Proofs.YtehlikdeobajcaaGreatDoor
open Go Go.V Go.RowKit
def zT (x : TToken) : Nat := 1 + (x.Text.length + 1) + 1 + (x.Unit.length + 1) + 1 + 1
mutual
def zV : TValue → Nat
 | .mk t l => zT t + (zVs l + 1) + 1
def zVs : List TValue → Nat
 | [] => 0
 | v :: r => zV v + zVs r
end
theorem z_map : ∀ l : List TValue, zVs l = (l.map zV).sum
 | [] => rfl
 | y :: l => by rw [zVs, z_map l]; rfl
def wfT (x : TToken) : Prop := (Lit.int .u8 x.Kind).wf = true ∧ x.Text.length ≤ maxLen ∧ (Lit.int .i64 x.Num).wf = true ∧ x.Unit.length ≤ maxLen ∧ True
mutual
def wfV : TValue → Prop
 | .mk t l => wfT t ∧ l.length ≤ maxLen ∧ wfVs l
def wfVs : List TValue → Prop
 | [] => True
 | v :: r => wfV v ∧ wfVs r
end
theorem wf_all : ∀ l : List TValue, (∀ x ∈ l, wfV x) → wfVs l
 | [], _ => trivial
 | y :: l, h => by
  rw [wfVs]
  exact ⟨h y List.mem_cons_self, wf_all l fun x hx => h x (List.mem_cons_of_mem _ hx)⟩
end Go.Proofs.YtehlikdeobajcaaGreatDoor
