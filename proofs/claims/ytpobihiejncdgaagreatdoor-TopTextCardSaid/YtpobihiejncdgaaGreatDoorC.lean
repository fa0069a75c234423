/-
  What the laws of this seat share: what the listed variables hold, a world that fits, what comes in.
-/
import Derived.Test.YtpobihiejncdgaaGreatDoorA4
import Derived.Test.YtpobihiejncdgaaGreatDoorRows
import Derived.Test.YtpobihiejncdgaaGreatDoorWFb
import Derived.Deep.DeepHandedRow
import Derived.Deep.DeepWitnessRowRef
import Derived.ProofKit
import Derived.Lib.LaidU8
import Derived.Deep.DeepLaidRun
namespace Go.Proofs.YtpobihiejncdgaaGreatDoor
open Go.V Go.RowKit
set_option linter.unusedVariables false
set_option maxRecDepth 100000
theorem aj3:ownKnob Tryz.prog.godebug=none:=by kernel_rfl
theorem aj4:laidOutB Tryz.prog=true:=by kernel_rfl
noncomputable def OJ (os:Os):World:=
  let w0:=World.holding Tryz.prog os ⟨#[],#[],[]⟩
  let put (h:Array Obj) (g:Nat) (cs:Array Value):Array Obj:=h.modify g fun
    | .cells _ t frozen=>.cells cs t frozen
    |o=>o
  let h0:=put w0.heap 4 #[.int .u8 0,.int .u8 1,.int .u8 28,.int .u8 2,.int .u8 29,.int .u8 14,.int .u8 24,.int .u8 3,.int .u8 30,.int .u8 22,.int .u8 20,.int .u8 15,.int .u8 25,.int .u8 17,.int .u8 4,.int .u8 8,.int .u8 31,.int .u8 27,.int .u8 13,.int .u8 23,.int .u8 21,.int .u8 19,.int .u8 16,.int .u8 7,.int .u8 26,.int .u8 12,.int .u8 18,.int .u8 6,.int .u8 11,.int .u8 5,.int .u8 10,.int .u8 9]
  let h1:=put h0 5 #[.int .u8 0,.int .u8 1,.int .u8 56,.int .u8 2,.int .u8 57,.int .u8 49,.int .u8 28,.int .u8 3,.int .u8 61,.int .u8 58,.int .u8 42,.int .u8 50,.int .u8 38,.int .u8 29,.int .u8 17,.int .u8 4,.int .u8 62,.int .u8 47,.int .u8 59,.int .u8 36,.int .u8 45,.int .u8 43,.int .u8 51,.int .u8 22,.int .u8 53,.int .u8 39,.int .u8 33,.int .u8 30,.int .u8 24,.int .u8 18,.int .u8 12,.int .u8 5,.int .u8 63,.int .u8 55,.int .u8 48,.int .u8 27,.int .u8 60,.int .u8 41,.int .u8 37,.int .u8 16,.int .u8 46,.int .u8 35,.int .u8 44,.int .u8 21,.int .u8 52,.int .u8 32,.int .u8 23,.int .u8 11,.int .u8 54,.int .u8 26,.int .u8 40,.int .u8 15,.int .u8 34,.int .u8 20,.int .u8 31,.int .u8 10,.int .u8 25,.int .u8 14,.int .u8 19,.int .u8 9,.int .u8 13,.int .u8 8,.int .u8 7,.int .u8 6]
  let h2:=put h1 1 #[.int .u64 1,.int .u64 10,.int .u64 100,.int .u64 1000,.int .u64 10000,.int .u64 100000,.int .u64 1000000,.int .u64 10000000,.int .u64 100000000,.int .u64 1000000000,.int .u64 10000000000,.int .u64 100000000000,.int .u64 1000000000000,.int .u64 10000000000000,.int .u64 100000000000000,.int .u64 1000000000000000,.int .u64 10000000000000000,.int .u64 100000000000000000,.int .u64 1000000000000000000,.int .u64 10000000000000000000]
  let h3:=put h2 3 #[.int .u8 128,.int .u8 191,.int .u8 160,.int .u8 191,.int .u8 128,.int .u8 159,.int .u8 144,.int .u8 191,.int .u8 128,.int .u8 143,.int .u8 0,.int .u8 0,.int .u8 0,.int .u8 0,.int .u8 0,.int .u8 0,.int .u8 0,.int .u8 0,.int .u8 0,.int .u8 0,.int .u8 0,.int .u8 0,.int .u8 0,.int .u8 0,.int .u8 0,.int .u8 0,.int .u8 0,.int .u8 0,.int .u8 0,.int .u8 0,.int .u8 0,.int .u8 0]
  let h4:=put h3 2 (Lib.firstTab.map fun z=>Value.int .u8 z).toArray
  {w0 with heap:=h4}
theorem aj5(os:Os)(args:Array Value):laidMet Tryz.prog Rows.topTextRow.laid ((OJ os).forCall (fun _ _=>0) ⟨#[],args,[]⟩).memory:=
  laidMet_of_run3 12 (by kernel_rfl) (by kernel_rfl) (by kernel_rfl)
theorem aj6{W:World}(h:laidMetH Tryz.prog Rows.topTextRow.laid W):cI (tI .u8) F0 W E5 (Gh.mk (some ⟨5,0,none⟩) 64 fun _ _=>.nil):=by
  have h1:Lib.VarReads Tryz.prog W "math/bits.deBruijn64tab" Rows.laid_math_bits_deBruijn64tab:=Lib.laidMet.reads h (.tail _ (.head _));have e1:(Rows.laid_math_bits_deBruijn64tab:DataW Unit)=Lib.tabData .u8 E5:=by kernel_rfl
  rw[e1]at h1;exact a7J (n:=64) (by kernel_rfl) (by kernel_rfl) Tryz.underlying243 Tryz.underlying5 (by kernel_rfl) (by kernel_rfl) (by kernel_rfl) h1 (by kernel_rfl)
theorem aj7{W:World}(h:laidMetH Tryz.prog Rows.topTextRow.laid W):(aj.mD 1 (Lib.pow10Tab.map fun z=>Value.int .u64 z)).p F0 W:=by
  have h1:Lib.VarReads Tryz.prog W "internal/strconv.uint64pow10" Rows.laid_internal_strconv_uint64pow10:=Lib.laidMet.reads h (.tail _ (.tail _ (.head _)));have e1:(Rows.laid_internal_strconv_uint64pow10:DataW Unit)=Lib.tabData .u64 Lib.pow10Tab:=by kernel_rfl
  rw[e1]at h1;exact a7M (n:=20) (by kernel_rfl) (by kernel_rfl) Tryz.underlying235 Tryz.underlying168 (by kernel_rfl) (by kernel_rfl) h1
end Go.Proofs.YtpobihiejncdgaaGreatDoor
