/-
  No cell of these rows narrows 'for every input' (looked for: loops, veiled, ifaces, maps, wideKeys, modest, calm, conditions, laid).
  DERIVED. THE GIVEN ROWS OF THIS SEAT. 8 by the template 'for every input the law returns true; each argument reads behind the call as it read before'; 0 by the template 'total and deterministic' (their statements: YtihckkbhieblkaaTotals.lean).
  GIVEN WITH THE SEED: the statements are not yours to turn. If you find one false, say at which input.
  Laid BY PROGRAM, IN A SANDBOX (cutbox-rows.mjs): the forced cells as the released guide's own fill.sh prints them over the translation a7ace0569b4b2472… (all of the seat's roots in one cut). By AI agents, Wed Nov 11 2026. No macro, syntax, notation, axiom, sorry.
-/
import Derived.Test.YtihckkbhieblkaaChecked
import GoSem.Claim
import GoSem.ClaimJoined
import GoSem.ClaimMapViews
import Derived.JoinedTies
import Derived.KernelRfl
namespace Go.Proofs.Ytihckkbhieblkaa
/- THE CELL 'sum', in the pinned program and in every row, IS THE sha256 OF THE DUMP (.gsa) THAT YtihckkbhieblkaaProg.lean LOADS. Nothing in Lean hashes anything: it is a label: what it is worth is what the hold of that sum in a sandbox is worth. -/
noncomputable def Try.pinned : Pinned := { name := "ytihckkbhieblkaa", sum := "a7ace0569b4b2472d1b394ee3a5299bf2da8d1f2548c4c9553d4b203328a541a", checked := Try.checked }
namespace Rows
def none {H : Type} : Left H := { results := [], args := [] }

/-- 'vitrinelaw01.InputSmall': WHATEVER THE INPUT: true; the input reads as it did. -/
def inputSmallSpec : ChangeSpec := { name := "inputSmall", fn := fun _ => fun
  | [d1, d2] => { results := [.lit (.bool true)], args := [d1, d2] }
  | _ => none }
def inputSmallRow : OpenClaim := { program := "ytihckkbhieblkaa", sum := "a7ace0569b4b2472d1b394ee3a5299bf2da8d1f2548c4c9553d4b203328a541a", func := "vitrine/vitrinelaw01.InputSmall", spec := "inputSmall", apart := false }
def InputSmallSaid : Prop := inputSmallRow.holds Try.pinned (OpenSpec.ofChange inputSmallSpec)

/-- ITS FALSE NEIGHBOUR: 'it returns false'. Refute it at one input. -/
def inputSmallWrong : ChangeSpec := { name := "inputSmall", fn := fun _ => fun
  | [d1, d2] => { results := [.lit (.bool false)], args := [d1, d2] }
  | _ => none }
def InputSmallWrongFalsely : Prop := inputSmallRow.holds Try.pinned (OpenSpec.ofChange inputSmallWrong)

/-- 'vitrinelaw01.InputCleans': WHATEVER THE INPUT: true; the input reads as it did. -/
def inputCleansSpec : ChangeSpec := { name := "inputCleans", fn := fun _ => fun
  | [d1, d2] => { results := [.lit (.bool true)], args := [d1, d2] }
  | _ => none }
def inputCleansRow : OpenClaim := { program := "ytihckkbhieblkaa", sum := "a7ace0569b4b2472d1b394ee3a5299bf2da8d1f2548c4c9553d4b203328a541a", func := "vitrine/vitrinelaw01.InputCleans", spec := "inputCleans", inPlace := ["sync/atomic.LoadUint32", "(*internal/sync.Mutex).Lock", "internal/race.Disable", "sync/atomic.CompareAndSwapInt32", "internal/race.Enable", "internal/race.Acquire", "(*internal/sync.Mutex).lockSlow", "internal/sync.runtime_canSpin", "internal/sync.runtime_doSpin", "internal/sync.throw", "internal/sync.runtime_nanotime", "internal/sync.runtime_SemacquireMutex", "sync/atomic.AddInt32", "(*internal/sync.Mutex).Unlock", "internal/race.ReleaseMerge", "(*internal/sync.Mutex).unlockSlow", "internal/sync.fatal", "internal/sync.runtime_Semrelease", "sync/atomic.StoreUint32", "internal/bytealg.IndexByteString", "internal/bytealg.IndexString", "internal/bytealg.CountString"], unfollowed := true, recurses := true, named := ["internal/bytealg.MaxLen"], apart := false }
def InputCleansSaid : Prop := inputCleansRow.holds Try.pinned (OpenSpec.ofChange inputCleansSpec)

/-- ITS FALSE NEIGHBOUR: 'it returns false'. Refute it at one input. -/
def inputCleansWrong : ChangeSpec := { name := "inputCleans", fn := fun _ => fun
  | [d1, d2] => { results := [.lit (.bool false)], args := [d1, d2] }
  | _ => none }
def InputCleansWrongFalsely : Prop := inputCleansRow.holds Try.pinned (OpenSpec.ofChange inputCleansWrong)

/-- 'vitrinelaw01.InputNames': WHATEVER THE INPUT: true; the input reads as it did. -/
def inputNamesSpec : ChangeSpec := { name := "inputNames", fn := fun _ => fun
  | [] => { results := [.lit (.bool true)], args := [] }
  | _ => none }
def inputNamesRow : OpenClaim := { program := "ytihckkbhieblkaa", sum := "a7ace0569b4b2472d1b394ee3a5299bf2da8d1f2548c4c9553d4b203328a541a", func := "vitrine/vitrinelaw01.InputNames", spec := "inputNames", inPlace := ["sync/atomic.LoadUint32", "(*internal/sync.Mutex).Lock", "internal/race.Disable", "sync/atomic.CompareAndSwapInt32", "internal/race.Enable", "internal/race.Acquire", "(*internal/sync.Mutex).lockSlow", "internal/sync.runtime_canSpin", "internal/sync.runtime_doSpin", "internal/sync.throw", "internal/sync.runtime_nanotime", "internal/sync.runtime_SemacquireMutex", "sync/atomic.AddInt32", "(*internal/sync.Mutex).Unlock", "internal/race.ReleaseMerge", "(*internal/sync.Mutex).unlockSlow", "internal/sync.fatal", "internal/sync.runtime_Semrelease", "sync/atomic.StoreUint32", "internal/bytealg.IndexByteString", "internal/bytealg.IndexString", "internal/bytealg.CountString"], unfollowed := true, recurses := true, named := ["internal/bytealg.MaxLen"], apart := false }
def InputNamesSaid : Prop := inputNamesRow.holds Try.pinned (OpenSpec.ofChange inputNamesSpec)

/-- ITS FALSE NEIGHBOUR: 'it returns false'. Refute it at one input. -/
def inputNamesWrong : ChangeSpec := { name := "inputNames", fn := fun _ => fun
  | [] => { results := [.lit (.bool false)], args := [] }
  | _ => none }
def InputNamesWrongFalsely : Prop := inputNamesRow.holds Try.pinned (OpenSpec.ofChange inputNamesWrong)

/-- 'vitrinelaw01.InputOnce': WHATEVER THE INPUT: true; the input reads as it did. -/
def inputOnceSpec : ChangeSpec := { name := "inputOnce", fn := fun _ => fun
  | [d] => { results := [.lit (.bool true)], args := [d] }
  | _ => none }
def inputOnceRow : OpenClaim := { program := "ytihckkbhieblkaa", sum := "a7ace0569b4b2472d1b394ee3a5299bf2da8d1f2548c4c9553d4b203328a541a", func := "vitrine/vitrinelaw01.InputOnce", spec := "inputOnce", inPlace := ["sync/atomic.LoadUint32", "(*internal/sync.Mutex).Lock", "internal/race.Disable", "sync/atomic.CompareAndSwapInt32", "internal/race.Enable", "internal/race.Acquire", "(*internal/sync.Mutex).lockSlow", "internal/sync.runtime_canSpin", "internal/sync.runtime_doSpin", "internal/sync.throw", "internal/sync.runtime_nanotime", "internal/sync.runtime_SemacquireMutex", "sync/atomic.AddInt32", "(*internal/sync.Mutex).Unlock", "internal/race.ReleaseMerge", "(*internal/sync.Mutex).unlockSlow", "internal/sync.fatal", "internal/sync.runtime_Semrelease", "sync/atomic.StoreUint32", "internal/bytealg.IndexByteString", "internal/bytealg.IndexString", "internal/bytealg.CountString"], unfollowed := true, recurses := true, named := ["internal/bytealg.MaxLen"], apart := false }
def InputOnceSaid : Prop := inputOnceRow.holds Try.pinned (OpenSpec.ofChange inputOnceSpec)

/-- ITS FALSE NEIGHBOUR: 'it returns false'. Refute it at one input. -/
def inputOnceWrong : ChangeSpec := { name := "inputOnce", fn := fun _ => fun
  | [d] => { results := [.lit (.bool false)], args := [d] }
  | _ => none }
def InputOnceWrongFalsely : Prop := inputOnceRow.holds Try.pinned (OpenSpec.ofChange inputOnceWrong)

/-- 'vitrinelaw01.InputParts': WHATEVER THE INPUT: true; the input reads as it did. -/
def inputPartsSpec : ChangeSpec := { name := "inputParts", fn := fun _ => fun
  | [d1, d2] => { results := [.lit (.bool true)], args := [d1, d2] }
  | _ => none }
def inputPartsRow : OpenClaim := { program := "ytihckkbhieblkaa", sum := "a7ace0569b4b2472d1b394ee3a5299bf2da8d1f2548c4c9553d4b203328a541a", func := "vitrine/vitrinelaw01.InputParts", spec := "inputParts", inPlace := ["sync/atomic.LoadUint32", "(*internal/sync.Mutex).Lock", "internal/race.Disable", "sync/atomic.CompareAndSwapInt32", "internal/race.Enable", "internal/race.Acquire", "(*internal/sync.Mutex).lockSlow", "internal/sync.runtime_canSpin", "internal/sync.runtime_doSpin", "internal/sync.throw", "internal/sync.runtime_nanotime", "internal/sync.runtime_SemacquireMutex", "sync/atomic.AddInt32", "(*internal/sync.Mutex).Unlock", "internal/race.ReleaseMerge", "(*internal/sync.Mutex).unlockSlow", "internal/sync.fatal", "internal/sync.runtime_Semrelease", "sync/atomic.StoreUint32", "internal/bytealg.IndexByteString", "internal/bytealg.IndexString", "internal/bytealg.CountString"], unfollowed := true, recurses := true, named := ["internal/bytealg.MaxLen"], apart := false }
def InputPartsSaid : Prop := inputPartsRow.holds Try.pinned (OpenSpec.ofChange inputPartsSpec)

/-- ITS FALSE NEIGHBOUR: 'it returns false'. Refute it at one input. -/
def inputPartsWrong : ChangeSpec := { name := "inputParts", fn := fun _ => fun
  | [d1, d2] => { results := [.lit (.bool false)], args := [d1, d2] }
  | _ => none }
def InputPartsWrongFalsely : Prop := inputPartsRow.holds Try.pinned (OpenSpec.ofChange inputPartsWrong)

/-- 'vitrinelaw01.InputBytes': WHATEVER THE INPUT: true; the input reads as it did. -/
def inputBytesSpec : ChangeSpec := { name := "inputBytes", fn := fun _ => fun
  | [d] => { results := [.lit (.bool true)], args := [d] }
  | _ => none }
def inputBytesRow : OpenClaim := { program := "ytihckkbhieblkaa", sum := "a7ace0569b4b2472d1b394ee3a5299bf2da8d1f2548c4c9553d4b203328a541a", func := "vitrine/vitrinelaw01.InputBytes", spec := "inputBytes", inPlace := ["sync/atomic.LoadUint32", "(*internal/sync.Mutex).Lock", "internal/race.Disable", "sync/atomic.CompareAndSwapInt32", "internal/race.Enable", "internal/race.Acquire", "(*internal/sync.Mutex).lockSlow", "internal/sync.runtime_canSpin", "internal/sync.runtime_doSpin", "internal/sync.throw", "internal/sync.runtime_nanotime", "internal/sync.runtime_SemacquireMutex", "sync/atomic.AddInt32", "(*internal/sync.Mutex).Unlock", "internal/race.ReleaseMerge", "(*internal/sync.Mutex).unlockSlow", "internal/sync.fatal", "internal/sync.runtime_Semrelease", "sync/atomic.StoreUint32", "internal/bytealg.IndexByteString", "internal/bytealg.IndexString", "internal/bytealg.CountString"], unfollowed := true, recurses := true, named := ["internal/bytealg.MaxLen"], apart := false }
def InputBytesSaid : Prop := inputBytesRow.holds Try.pinned (OpenSpec.ofChange inputBytesSpec)

/-- ITS FALSE NEIGHBOUR: 'it returns false'. Refute it at one input. -/
def inputBytesWrong : ChangeSpec := { name := "inputBytes", fn := fun _ => fun
  | [d] => { results := [.lit (.bool false)], args := [d] }
  | _ => none }
def InputBytesWrongFalsely : Prop := inputBytesRow.holds Try.pinned (OpenSpec.ofChange inputBytesWrong)

/-- 'vitrinelaw01.InputPlaces': WHATEVER THE INPUT: true; the input reads as it did. -/
def inputPlacesSpec : ChangeSpec := { name := "inputPlaces", fn := fun _ => fun
  | [d1, d2] => { results := [.lit (.bool true)], args := [d1, d2] }
  | _ => none }
def inputPlacesRow : OpenClaim := { program := "ytihckkbhieblkaa", sum := "a7ace0569b4b2472d1b394ee3a5299bf2da8d1f2548c4c9553d4b203328a541a", func := "vitrine/vitrinelaw01.InputPlaces", spec := "inputPlaces", inPlace := ["sync/atomic.LoadUint32", "(*internal/sync.Mutex).Lock", "internal/race.Disable", "sync/atomic.CompareAndSwapInt32", "internal/race.Enable", "internal/race.Acquire", "(*internal/sync.Mutex).lockSlow", "internal/sync.runtime_canSpin", "internal/sync.runtime_doSpin", "internal/sync.throw", "internal/sync.runtime_nanotime", "internal/sync.runtime_SemacquireMutex", "sync/atomic.AddInt32", "(*internal/sync.Mutex).Unlock", "internal/race.ReleaseMerge", "(*internal/sync.Mutex).unlockSlow", "internal/sync.fatal", "internal/sync.runtime_Semrelease", "sync/atomic.StoreUint32", "internal/bytealg.IndexByteString", "internal/bytealg.IndexString", "internal/bytealg.CountString"], unfollowed := true, recurses := true, named := ["internal/bytealg.MaxLen"], apart := false }
def InputPlacesSaid : Prop := inputPlacesRow.holds Try.pinned (OpenSpec.ofChange inputPlacesSpec)

/-- ITS FALSE NEIGHBOUR: 'it returns false'. Refute it at one input. -/
def inputPlacesWrong : ChangeSpec := { name := "inputPlaces", fn := fun _ => fun
  | [d1, d2] => { results := [.lit (.bool false)], args := [d1, d2] }
  | _ => none }
def InputPlacesWrongFalsely : Prop := inputPlacesRow.holds Try.pinned (OpenSpec.ofChange inputPlacesWrong)

/-- 'vitrinelaw01.InputLetters': WHATEVER THE INPUT: true; the input reads as it did. -/
def inputLettersSpec : ChangeSpec := { name := "inputLetters", fn := fun _ => fun
  | [d1, d2, d3] => { results := [.lit (.bool true)], args := [d1, d2, d3] }
  | _ => none }
def inputLettersRow : OpenClaim := { program := "ytihckkbhieblkaa", sum := "a7ace0569b4b2472d1b394ee3a5299bf2da8d1f2548c4c9553d4b203328a541a", func := "vitrine/vitrinelaw01.InputLetters", spec := "inputLetters", inPlace := ["sync/atomic.LoadUint32", "(*internal/sync.Mutex).Lock", "internal/race.Disable", "sync/atomic.CompareAndSwapInt32", "internal/race.Enable", "internal/race.Acquire", "(*internal/sync.Mutex).lockSlow", "internal/sync.runtime_canSpin", "internal/sync.runtime_doSpin", "internal/sync.throw", "internal/sync.runtime_nanotime", "internal/sync.runtime_SemacquireMutex", "sync/atomic.AddInt32", "(*internal/sync.Mutex).Unlock", "internal/race.ReleaseMerge", "(*internal/sync.Mutex).unlockSlow", "internal/sync.fatal", "internal/sync.runtime_Semrelease", "sync/atomic.StoreUint32", "internal/bytealg.IndexByteString", "internal/bytealg.IndexString", "internal/bytealg.CountString"], unfollowed := true, recurses := true, named := ["internal/bytealg.MaxLen"], apart := false }
def InputLettersSaid : Prop := inputLettersRow.holds Try.pinned (OpenSpec.ofChange inputLettersSpec)

/-- ITS FALSE NEIGHBOUR: 'it returns false'. Refute it at one input. -/
def inputLettersWrong : ChangeSpec := { name := "inputLetters", fn := fun _ => fun
  | [d1, d2, d3] => { results := [.lit (.bool false)], args := [d1, d2, d3] }
  | _ => none }
def InputLettersWrongFalsely : Prop := inputLettersRow.holds Try.pinned (OpenSpec.ofChange inputLettersWrong)

/- THE SECOND FORM. 'bulk': how many values and letters a reading holds, each counted each time it is reached (what is shared counts as often as it is met; a slice's spare places count too). A statement '..UptoSaid' is the law's where the arguments, and the package variables that the reading takes, are together of bulk at most 1048576: NARROWER than '..Said'. Prove '..Said' where nothing that the law and all that it calls make is longer than what came in: it says more and counts as full. Else prove '..UptoSaid'. A law counts once. -/
mutual
def uptoBulk {H : Type} : DataW H → Nat
  | .lit (.string bytes) => bytes.length + 1
  | .lit _ => 1
  | .nil => 1
  | .ptr d => uptoBulk d + 1
  | .slice elems spare => uptoBulkAll elems + uptoBulkAll spare + 1
  | .agg parts => uptoBulkAll parts + 1
  | .iface _ d => uptoBulk d + 1
  | .map entries => uptoBulkEntries entries + 1
  | .held _ => 1
def uptoBulkAll {H : Type} : List (DataW H) → Nat
  | [] => 0
  | d :: r => uptoBulk d + uptoBulkAll r
def uptoBulkEntries {H : Type} : List (Lit × DataW H) → Nat
  | [] => 0
  | x :: r => uptoBulkEntry x + uptoBulkEntries r
def uptoBulkEntry {H : Type} : Lit × DataW H → Nat
  | (.string bytes, d) => bytes.length + uptoBulk d + 1
  | (_, d) => uptoBulk d + 1
 end
def uptoSmall : (H : Type) → List (DataW H) → Bool := fun _ ds => decide (uptoBulkAll ds ≤ 1048576)
def OpenSpec.upto (s : _root_.Go.ChangeSpec) : _root_.Go.OpenSpec := { _root_.Go.OpenSpec.ofChange s with cond := some uptoSmall }

/-- 'vitrinelaw01.InputSmall', WHERE WHAT IT READS IS OF BULK AT MOST 1048576: true; the input reads as it did. -/
def inputSmallUptoRow : OpenClaim := { program := "ytihckkbhieblkaa", sum := "a7ace0569b4b2472d1b394ee3a5299bf2da8d1f2548c4c9553d4b203328a541a", func := "vitrine/vitrinelaw01.InputSmall", spec := "inputSmall", apart := false, narrowed := true }
def InputSmallUptoSaid : Prop := inputSmallUptoRow.holds Try.pinned (OpenSpec.upto inputSmallSpec)

/-- 'vitrinelaw01.InputCleans', WHERE WHAT IT READS IS OF BULK AT MOST 1048576: true; the input reads as it did. -/
def inputCleansUptoRow : OpenClaim := { program := "ytihckkbhieblkaa", sum := "a7ace0569b4b2472d1b394ee3a5299bf2da8d1f2548c4c9553d4b203328a541a", func := "vitrine/vitrinelaw01.InputCleans", spec := "inputCleans", inPlace := ["sync/atomic.LoadUint32", "(*internal/sync.Mutex).Lock", "internal/race.Disable", "sync/atomic.CompareAndSwapInt32", "internal/race.Enable", "internal/race.Acquire", "(*internal/sync.Mutex).lockSlow", "internal/sync.runtime_canSpin", "internal/sync.runtime_doSpin", "internal/sync.throw", "internal/sync.runtime_nanotime", "internal/sync.runtime_SemacquireMutex", "sync/atomic.AddInt32", "(*internal/sync.Mutex).Unlock", "internal/race.ReleaseMerge", "(*internal/sync.Mutex).unlockSlow", "internal/sync.fatal", "internal/sync.runtime_Semrelease", "sync/atomic.StoreUint32", "internal/bytealg.IndexByteString", "internal/bytealg.IndexString", "internal/bytealg.CountString"], unfollowed := true, recurses := true, named := ["internal/bytealg.MaxLen"], apart := false, narrowed := true }
def InputCleansUptoSaid : Prop := inputCleansUptoRow.holds Try.pinned (OpenSpec.upto inputCleansSpec)

/-- 'vitrinelaw01.InputNames', WHERE WHAT IT READS IS OF BULK AT MOST 1048576: true; the input reads as it did. -/
def inputNamesUptoRow : OpenClaim := { program := "ytihckkbhieblkaa", sum := "a7ace0569b4b2472d1b394ee3a5299bf2da8d1f2548c4c9553d4b203328a541a", func := "vitrine/vitrinelaw01.InputNames", spec := "inputNames", inPlace := ["sync/atomic.LoadUint32", "(*internal/sync.Mutex).Lock", "internal/race.Disable", "sync/atomic.CompareAndSwapInt32", "internal/race.Enable", "internal/race.Acquire", "(*internal/sync.Mutex).lockSlow", "internal/sync.runtime_canSpin", "internal/sync.runtime_doSpin", "internal/sync.throw", "internal/sync.runtime_nanotime", "internal/sync.runtime_SemacquireMutex", "sync/atomic.AddInt32", "(*internal/sync.Mutex).Unlock", "internal/race.ReleaseMerge", "(*internal/sync.Mutex).unlockSlow", "internal/sync.fatal", "internal/sync.runtime_Semrelease", "sync/atomic.StoreUint32", "internal/bytealg.IndexByteString", "internal/bytealg.IndexString", "internal/bytealg.CountString"], unfollowed := true, recurses := true, named := ["internal/bytealg.MaxLen"], apart := false, narrowed := true }
def InputNamesUptoSaid : Prop := inputNamesUptoRow.holds Try.pinned (OpenSpec.upto inputNamesSpec)

/-- 'vitrinelaw01.InputOnce', WHERE WHAT IT READS IS OF BULK AT MOST 1048576: true; the input reads as it did. -/
def inputOnceUptoRow : OpenClaim := { program := "ytihckkbhieblkaa", sum := "a7ace0569b4b2472d1b394ee3a5299bf2da8d1f2548c4c9553d4b203328a541a", func := "vitrine/vitrinelaw01.InputOnce", spec := "inputOnce", inPlace := ["sync/atomic.LoadUint32", "(*internal/sync.Mutex).Lock", "internal/race.Disable", "sync/atomic.CompareAndSwapInt32", "internal/race.Enable", "internal/race.Acquire", "(*internal/sync.Mutex).lockSlow", "internal/sync.runtime_canSpin", "internal/sync.runtime_doSpin", "internal/sync.throw", "internal/sync.runtime_nanotime", "internal/sync.runtime_SemacquireMutex", "sync/atomic.AddInt32", "(*internal/sync.Mutex).Unlock", "internal/race.ReleaseMerge", "(*internal/sync.Mutex).unlockSlow", "internal/sync.fatal", "internal/sync.runtime_Semrelease", "sync/atomic.StoreUint32", "internal/bytealg.IndexByteString", "internal/bytealg.IndexString", "internal/bytealg.CountString"], unfollowed := true, recurses := true, named := ["internal/bytealg.MaxLen"], apart := false, narrowed := true }
def InputOnceUptoSaid : Prop := inputOnceUptoRow.holds Try.pinned (OpenSpec.upto inputOnceSpec)

/-- 'vitrinelaw01.InputParts', WHERE WHAT IT READS IS OF BULK AT MOST 1048576: true; the input reads as it did. -/
def inputPartsUptoRow : OpenClaim := { program := "ytihckkbhieblkaa", sum := "a7ace0569b4b2472d1b394ee3a5299bf2da8d1f2548c4c9553d4b203328a541a", func := "vitrine/vitrinelaw01.InputParts", spec := "inputParts", inPlace := ["sync/atomic.LoadUint32", "(*internal/sync.Mutex).Lock", "internal/race.Disable", "sync/atomic.CompareAndSwapInt32", "internal/race.Enable", "internal/race.Acquire", "(*internal/sync.Mutex).lockSlow", "internal/sync.runtime_canSpin", "internal/sync.runtime_doSpin", "internal/sync.throw", "internal/sync.runtime_nanotime", "internal/sync.runtime_SemacquireMutex", "sync/atomic.AddInt32", "(*internal/sync.Mutex).Unlock", "internal/race.ReleaseMerge", "(*internal/sync.Mutex).unlockSlow", "internal/sync.fatal", "internal/sync.runtime_Semrelease", "sync/atomic.StoreUint32", "internal/bytealg.IndexByteString", "internal/bytealg.IndexString", "internal/bytealg.CountString"], unfollowed := true, recurses := true, named := ["internal/bytealg.MaxLen"], apart := false, narrowed := true }
def InputPartsUptoSaid : Prop := inputPartsUptoRow.holds Try.pinned (OpenSpec.upto inputPartsSpec)

/-- 'vitrinelaw01.InputBytes', WHERE WHAT IT READS IS OF BULK AT MOST 1048576: true; the input reads as it did. -/
def inputBytesUptoRow : OpenClaim := { program := "ytihckkbhieblkaa", sum := "a7ace0569b4b2472d1b394ee3a5299bf2da8d1f2548c4c9553d4b203328a541a", func := "vitrine/vitrinelaw01.InputBytes", spec := "inputBytes", inPlace := ["sync/atomic.LoadUint32", "(*internal/sync.Mutex).Lock", "internal/race.Disable", "sync/atomic.CompareAndSwapInt32", "internal/race.Enable", "internal/race.Acquire", "(*internal/sync.Mutex).lockSlow", "internal/sync.runtime_canSpin", "internal/sync.runtime_doSpin", "internal/sync.throw", "internal/sync.runtime_nanotime", "internal/sync.runtime_SemacquireMutex", "sync/atomic.AddInt32", "(*internal/sync.Mutex).Unlock", "internal/race.ReleaseMerge", "(*internal/sync.Mutex).unlockSlow", "internal/sync.fatal", "internal/sync.runtime_Semrelease", "sync/atomic.StoreUint32", "internal/bytealg.IndexByteString", "internal/bytealg.IndexString", "internal/bytealg.CountString"], unfollowed := true, recurses := true, named := ["internal/bytealg.MaxLen"], apart := false, narrowed := true }
def InputBytesUptoSaid : Prop := inputBytesUptoRow.holds Try.pinned (OpenSpec.upto inputBytesSpec)

/-- 'vitrinelaw01.InputPlaces', WHERE WHAT IT READS IS OF BULK AT MOST 1048576: true; the input reads as it did. -/
def inputPlacesUptoRow : OpenClaim := { program := "ytihckkbhieblkaa", sum := "a7ace0569b4b2472d1b394ee3a5299bf2da8d1f2548c4c9553d4b203328a541a", func := "vitrine/vitrinelaw01.InputPlaces", spec := "inputPlaces", inPlace := ["sync/atomic.LoadUint32", "(*internal/sync.Mutex).Lock", "internal/race.Disable", "sync/atomic.CompareAndSwapInt32", "internal/race.Enable", "internal/race.Acquire", "(*internal/sync.Mutex).lockSlow", "internal/sync.runtime_canSpin", "internal/sync.runtime_doSpin", "internal/sync.throw", "internal/sync.runtime_nanotime", "internal/sync.runtime_SemacquireMutex", "sync/atomic.AddInt32", "(*internal/sync.Mutex).Unlock", "internal/race.ReleaseMerge", "(*internal/sync.Mutex).unlockSlow", "internal/sync.fatal", "internal/sync.runtime_Semrelease", "sync/atomic.StoreUint32", "internal/bytealg.IndexByteString", "internal/bytealg.IndexString", "internal/bytealg.CountString"], unfollowed := true, recurses := true, named := ["internal/bytealg.MaxLen"], apart := false, narrowed := true }
def InputPlacesUptoSaid : Prop := inputPlacesUptoRow.holds Try.pinned (OpenSpec.upto inputPlacesSpec)

/-- 'vitrinelaw01.InputLetters', WHERE WHAT IT READS IS OF BULK AT MOST 1048576: true; the input reads as it did. -/
def inputLettersUptoRow : OpenClaim := { program := "ytihckkbhieblkaa", sum := "a7ace0569b4b2472d1b394ee3a5299bf2da8d1f2548c4c9553d4b203328a541a", func := "vitrine/vitrinelaw01.InputLetters", spec := "inputLetters", inPlace := ["sync/atomic.LoadUint32", "(*internal/sync.Mutex).Lock", "internal/race.Disable", "sync/atomic.CompareAndSwapInt32", "internal/race.Enable", "internal/race.Acquire", "(*internal/sync.Mutex).lockSlow", "internal/sync.runtime_canSpin", "internal/sync.runtime_doSpin", "internal/sync.throw", "internal/sync.runtime_nanotime", "internal/sync.runtime_SemacquireMutex", "sync/atomic.AddInt32", "(*internal/sync.Mutex).Unlock", "internal/race.ReleaseMerge", "(*internal/sync.Mutex).unlockSlow", "internal/sync.fatal", "internal/sync.runtime_Semrelease", "sync/atomic.StoreUint32", "internal/bytealg.IndexByteString", "internal/bytealg.IndexString", "internal/bytealg.CountString"], unfollowed := true, recurses := true, named := ["internal/bytealg.MaxLen"], apart := false, narrowed := true }
def InputLettersUptoSaid : Prop := inputLettersUptoRow.holds Try.pinned (OpenSpec.upto inputLettersSpec)

end Rows
end Go.Proofs.Ytihckkbhieblkaa
