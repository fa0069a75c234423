/-
 A small program logic over the kit's 'Code.wp': frames by what is known of their slots, pure operations by evaluation, rules for calls, tests, blocks and loops. Nothing here is a statement of this claim.
-/
import Derived.WalkKit
import Derived.WalkLawsBesides
import Derived.Deep.Quiet
import Derived.Laws.BytesArg
import Derived.Laws.StructEq
import Derived.ChangeKeysEq
namespace Go.V
open Go Go.RowKit
abbrev Str := List UInt8
def ibit (op : BinOp) (k : IntKind) (x y : Int) : Int :=
 k.wrap (match op with
  | .and => ((BitVec.ofInt k.bits x &&& BitVec.ofInt k.bits y).toNat : Int)
  | .or => ((BitVec.ofInt k.bits x ||| BitVec.ofInt k.bits y).toNat : Int)
  | .xor => ((BitVec.ofInt k.bits x ^^^ BitVec.ofInt k.bits y).toNat : Int)
  | _ => ((BitVec.ofInt k.bits x &&& ~~~BitVec.ofInt k.bits y).toNat : Int))
abbrev w64 (x : Int) : Int := IntKind.i64.wrap x
abbrev wu64 (x : Int) : Int := IntKind.u64.wrap x
abbrev wu8 (x : Int) : Int := IntKind.u8.wrap x
def bat (s : List UInt8) (i : Int) : Int := ((s.getD i.toNat 0).toNat : Int)
def sub (s : List UInt8) (i j : Int) : List UInt8 := (s.drop i.toNat).take (j.toNat - i.toNat)
def ln {α : Type} (l : List α) : Int := (l.length : Int)
abbrev Chain := List (Nat × Bool)
abbrev SF := List (Nat × Chain × Value)
def okc (a : Act) (C : Chain) : Prop := ∀ p ∈ C, a.tmps[p.1]? = some (.bool p.2)
def FrG (D : List Deferred) (n : Nat) (l : SF) (a : Act) : Prop :=
 a.defers = D ∧ a.tmps.size = n ∧ ∀ e ∈ l, (okc a e.2.1 → a.tmps[e.1]? = some e.2.2) ∧ (¬ okc a e.2.1 → a.tmps[e.1]? = some undef)
abbrev Fr := FrG []
variable {D : List Deferred}
def sub1 (C G : Chain) : Bool := C.all fun p => G.any fun q => Nat.beq p.1 q.1 && (p.2 == q.2)
theorem okc_sub {a : Act} {C G : Chain} (h : sub1 C G = true) (hG : okc a G) : okc a C := by
 intro p hp
 have := List.all_eq_true.1 h p hp
 obtain ⟨q, hq, hpq⟩ := List.any_eq_true.1 this
 simp only [Bool.and_eq_true, beq_iff_eq] at hpq
 have h1 := Nat.eq_of_beq_eq_true hpq.1
 rw [h1, hpq.2]
 exact hG q hq
def lke : SF → Nat → Option (Chain × Value)
 | [], _ => none
 | e :: r, t => cond (Nat.beq e.1 t) (some e.2) (lke r t)
theorem lke_mem {l : SF} {t : Nat} {x : Chain × Value} (h : lke l t = some x) : (t, x) ∈ l := by
 induction l with
 | nil => simp [lke] at h
 | cons e r ih =>
  unfold lke at h
  cases hb : Nat.beq e.1 t with
  | true =>
   rw [hb] at h
   simp only [cond_true, Option.some.injEq] at h
   have := Nat.eq_of_beq_eq_true hb
   subst this; subst h
   exact List.mem_cons_self
  | false =>
   rw [hb] at h
   exact List.mem_cons_of_mem _ (ih h)
def ev (l : SF) (G : Chain) : Operand → Option Value
 | .tmp t => match lke l t with
  | some (C, v) => cond (sub1 C G) (some v) none
  | none => none
 | .const v => some v
 | .global g => some (.pointer (some ⟨g, 0, none⟩))
 | .func f => some (.func (.func f) #[] #[])
theorem FrG.ev {n : Nat} {l : SF} {a : Act} (H : FrG D n l a) {G : Chain} (hG : okc a G) {x : Operand} {v : Value} (h : ev l G x = some v) : a.eval x = v := by
 cases x with
 | tmp t =>
  unfold V.ev at h
  cases he : lke l t with
  | none => simp [he] at h
  | some p =>
   obtain ⟨C, u⟩ := p
   simp only [he] at h
   cases hs : sub1 C G with
   | false => rw [hs] at h; cases h
   | true =>
    rw [hs] at h
    simp only [cond_true, Option.some.injEq] at h
    subst h
    have := (H.2.2 _ (lke_mem he)).1 (okc_sub hs hG)
    simp only [Act.eval, Array.getD_eq_getD_getElem?, this, Option.getD_some]
 | const c => simpa [V.ev, Act.eval] using h
 | global g => simpa [V.ev, Act.eval] using h
 | func f => simpa [V.ev, Act.eval] using h
def upd (l : SF) (d : Nat) (C : Chain) (v : Value) : SF :=
 (d, C, v) :: l.filter fun e => !(Nat.beq e.1 d) && e.2.1.all fun p => !(Nat.beq p.1 d)
theorem put_ne {a : Act} {d s : Nat} {v : Value} (h : s ≠ d) : (a.put (some d) v).tmps[s]? = a.tmps[s]? := by
 simp only [Act.put]
 rw [Array.getElem?_setIfInBounds_ne (fun e => h e.symm)]
theorem okc_put {a : Act} {C : Chain} {d : Nat} {v : Value} (h : (C.all fun p => !(Nat.beq p.1 d)) = true) : okc (a.put (some d) v) C ↔ okc a C := by
 unfold okc
 constructor <;> intro hh p hp <;> have h1 := hh p hp <;> have h2 := List.all_eq_true.1 h p hp
 ·rw [put_ne] at h1
  ·exact h1
  ·intro e; rw [e] at h2; simp at h2
 ·rw [put_ne]
  ·exact h1
  ·intro e; rw [e] at h2; simp at h2
theorem FrG.put {n : Nat} {l : SF} {a : Act} (H : FrG D n l a) {d : Nat} {C : Chain} {v u : Value} (hd : Nat.blt d n = true) (hC : (C.all fun p => !(Nat.beq p.1 d)) = true)
  (h1 : okc a C → u = v) (h2 : ¬ okc a C → u = undef) : FrG D n (upd l d C v) (a.put (some d) u) := by
 have hd : d < n := by simpa [Nat.blt, Nat.lt_iff_add_one_le] using hd
 obtain ⟨g1, g2, g3⟩ := H
 refine ⟨g1, by simpa [Act.put] using g2, ?_⟩
 intro e he
 unfold upd at he
 rcases List.mem_cons.1 he with rfl | he
 ·have hs : (a.put (some d) u).tmps[d]? = some u := by simp [Act.put, g2, hd]
  dsimp only
  rw [okc_put hC, hs]
  exact ⟨fun h => by rw [h1 h], fun h => by rw [h2 h]⟩
 ·obtain ⟨he, hne⟩ := List.mem_filter.1 he
  simp only [Bool.and_eq_true] at hne
  have hn : e.1 ≠ d := by
   intro x
   rw [x] at hne
   simp at hne
  rw [okc_put hne.2, put_ne hn]
  exact g3 e he
def keep (l : SF) : List Nat → Option SF
 | [] => some []
 | t :: r => match lke l t, keep l r with
  | some ([], v), some l' => some ((t, [], v) :: l')
  | _, _ => none
theorem FrG.keep {n : Nat} {l l' : SF} {a : Act} {ks : List Nat} (H : FrG D n l a) (h : keep l ks = some l') : FrG D n l' a := by
 refine ⟨H.1, H.2.1, ?_⟩
 induction ks generalizing l' with
 | nil => simp [V.keep] at h; subst h; simp
 | cons t r ih =>
  unfold V.keep at h
  split at h
  ·rename_i v l2 h1 h2
   simp only [Option.some.injEq] at h
   subst h
   intro p hp
   rcases List.mem_cons.1 hp with rfl | hp
   ·exact H.2.2 _ (lke_mem h1)
   ·exact ih h2 p hp
  ·cases h
theorem FrG.mono {n : Nat} {l l' : SF} {a : Act} (H : FrG D n l a) (h : ∀ e ∈ l', e ∈ l) : FrG D n l' a := ⟨H.1, H.2.1, fun e he => H.2.2 e (h e he)⟩
def cp (l : SF) : Chain → Prop
 | [] => True
 | p :: r => match lke l p.1 with
  | some (_, .bool b) => b = p.2 ∧ cp l r
  | _ => False
def cok (l : SF) (G : Chain) : Chain → Bool
 | [] => true
 | p :: r => match lke l p.1 with
  | some (C, .bool _) => sub1 C G && cok l G r
  | _ => false
theorem cp_of_okc {n : Nat} {l : SF} {a : Act} (H : FrG D n l a) {G : Chain} (hG : okc a G) : ∀ {C : Chain}, cok l G C = true → (∀ p ∈ C, p ∈ G) → cp l C
 | [], _, _ => trivial
 | p :: r, h, hs => by
  unfold cok at h
  unfold cp
  split at h
  ·rename_i C b he
   simp only [Bool.and_eq_true] at h
   refine ⟨?_, cp_of_okc H hG h.2 (fun q hq => hs q (List.mem_cons_of_mem _ hq))⟩
   have h1 := (H.2.2 _ (lke_mem he)).1 (okc_sub h.1 hG)
   have h2 := hG p (hs p List.mem_cons_self)
   rw [h1] at h2
   simpa using h2
  ·cases h
def gd (l : SF) (G : Chain) (p : Prop) : Prop :=
 match G with
 | [] => p
 | _ => cp l G → p
def ibin (op : BinOp) (k : IntKind) (a b : Int) : Option Value :=
 match op with
 | .add => some (.int k (k.wrap (a + b)))
 | .sub => some (.int k (k.wrap (a - b)))
 | .mul => some (.int k (k.wrap (a * b)))
 | .and | .or | .xor | .andNot => some (.int k (ibit op k a b))
 | .eql => some (.bool (a == b))
 | .neq => some (.bool (a != b))
 | .lss => some (.bool (decide (a < b)))
 | .leq => some (.bool (decide (a ≤ b)))
 | .gtr => some (.bool (decide (b < a)))
 | .geq => some (.bool (decide (b ≤ a)))
 | _ => none
def sbin (op : BinOp) (a b : List UInt8) : Option Value :=
 match op with
 | .eql => some (.bool (a == b))
 | .neq => some (.bool (!(a == b)))
 | .lss => some (.bool (Op.bytesLess a b))
 | .leq => some (.bool (Op.bytesLess a b || a == b))
 | .gtr => some (.bool (!(Op.bytesLess a b || a == b)))
 | .geq => some (.bool (!(Op.bytesLess a b)))
 | _ => none
def isShift : BinOp → Bool
 | .shl | .shr => true
 | _ => false
def bin (P : Program) (op : BinOp) (t : TypeId) (x y : Value) : Option Value :=
 match x, y with
 | .int k a, .int k' b => cond (decide (k = k') && !isShift op) (ibin op k a b) none
 | .string ⟨⟨a⟩⟩, .string ⟨⟨b⟩⟩ => sbin op a b
 | .bool a, .bool b =>
  match op, P.underlying t with
  | .eql, some .bool => some (.bool (a == b))
  | .neq, some .bool => some (.bool (!(a == b)))
  | _, _ => none
 | _, _ => none
theorem run_ibin {P : Program} {w : World} {op : BinOp} {k : IntKind} {t : TypeId} {a b : Int} {v : Value} (hs : isShift op = false) (h : ibin op k a b = some v) :
  (binOp op t (.int k a) (.int k b)).run P w = .ok v w := by
 cases op <;> simp [ibin, isShift] at h hs <;> subst h <;> simp [binOp, Op.intArith, Op.intBits, Op.intCmp, ibit]
theorem run_sbin {P : Program} {w : World} {op : BinOp} {t : TypeId} {a b : List UInt8} {v : Value} (h : sbin op a b = some v) :
  (binOp op t (.string ⟨⟨a⟩⟩) (.string ⟨⟨b⟩⟩)).run P w = .ok v w := by
 have ha : (ByteArray.mk ⟨a⟩).toList = a := ByteArray.toList_mk a
 have hb : (ByteArray.mk ⟨b⟩).toList = b := ByteArray.toList_mk b
 cases op <;> simp [sbin] at h <;> subst h <;> simp [binOp, Op.stringOp, ha, hb]
theorem run_bin {P : Program} {w : World} {op : BinOp} {t : TypeId} {x y v : Value} (h : bin P op t x y = some v) :
  (binOp op t x y).run P w = .ok v w := by
 unfold bin at h
 split at h
 ·rename_i k a k' b
  cases hc : (decide (k = k') && !isShift op) with
  | false => rw [hc] at h; cases h
  | true =>
   rw [hc] at h
   simp only [Bool.and_eq_true, decide_eq_true_eq, Bool.not_eq_true'] at hc
   obtain ⟨rfl, hs⟩ := hc
   exact run_ibin hs h
 ·exact run_sbin h
 ·rename_i a b
  split at h
  ·rename_i hu
   simp only [Option.some.injEq] at h; subst h
   simp only [binOp, Sem.run_bind, run_equal_bool w t a b hu, Result.andThen_ok, Sem.run_pure]
  ·rename_i hu
   simp only [Option.some.injEq] at h; subst h
   simp only [binOp, Sem.run_bind, run_equal_bool w t a b hu, Result.andThen_ok, Sem.run_pure]
  ·cases h
 ·cases h
theorem run_eqGuard_bin {P : Program} {w : World} {op op' : BinOp} {t t' : TypeId} {p q : Operand} {x y v : Value} (h : bin P op t x y = some v) :
  (eqGuard op' t' p q x y).run P w = .ok () w := by
 unfold bin at h
 split at h
 ·cases op' <;> rfl
 ·cases op' <;> rfl
 ·cases op' <;> rfl
 ·cases h
structure Ret (P : Program) (f : FuncId) (args : Array Value) (v : Value) : Prop where
 call : ∀ w, (callFunc f args).run P w = .ok (.enter f args) w
 run : ∀ w, Calls P f args w fun e w' => e = .returned v ∧ Below w.heap.size w w'
structure RetE (P : Program) (f : FuncId) (args : Array Value) (v : Value) (w : World) : Prop where
 call : ∀ w, (callFunc f args).run P w = .ok (.enter f args) w
 run : ∀ w', Below w.heap.size w w' → Calls P f args w' fun e w'' => e = .returned v ∧ Below w'.heap.size w' w''
def RetB (P : Program) (f : FuncId) (args : Array Value) (v : Value) (w : World) : Prop := RetE P f args v w ∨ ∀ w', Below w.heap.size w w' → (callFunc f args).run P w' = .ok (.value v) w'
theorem Ret.b {P : Program} {f : FuncId} {args : Array Value} {v : Value} {w : World} (h : Ret P f args v) : RetB P f args v w := .inl ⟨h.call, fun w' _ => h.run w'⟩
def ab : Option Addr → Nat
 | some x => x.block
 | none => 0
def ao : Option Addr → Nat
 | some x => x.off
 | none => 0
def oka (a : Option Addr) : Prop := a = some ⟨ab a, ao a, none⟩
abbrev Ob := World → Prop
def at1 (a : Addr) (v : Value) (w : World) : Prop := w.cell? a = some v ∧ a.block < w.heap.size
def atN (b off : Nat) : List Value → Nat → World → Prop
 | [], _, _ => True
 | v :: r, j, w => at1 ⟨b, off + j, none⟩ v w ∧ atN b off r (j + 1) w
def evs (l : SF) (G : Chain) : List Operand → Option (List Value)
 | [] => some []
 | x :: r => match ev l G x, evs l G r with
  | some v, some vs => some (v :: vs)
  | _, _ => none
def imx (x y : Int) : Int := if x < y then y else x
def intMM (b : Builtin) : List Value → Option Value
 | [.int k x, .int k' y] => cond (decide (k = k')) (match b with
  | .min => some (.int k (if y < x then y else x))
  | .max => some (.int k (if x < y then y else x))
  | _ => none) none
 | [.int k x, .int k' y, .int k2 z] => cond (decide (k = k') && decide (k = k2)) (match b with
  | .max => some (.int k (if (if x < y then y else x) < z then z else (if x < y then y else x)))
  | _ => none) none
 | [.int k x, .int k' y, .int k2 z, .int k3 u] => cond (decide (k = k') && (decide (k = k2) && decide (k = k3))) (match b with
  | .max => some (.int k (imx (imx (imx x y) z) u))
  | _ => none) none
 | _ => none
structure Out where
 v : Value
 os : List Value
 ob : Option Ob
def pureOut (v : Option Value) (os : List Value) : Option Out := v.map fun v => { v, os, ob := none }
def callee (l : SF) (G : Chain) (x : Operand) : Option (FuncId × List Value × List Value) :=
 match ev l G x with
 | some (.func (.func f) ⟨first⟩ ⟨caps⟩) => some (f, first, caps)
 | _ => none
def optEv (l : SF) (G : Chain) : Option Operand → Option (Option Value)
 | none => some none
 | some x => match ev l G x with
  | some v => some (some v)
  | none => none
def intsK (k : IntKind) : List Value → Option (List Int)
 | [] => some []
 | v :: r => match v, intsK k r with
  | .int k' x, some q => cond (decide (k = k')) (some (x :: q)) none
  | _, _ => none
def intsOf (cs : List Value) : Option (IntKind × List Int) :=
 match cs with
 | .int k _ :: _ => match intsK k cs with
  | some q => some (k, q)
  | none => none
 | _ => none
def gir (q : List Int) (z : Nat) (n : Int) : List Int := (q.drop (n.toNat * z)).take z
def girV (k : IntKind) (q : List Int) (z : Nat) (n : Int) : List Value := (List.range z).map fun i => .int k ((gir q z n).getD i default)
theorem girV_eq {k : IntKind} {q : List Int} {z : Nat} {n : Int} (h : n.toNat * z + z ≤ q.length) : ((q.map (Value.int k)).drop (n.toNat * z)).take z = girV k q z n := by
 have hl : (gir q z n).length = z := by unfold gir; rw [List.length_take, List.length_drop]; omega
 rw [← List.map_drop, ← List.map_take]
 show (gir q z n).map (Value.int k) = _
 unfold girV
 refine List.ext_getElem (by simp [hl]) fun i h1 h2 => ?_
 have h3 : i < (gir q z n).length := by simpa using h1
 simp [List.getD_eq_getElem?_getD, List.getElem?_eq_getElem h3]
def placesOf (P : Program) : List Field → Option (List (Nat × Nat))
 | [] => some []
 | f :: r => match (P.info? f.type).map (·.size), placesOf P r with
  | some z, some ps => some ((f.offset, z) :: ps)
  | _, _ => none
def aggD : TypeDesc → Bool
 | .struct _ | .array _ _ => true
 | _ => false
def partV (P : Program) (t : TypeId) (cs : List Value) (off : Nat) : Option Value :=
 match P.underlying t with
 | some d => cond (aggD d) (match (P.info? t).map (·.size) with
  | some z => some (.agg ⟨(cs.drop off).take z⟩)
  | none => none) cs[off]?
 | none => none
def eqFs (f : TypeId → Value → Value → Option Bool) (P : Program) (xs ys : List Value) : List Field → Option Bool
 | [] => some true
 | fd :: r => match decide (fd.name ≠ "_") with
  | true => match partV P fd.type xs fd.offset, partV P fd.type ys fd.offset with
   | some a, some b => match f fd.type a b, eqFs f P xs ys r with
    | some p, some q => some (p && q)
    | _, _ => none
   | _, _ => none
  | false => eqFs f P xs ys r
def eqIs (f : Value → Value → Option Bool) (P : Program) (e : TypeId) (c : Nat) (xs ys : List Value) : List Nat → Option Bool
 | [] => some true
 | i :: r => match partV P e xs (i * c), partV P e ys (i * c) with
  | some a, some b => match f a b, eqIs f P e c xs ys r with
   | some p, some q => some (p && q)
   | _, _ => none
  | _, _ => none
def eqV (P : Program) : Nat → TypeId → Value → Value → Option Bool
 | 0, _, _, _ => none
 | d + 1, t, x, y => match P.underlying t with
  | some .bool => match x, y with
   | .bool a, .bool b => some (a == b)
   | _, _ => none
  | some (.int _) => match x, y with
   | .int k a, .int k' b => cond (decide (k = k')) (some (a == b)) none
   | _, _ => none
  | some .string => match x, y with
   | .string ⟨⟨a⟩⟩, .string ⟨⟨b⟩⟩ => some (a == b)
   | _, _ => none
  | some (.struct fs) => match x, y with
   | .agg ⟨xs⟩, .agg ⟨ys⟩ => cond (P.stoodInHeld t) none (eqFs (eqV P d) P xs ys fs.toList)
   | _, _ => none
  | some (.array n e) => match x, y, (P.info? e).map (·.size) with
   | .agg ⟨xs⟩, .agg ⟨ys⟩, some c => eqIs (eqV P d e) P e c xs ys (List.range n)
   | _, _, _ => none
  | _ => none
def binAgg (P : Program) (op : BinOp) (t : TypeId) (x y : Value) : Option Value :=
 match x, y with
 | .agg _, .agg _ => cond (P.eqGuardType P.depth t) none (match op, eqV P 40 t x y with
  | .eql, some b => some (.bool b)
  | .neq, some b => some (.bool (!b))
  | _, _ => none)
 | _, _ => bin P op t x y
def buildV (P : Program) (t : TypeId) (parts : List (Nat × Value)) : Option Value :=
 match (P.info? t).map (·.zero) with
 | some (some z) => match P.underlying t with
  | some (.struct fs) => match placesOf P fs.toList with
   | some ps => match Instr.fill (fun i => ps[i]?) z.cells parts with
    | some cs => some (.agg cs)
    | none => none
   | none => none
  | some (.array _ e) => match (P.info? e).map (·.size) with
   | some sz => match Instr.fill (fun i => some (i * sz, sz)) z.cells parts with
    | some cs => some (.agg cs)
    | none => none
   | none => none
  | _ => none
 | _ => none
def nilB (P : Program) (t : TypeId) (y : Operand) (a b : Value) : Option Bool :=
 match P.underlying t, a, b with
 | some (.pointer _), .pointer (some _), .pointer none => some false
 | some (.pointer _), .pointer none, .pointer none => some true
 | some (.slice _), .slice (some _) _ _, .slice none _ _ => some false
 | some (.slice _), .slice none _ _, .slice none _ _ => some true
 | some (.func _ _ _), .func _ _ _, .nilFunc => some false
 | some (.func _ _ _), .nilFunc, .nilFunc => some true
 | some (.interface _), .iface _ _, .nilIface => some false
 | some (.interface _), .nilIface, .nilIface => match y with
  | .const _ => some true
  | _ => none
 | _, _, _ => none
def nilV (P : Program) (op : BinOp) (t : TypeId) (y : Operand) (a b : Value) : Option Value :=
 match op, nilB P t y a b with
 | .eql, some c => some (.bool c)
 | .neq, some c => some (.bool (!c))
 | _, _ => none
theorem run_nilI {P : Program} {w : World} {t : TypeId} {y : Operand} {a b : Value} {c : Bool} (h : nilB P t y a b = some c) (m : Nat) : (Op.equalIn (m + 1) t a b).run P w = .ok c w := by
 unfold nilB at h
 split at h
 all_goals first
  | (cases h; done)
  | (rename_i hu; split at h <;> first | (cases h; done) | (simp only [Option.some.injEq] at h; subst h; simp [Op.equalIn, run_underlying hu]))
  | (rename_i hu; simp only [Option.some.injEq] at h; subst h; simp [Op.equalIn, run_underlying hu])
theorem run_nilB {P : Program} {w : World} {t : TypeId} {y : Operand} {a b : Value} {c : Bool} (h : nilB P t y a b = some c) : (Op.equal t a b).run P w = .ok c w := run_nilI h 9999
theorem run_nilG {P : Program} {w : World} {op : BinOp} {t : TypeId} {p y : Operand} {a b : Value} {c : Bool} (h : nilB P t y a b = some c) : (eqGuard op t p y a b).run P w = .ok () w := by
 unfold nilB at h
 split at h
 all_goals first
  | (cases h; done)
  | (cases op <;> rfl)
  | (split at h <;> first | (cases h; done) | (cases op <;> simp [eqGuard]))
theorem run_nilV {P : Program} {w : World} {op : BinOp} {t : TypeId} {p y : Operand} {a b v : Value} (h : nilV P op t y a b = some v) :
  (binOp op t a b).run P w = .ok v w ∧ (eqGuard op t p y a b).run P w = .ok () w := by
 unfold nilV at h
 split at h
 ·rename_i c hc
  simp only [Option.some.injEq] at h; subst h
  refine ⟨?_, run_nilG hc⟩
  have hr := run_nilB (w := w) hc
  unfold nilB at hc
  split at hc <;> first | (cases hc; done) | simp [binOp, hr]
 ·rename_i c hc
  simp only [Option.some.injEq] at h; subst h
  refine ⟨?_, run_nilG hc⟩
  have hr := run_nilB (w := w) hc
  unfold nilB at hc
  split at hc <;> first | (cases hc; done) | simp [binOp, hr]
 ·cases h
def step1 (P : Program) (l : SF) (G : Chain) (op : Op) (os : List Value) : Option Out :=
 match op with
 | .move x | .assign x => pureOut (ev l G x) os
 | .binOp op t x y _ =>
  match ev l G x, ev l G y with
  | some (.string ⟨⟨a⟩⟩), some (.string ⟨⟨b⟩⟩) =>
   match op with
   | .add => some { v := .string ⟨⟨a ++ b⟩⟩, os, ob := some fun _ => gd l G (ln a + ln b ≤ 9223372036854775807) }
   | _ => pureOut (sbin op a b) os
  | some (.int k a), some (.int k' b) =>
   match op with
   | .quo => cond (decide (k = k')) (some { v := .int k (k.wrap (a.tdiv b)), os, ob := some fun _ => gd l G (b ≠ 0) }) none
   | .rem => cond (decide (k = k')) (some { v := .int k (a.tmod b), os, ob := some fun _ => gd l G (b ≠ 0) }) none
   | .shl => some { v := .int k (k.wrap (a * 2 ^ (Nat.min b.toNat k.bits))), os, ob := some fun _ => gd l G (0 ≤ b) }
   | .shr => some { v := .int k (a.fdiv (2 ^ (Nat.min b.toNat k.bits))), os, ob := some fun _ => gd l G (0 ≤ b) }
   | _ => pureOut (cond (decide (k = k')) (ibin op k a b) none) os
  | some a, some b => pureOut (match nilV P op t y a b with | some v => some v | none => binAgg P op t a b) os
  | _, _ => none
 | .build t parts =>
  match evs l G (parts.toList.map (·.2)) with
  | some vs => pureOut (buildV P t ((parts.toList.map (·.1)).zip vs)) os
  | none => none
 | .field t x f =>
  match ev l G x, P.underlying t with
  | some (.agg ⟨cs⟩), some (.struct fs) => match fs[f]? with
   | some fd => pureOut (partV P fd.type cs fd.offset) os
   | none => none
  | _, _ => none
 | .unOp op _ x =>
  match op, ev l G x with
  | .not, some (.bool b) => some { v := .bool (!b), os, ob := none }
  | .neg, some (.int k n) => some { v := .int k (k.wrap (0 - n)), os, ob := none }
  | .xor, some (.int k n) => some { v := .int k (ibit .xor k (if k.signed then -1 else k.max) n), os, ob := none }
  | _, _ => none
 | .convert s d x =>
  match ev l G x, P.underlying s, P.underlying d with
  | some (.int _ n), some _, some (.int k) => some { v := .int k (k.wrap n), os, ob := none }
  | some (.string a), some _, some .string => some { v := .string a, os, ob := none }
  | some (.slice a n c), some _, some .string =>
   match os with
   | v :: os => some { v, os, ob := some fun w => gd l G (∀ w', Below w.heap.size w w' → (convert s d (.slice a n c)).run P w' = .ok v w') }
   | [] => none
  | _, _, _ => none
 | .extract x i =>
  match ev l G x with
  | some (.tuple ⟨vs⟩) => pureOut vs[i]? os
  | _ => none
 | .nilCheck x =>
  match ev l G x with
  | some (.pointer (some a)) => some { v := .pointer (some a), os, ob := none }
  | some (.func (.func f) a c) => some { v := .func (.func f) a c, os, ob := none }
  | some (.func (.method nm) ⟨[.iface t x]⟩ c) => some { v := .func (.method nm) ⟨[.iface t x]⟩ c, os, ob := some fun _ => ∀ w', (nilAhead (P.types.size + Made.depth) t x nm).run P w' = .ok (some false) w' }
  | _ => none
 | .makeInterface T x =>
  match ev l G x, P.underlying T with
  | some _, some (.interface _) => none
  | some v, some _ => some { v := .iface T v, os, ob := none }
  | _, _ => none
 | .typeAssert x _ A ok =>
  match ev l G x, P.underlying A with
  | some (.iface t v), some (.interface want) => match (P.info? t).map fun inf => Instr.missingMethod want inf.methods with
   | some none => some { v := cond ok (.tuple ⟨[.iface t v, .bool true]⟩) (.iface t v), os, ob := none }
   | _ => none
  | _, _ => none
 | .fieldAddr t x f =>
  match ev l G x, P.underlying t with
  | some (.pointer (some ⟨b, off, none⟩)), some (.struct fs) =>
   match fs[f]? with
   | some fd => match (P.info? fd.type).map (·.size) with
    | some (_ + 1) => some { v := .pointer (some ⟨b, off + fd.offset, none⟩), os, ob := none }
    | _ => none
   | none => none
  | _, _ => none
 | .index t x i =>
  match ev l G x, ev l G i, P.underlying t with
  | some (.string ⟨⟨s⟩⟩), some (.int _ n), some .string => some { v := .int .u8 (bat s n), os, ob := some fun _ => gd l G (0 ≤ n ∧ n < ln s) }
  | some (.agg ⟨cs⟩), some (.int _ n), some (.array len e) =>
   match intsOf cs, (P.info? e).map (·.size), P.underlying e with
   | some (k, q), some 1, some (.int _) => cond (Nat.beq q.length len) (some { v := .int k (q.getD n.toNat default), os, ob := some fun _ => gd l G (0 ≤ n ∧ n < (len : Int)) }) none
   | some (k, q), some z, some (.array _ _) => cond (Nat.beq q.length (len * z)) (some { v := .agg ⟨girV k q z n⟩, os, ob := some fun _ => gd l G (0 ≤ n ∧ n < (len : Int)) }) none
   | _, _, _ => none
  | _, _, _ => none
 | .slice t x lo hi none =>
  match ev l G x, optEv l G lo, optEv l G hi, P.underlying t with
  | some (.string ⟨⟨s⟩⟩), some none, some none, some .string => some { v := .string ⟨⟨s⟩⟩, os, ob := none }
  | some (.string ⟨⟨s⟩⟩), some (some (.int _ i)), some none, some .string => some { v := .string ⟨⟨V.sub s i (ln s)⟩⟩, os, ob := some fun _ => gd l G (0 ≤ i ∧ i ≤ ln s) }
  | some (.string ⟨⟨s⟩⟩), some none, some (some (.int _ j)), some .string => some { v := .string ⟨⟨V.sub s 0 j⟩⟩, os, ob := some fun _ => gd l G (0 ≤ j ∧ j ≤ ln s) }
  | some (.string ⟨⟨s⟩⟩), some (some (.int _ i)), some (some (.int _ j)), some .string => some { v := .string ⟨⟨V.sub s i j⟩⟩, os, ob := some fun _ => gd l G (0 ≤ i ∧ i ≤ j ∧ j ≤ ln s) }
  | some (.pointer (some ⟨b, off, none⟩)), some (some (.int _ i)), some none, some (.array len e) =>
   match (P.info? e).map (·.size) with
   | some (z + 1) => some { v := .slice (some ⟨b, off + i.toNat * (z + 1), none⟩) (len - i.toNat) (len - i.toNat), os, ob := some fun _ => gd l G (0 ≤ i ∧ i < (len : Int)) }
   | _ => none
  | some (.pointer (some ⟨b, off, none⟩)), some none, some (some (.int _ j)), some (.array len e) =>
   match (P.info? e).map (·.size) with
   | some (_ + 1) => some { v := .slice (some ⟨b, off, none⟩) j.toNat len, os, ob := some fun _ => gd l G (0 ≤ j ∧ j ≤ (len : Int)) }
   | _ => none
  | _, _, _, _ => none
 | .indexAddr t x i =>
  match ev l G x, ev l G i, P.underlying t with
  | some (.slice a n _), some (.int _ i), some (.slice e) =>
   match (P.info? e).map (·.size) with
   | some (z + 1) => some { v := .pointer (some ⟨ab a, ao a + i.toNat * (z + 1), none⟩), os, ob := some fun _ => gd l G (oka a ∧ 0 ≤ i ∧ i < (n : Int)) }
   | _ => none
  | some (.pointer (some ⟨b, off, none⟩)), some (.int _ i), some (.array len e) =>
   match (P.info? e).map (·.size) with
   | some (z + 1) => some { v := .pointer (some ⟨b, off + i.toNat * (z + 1), none⟩), os, ob := some fun _ => gd l G (0 ≤ i ∧ i < (len : Int)) }
   | _ => none
  | _, _, _ => none
 | .load t x =>
  match ev l G x, os with
  | some (.pointer (some ⟨b, off, none⟩)), v :: os =>
   match P.underlying t, v with
   | some (.struct _), .agg ⟨cs⟩ => cond (decide ((P.info? t).map (·.size) = some cs.length)) (some { v, os, ob := some fun w => gd l G (atN b off cs 0 w) }) none
   | some (.array _ _), .agg ⟨cs⟩ => cond (decide ((P.info? t).map (·.size) = some cs.length)) (some { v, os, ob := some fun w => gd l G (atN b off cs 0 w) }) none
   | some (.struct _), _ => none
   | some (.array _ _), _ => none
   | some _, v => some { v, os, ob := some fun w => gd l G (at1 ⟨b, off, none⟩ v w) }
   | none, _ => none
  | _, _ => none
 | .makeFunc fn first caps =>
  match evs l G first.toList, evs l G caps.toList with
  | some a, some b => some { v := .func fn ⟨a⟩ ⟨b⟩, os, ob := none }
  | _, _ => none
 | .call c =>
  match c.callee with
  | .builtin .len =>
   match c.args.toList, c.argTypes.toList with
   | [x], [t] => match ev l G x, P.underlying t with
    | some (.string ⟨⟨s⟩⟩), some .string => some { v := .int .i64 (ln s), os, ob := none }
    | some (.slice _ n _), some (.slice _) => some { v := .int .i64 n, os, ob := none }
    | _, some (.array n _) => some { v := .int .i64 n, os, ob := none }
    | _, _ => none
   | _, _ => none
  | .builtin .min => match evs l G c.args.toList with
   | some vs => pureOut (intMM .min vs) os
   | none => none
  | .builtin .max => match evs l G c.args.toList with
   | some vs => pureOut (intMM .max vs) os
   | none => none
  | .value x => match callee l G x, evs l G c.args.toList, os with
   | some (f, first, caps), some as, v :: os => some { v, os, ob := some fun w => gd l G (RetB P f ⟨first ++ as ++ caps⟩ v w) }
   | _, _, _ => none
  | _ => none
 | _ => none
def stepPick (l : SF) (G : Chain) (c a b : Operand) : Option Value :=
 match c with
 | .tmp s => match ev l G c, ev l ((s, true) :: G) a, ev l ((s, false) :: G) b with
  | some (.bool t), some (.bool x), some (.bool y) => some (.bool (cond t x y))
  | some (.bool false), _, some (.bool y) => some (.bool y)
  | some (.bool true), some (.bool x), _ => some (.bool x)
  | _, _, _ => none
 | _ => none
def Yields (P : Program) (o : Oper) (a : Act) (w : World) (v : Value) : Prop :=
 ∀ w', Below w.heap.size w w' → o.quietAt P a (fun w'' => Below w.heap.size w w'') w' v
theorem yields_of_run {P : Program} {o : Oper} {a : Act} {w : World} {v : Value}
  (h : ∀ w', Below w.heap.size w w' → (execOp a.eval o).run P w' = .ok (.value v) w') : Yields P o a w v := by
 intro w' hw
 unfold Oper.quietAt
 rw [h w' hw]
 exact ⟨rfl, rfl⟩
theorem gd_of {n : Nat} {l : SF} {a : Act} (H : FrG D n l a) {G : Chain} (hG : okc a G) (hk : cok l G G = true) {p : Prop} (h : gd l G p) : p := by
 unfold gd at h
 split at h
 ·exact h
 ·exact h (cp_of_okc H hG hk (fun _ hp => hp))
theorem evs_map {n : Nat} {l : SF} {a : Act} (H : FrG D n l a) {G : Chain} (hG : okc a G) : ∀ {xs : List Operand} {vs : List Value}, evs l G xs = some vs → xs.map a.eval = vs
 | [], vs, h => by simp [evs] at h; subst h; rfl
 | x :: r, vs, h => by
  unfold evs at h
  split at h
  ·rename_i v vs' h1 h2
   simp only [Option.some.injEq] at h
   subst h
   simp only [List.map_cons, H.ev hG h1, evs_map H hG h2]
  ·cases h
theorem evs_arr {n : Nat} {l : SF} {a : Act} (H : FrG D n l a) {G : Chain} (hG : okc a G) {xs : Array Operand} {vs : List Value} (h : evs l G xs.toList = some vs) : xs.map a.eval = ⟨vs⟩ := by
 rw [← evs_map H hG h]
 cases xs
 simp
theorem run_index_bat {P : Program} {w : World} {t : TypeId} {s : List UInt8} {k : IntKind} {i : Int} (hu : P.underlying t = some .string) (h0 : 0 ≤ i) (h1 : i < ln s) :
  (Instr.index t (.string ⟨⟨s⟩⟩) (.int k i)).run P w = .ok (.int .u8 (bat s i)) w := by
 have hb : i.toNat < s.length := by unfold ln at h1; omega
 have hg : (ByteArray.mk ⟨s⟩)[i.toNat]? = some s[i.toNat] := by
  rw [ByteArray.getElem?_lt' _ _ (by simpa [ByteArray.size] using hb)]
  rfl
 have hd : s[i.toNat]?.getD 0 = s[i.toNat] := by simp [List.getElem?_eq_getElem hb]
 simp [Instr.index, asIntOf, run_underlying hu, h0, hg, bat, hd]
theorem run_slice_sub {P : Program} {w : World} {t : TypeId} {s : List UInt8} (hu : P.underlying t = some .string) {lo hi : Option Value} {i j : Int}
  (hlo : (lo = none ∧ i = 0) ∨ ∃ k, lo = some (.int k i)) (hhi : (hi = none ∧ j = ln s) ∨ ∃ k, hi = some (.int k j)) (h0 : 0 ≤ i) (h1 : i ≤ j) (h2 : j ≤ ln s) :
  (Instr.slice t (.string ⟨⟨s⟩⟩) lo hi none).run P w = .ok (.string ⟨⟨V.sub s i j⟩⟩) w := by
 have e : (ByteArray.mk ⟨s⟩).extract i.toNat j.toNat = ⟨⟨V.sub s i j⟩⟩ := by
  have := ByteArray.extract_mk s i.toNat j.toNat
  exact this
 have hs : (ByteArray.mk ⟨s⟩).size = s.length := rfl
 have hj : j.toNat ≤ s.length := by unfold ln at h2; omega
 have hj' : j ≤ (s.length : Int) := h2
 rcases hhi with ⟨rfl, rfl⟩ | ⟨k', rfl⟩ <;> rcases hlo with ⟨rfl, rfl⟩ | ⟨k, rfl⟩
 ·have : (ln s).toNat = s.length := by simp [ln]
  rw [this] at e
  have e2 : s = V.sub s 0 (ln s) := by simp [V.sub, ln]
  simp [Instr.slice, run_underlying hu, Instr.sliceBounds]
  exact e2
 ·have : (ln s).toNat = s.length := by simp [ln]
  rw [this] at e
  have h1' : i ≤ (s.length : Int) := h1
  simp [Instr.slice, run_underlying hu, Instr.sliceBounds, Instr.sliceBound, asIntOf, hs, h0, h1', e]
 ·simp only [Int.toNat_zero] at e
  simp [Instr.slice, run_underlying hu, Instr.sliceBounds, Instr.sliceBound, asIntOf, hs, h1, hj', e]
 ·have hj0 : 0 ≤ j := by omega
  have h1' : ¬ max j 0 < i := by omega
  simp [Instr.slice, run_underlying hu, Instr.sliceBounds, Instr.sliceBound, asIntOf, hs, h0, hj0, h1', hj', e]
theorem run_loadCells {P : Program} {w : World} {b off : Nat} : ∀ (cs : List Value) (j : Nat) (acc : Array Value), (∀ i (h : i < cs.length), w.cell? ⟨b, off + (j + i), none⟩ = some cs[i]) →
  (loadCellsFrom ⟨b, off, none⟩ j cs.length acc).run P w = .ok (acc ++ cs.toArray) w
 | [], j, acc, _ => by simp [loadCellsFrom]
 | v :: r, j, acc, h => by
  have h0 := h 0 (by simp)
  have ha : (Addr.add ⟨b, off, none⟩ j) = ⟨b, off + j, none⟩ := by
   unfold Addr.add
   split
   ·rename_i e; subst e; rfl
   ·rfl
  simp only [Nat.add_zero, List.getElem_cons_zero] at h0
  have hr := run_loadCells (P := P) (w := w) r (j + 1) (acc.push v) (fun i hi => by
   have := h (i + 1) (by simpa using hi)
   simpa [Nat.add_assoc, Nat.add_comm 1 i] using this)
  simp only [List.length_cons, loadCellsFrom, Sem.run_bind, ha, run_load, h0, Result.andThen_ok, hr]
  simp
theorem atN_cells {b off : Nat} {w w' : World} (hb : Below w.heap.size w w') : ∀ {cs : List Value} {j : Nat}, atN b off cs j w → ∀ i (h : i < cs.length), w'.cell? ⟨b, off + (j + i), none⟩ = some cs[i]
 | v :: r, j, h, 0, _ => by
  have := h.1
  have h2 := hb.cell this.2
  simp only [Nat.add_zero, List.getElem_cons_zero]
  rw [h2]
  exact this.1
 | v :: r, j, h, i + 1, hi => by
  have := atN_cells hb (cs := r) (j := j + 1) h.2 i (by simpa using hi)
  simpa [Nat.add_assoc, Nat.add_comm 1 i] using this
theorem Addr.add_zero' (b off n : Nat) : Addr.add ⟨b, off, none⟩ n = ⟨b, off + n, none⟩ := by
 unfold Addr.add
 split
 ·rename_i e; subst e; rfl
 ·rfl
theorem size_of_info {P : Program} {w : World} {t : TypeId} {z : Nat} (h : (P.info? t).map (·.size) = some z) : (sizeOf t).run P w = .ok z w := by
 cases hi : P.info? t with
 | none => simp [hi] at h
 | some i =>
  simp [hi] at h
  simp [sizeOf, typeInfo, hi, h]
theorem pureOut_v {v : Option Value} {os : List Value} {out : Out} (h : pureOut v os = some out) : v = some out.v ∧ out.ob = none := by
 cases v with
 | none => simp [pureOut] at h
 | some u => simp [pureOut] at h; subst h; exact ⟨rfl, rfl⟩
theorem run_mm {P : Program} {w : World} {b : Builtin} {ats : Array TypeId} {ty : TypeId} {cs : Array Bool} {vs : List Value} {v : Value} (h : intMM b vs = some v) :
  (builtin b ats ty cs ⟨vs⟩).run P w = .ok (.value v) w := by
 unfold intMM at h
 split at h
 ·rename_i k x k' y
  cases hc : decide (k = k') with
  | false => rw [hc] at h; cases h
  | true =>
   rw [hc] at h
   obtain rfl : k = k' := by simpa using hc
   simp only [cond_true] at h
   split at h
   ·simp only [Option.some.injEq] at h; subst h
    simp [builtin, Builtin.min_, Builtin.min2]
   ·simp only [Option.some.injEq] at h; subst h
    simp [builtin, Builtin.max_, Builtin.max2]
   ·cases h
 ·rename_i k x k' y k2 z
  cases hc : decide (k = k') && decide (k = k2) with
  | false => rw [hc] at h; cases h
  | true =>
   rw [hc] at h
   rw [Bool.and_eq_true, decide_eq_true_eq, decide_eq_true_eq] at hc
   obtain ⟨rfl, rfl⟩ := hc
   simp only [cond_true] at h
   split at h
   ·simp only [Option.some.injEq] at h; subst h
    simp [builtin, Builtin.max_, Builtin.max2]
   ·cases h
 ·rename_i k x k' y k2 z k3 u
  cases hc : decide (k = k') && (decide (k = k2) && decide (k = k3)) with
  | false => rw [hc] at h; cases h
  | true =>
   rw [hc] at h
   rw [Bool.and_eq_true, Bool.and_eq_true, decide_eq_true_eq, decide_eq_true_eq, decide_eq_true_eq] at hc
   obtain ⟨rfl, rfl, rfl⟩ := hc
   simp only [cond_true] at h
   split at h
   ·simp only [Option.some.injEq] at h; subst h
    simp [builtin, Builtin.max_, Builtin.max2, imx]
    rfl
   ·cases h
 ·cases h
theorem run_load1 {P : Program} {w w' : World} {t : TypeId} {b off : Nat} {v : Value} {d : TypeDesc} (hu : P.underlying t = some d)
  (hd : (match d with | .struct _ | .array _ _ => true | _ => false) = false) (hb : Below w.heap.size w w') (h : at1 ⟨b, off, none⟩ v w) :
  (Instr.loadAt t (.pointer (some ⟨b, off, none⟩))).run P w' = .ok v w' := by
 have hc : w'.cell? ⟨b, off, none⟩ = some v := by rw [hb.cell h.2]; exact h.1
 have hi : (isAgg t).run P w' = .ok false w' := by
  cases d <;> simp at hd <;> simp [isAgg, run_underlying hu]
 simp [Instr.loadAt, Instr.sureAddr, loadVar, hi, hc]
theorem run_loadN {P : Program} {w w' : World} {t : TypeId} {b off : Nat} {cs : List Value} {d : TypeDesc} (hu : P.underlying t = some d)
  (hd : (match d with | .struct _ | .array _ _ => true | _ => false) = true) (hz : (P.info? t).map (·.size) = some cs.length) (hb : Below w.heap.size w w') (h : atN b off cs 0 w) :
  (Instr.loadAt t (.pointer (some ⟨b, off, none⟩))).run P w' = .ok (.agg ⟨cs⟩) w' := by
 have hi : (isAgg t).run P w' = .ok true w' := by
  cases d <;> simp at hd <;> simp [isAgg, run_underlying hu]
 have hl := run_loadCells (P := P) (w := w') (b := b) (off := off) cs 0 #[] (atN_cells hb h)
 simp only [Instr.loadAt, Instr.sureAddr, loadVar, Sem.run_bind, Sem.run_pure, Result.andThen_ok, hi, if_true, size_of_info hz, loadCells, hl]
 simp
theorem intsK_spec {k : IntKind} : ∀ {cs : List Value} {q : List Int}, intsK k cs = some q → cs = q.map (Value.int k)
 | [], q, h => by simp [intsK] at h; subst h; rfl
 | v :: r, q, h => by
  unfold intsK at h
  split at h
  ·rename_i k' x q' hr
   cases hc : decide (k = k') with
   | false => rw [hc] at h; cases h
   | true =>
    rw [hc] at h
    simp only [cond_true, Option.some.injEq] at h
    subst h
    obtain rfl : k = k' := by simpa using hc
    rw [intsK_spec hr]
    rfl
  ·cases h
theorem intsOf_spec {cs : List Value} {k : IntKind} {q : List Int} (h : intsOf cs = some (k, q)) : cs = q.map (Value.int k) := by
 unfold intsOf at h
 split at h
 ·split at h
  ·rename_i hq
   simp only [Option.some.injEq, Prod.mk.injEq] at h
   obtain ⟨rfl, rfl⟩ := h
   exact intsK_spec hq
  ·cases h
 ·cases h
theorem run_partV {P : Program} {w : World} {t : TypeId} {cs : List Value} {off : Nat} {v : Value} (h : partV P t cs off = some v) : (part t ⟨cs⟩ off).run P w = .ok v w := by
 unfold partV at h
 split at h
 ·rename_i d hu
  cases hd : aggD d with
  | true =>
   rw [hd] at h
   simp only [cond_true] at h
   split at h
   ·rename_i z hz
    simp only [Option.some.injEq] at h; subst h
    have hi : (isAgg t).run P w = .ok true w := by cases d <;> simp [aggD] at hd <;> simp [isAgg, run_underlying hu]
    simp only [part, Sem.run_bind, hi, Result.andThen_ok, if_true, size_of_info hz, Sem.run_pure]
    congr 2
    apply Array.ext'
    simp
   ·cases h
  | false =>
   rw [hd] at h
   simp only [cond_false] at h
   have hi : (isAgg t).run P w = .ok false w := by cases d <;> simp [aggD] at hd <;> simp [isAgg, run_underlying hu]
   have : (Array.mk cs)[off]? = some v := by simpa using h
   simp only [part, Sem.run_bind, hi, Result.andThen_ok, Bool.false_eq_true, if_false, this, Sem.run_pure]
 ·cases h
theorem run_eqV {P : Program} : ∀ (d m : Nat) (t : TypeId) (x y : Value) (b : Bool) (w : World), d ≤ m → eqV P d t x y = some b → (Op.equalIn m t x y).run P w = .ok b w
 | 0, m, t, x, y, b, w, _, h => by simp [eqV] at h
 | d + 1, 0, t, x, y, b, w, hm, h => by omega
 | d + 1, m + 1, t, x, y, b, w, hm, h => by
  unfold eqV at h
  split at h
  ·rename_i hu
   split at h
   ·simp only [Option.some.injEq] at h; subst h
    exact run_equalIn_bool w m t _ _ hu
   ·cases h
  ·rename_i k0 hu
   split at h
   ·rename_i k a k' b'
    cases hc : decide (k = k') with
    | false => rw [hc] at h; cases h
    | true =>
     rw [hc] at h
     obtain rfl : k = k' := by simpa using hc
     simp only [cond_true, Option.some.injEq] at h; subst h
     exact run_equalIn_int w m t k _ _ _ hu
   ·cases h
  ·rename_i hu
   split at h
   ·rename_i a b'
    simp only [Option.some.injEq] at h; subst h
    have ha : (ByteArray.mk ⟨a⟩).toList = a := ByteArray.toList_mk a
    have hb : (ByteArray.mk ⟨b'⟩).toList = b' := ByteArray.toList_mk b'
    rw [run_equalIn_string w m t _ _ hu, ha, hb]
   ·cases h
  ·rename_i fs hu
   split at h
   ·rename_i xs ys
    cases hs : P.stoodInHeld t with
    | true => rw [hs] at h; cases h
    | false =>
     rw [hs] at h
     simp only [cond_false] at h
     have hf : P.fieldsOf t = fs := by simp [Program.fieldsOf, hu]
     rw [run_equalIn_struct w m t _ _ (by rw [hf]; exact hu) hs, hf]
     have hm' : d ≤ m := by omega
     generalize fs.toList = l at h
     clear hu hf
     induction l generalizing b with
     | nil =>
      simp only [eqFs, Option.some.injEq] at h
      subst h
      simp [Op.eqFields]
     | cons fd r ih =>
      unfold eqFs at h
      split at h
      ·rename_i hne
       have hne : fd.name ≠ "_" := by simpa using hne
       split at h
       ·rename_i a b' h1 h2
        split at h
        ·rename_i p q h3 h4
         simp only [Option.some.injEq] at h; subst h
         have e1 := run_partV (w := w) h1
         have e2 := run_partV (w := w) h2
         have e3 := run_eqV d m fd.type a b' p w hm' h3
         simp only [Op.eqFields, if_pos hne, Sem.run_bind, e1, e2, e3, Result.andThen_ok]
         cases p with
         | false => simp
         | true => simpa using ih _ h4
        ·cases h
       ·cases h
      ·rename_i hne
       have hne : ¬ fd.name ≠ "_" := by simpa using hne
       simp only [Op.eqFields, if_neg hne]
       exact ih _ h
   ·cases h
  ·rename_i n e hu
   split at h
   ·rename_i xs ys c hc
    cases hinf : P.info? e with
    | none => simp [hinf] at hc
    | some inf =>
     have hce : P.cellsOf e = c := by simp [hinf] at hc; simp [Program.cellsOf, hinf, hc]
     rw [run_equalIn_array w m _ _ hu hinf, hce]
     have hm' : d ≤ m := by omega
     generalize List.range n = l at h
     induction l generalizing b with
     | nil =>
      simp only [eqIs, Option.some.injEq] at h
      subst h
      simp [Op.eqItems]
     | cons i r ih =>
      unfold eqIs at h
      split at h
      ·rename_i a b' h1 h2
       split at h
       ·rename_i p q h3 h4
        simp only [Option.some.injEq] at h; subst h
        have e1 := run_partV (w := w) h1
        have e2 := run_partV (w := w) h2
        have e3 := run_eqV d m e a b' p w hm' h3
        simp only [Op.eqItems, Sem.run_bind, e1, e2, e3, Result.andThen_ok]
        cases p with
        | false => simp
        | true => simpa using ih _ h4
       ·cases h
      ·cases h
   ·cases h
  ·cases h
theorem run_binAgg {P : Program} {w : World} {op : BinOp} {t : TypeId} {x y v : Value} (h : binAgg P op t x y = some v) :
  (binOp op t x y).run P w = .ok v w := by
 unfold binAgg at h
 split at h
 ·cases hg : P.eqGuardType P.depth t with
  | true => rw [hg] at h; cases h
  | false =>
   rw [hg] at h
   simp only [cond_false] at h
   split at h
   ·rename_i b he
    simp only [Option.some.injEq] at h; subst h
    rw [run_eql_struct, run_eqV 40 10000 t _ _ b w (by omega) he]
    rfl
   ·rename_i b he
    simp only [Option.some.injEq] at h; subst h
    rw [run_neq_struct, run_eqV 40 10000 t _ _ b w (by omega) he]
    rfl
   ·cases h
 ·exact run_bin h
theorem run_eqGuard_binAgg {P : Program} {w : World} {op op' : BinOp} {t : TypeId} {p q : Operand} {x y v : Value} (h : binAgg P op t x y = some v) :
  (eqGuard op' t p q x y).run P w = .ok () w := by
 unfold binAgg at h
 split at h
 ·cases hg : P.eqGuardType P.depth t with
  | true => rw [hg] at h; cases h
  | false => exact run_eqGuard_agg w op' t p q _ _ hg
 ·exact run_eqGuard_bin h
theorem map_zip2 (f : Operand → Value) : ∀ q : List (Nat × Operand), q.map (fun p => (p.1, f p.2)) = (q.map (·.1)).zip ((q.map (·.2)).map f)
 | [] => rfl
 | x :: r => by simp only [List.map_cons, List.zip_cons_cons, map_zip2 f r]
theorem run_places {P : Program} {w : World} : ∀ (fs : List Field) (ps : List (Nat × Nat)), placesOf P fs = some ps → ((fs.mapM fun f => do pure (f.offset, ← sizeOf f.type) : Sem (List (Nat × Nat)))).run P w = .ok ps w
 | [], ps, h => by simp [placesOf] at h; subst h; simp
 | f :: r, ps, h => by
  unfold placesOf at h
  split at h
  ·rename_i z qs hz hq
   simp only [Option.some.injEq] at h; subst h
   have ih := run_places (w := w) r qs hq
   simp only [List.mapM_cons, Sem.run_bind, size_of_info hz, Result.andThen_ok, Sem.run_pure, ih]
  ·cases h
theorem run_buildV {P : Program} {w : World} {t : TypeId} {parts : Array (Nat × Value)} {v : Value} (h : buildV P t parts.toList = some v) : (Instr.build t parts).run P w = .ok v w := by
 unfold buildV at h
 split at h
 ·rename_i z hz
  have hzr : (zeroValue t).run P w = .ok z w := by
   cases hi : P.info? t with
   | none => simp [hi] at hz
   | some inf =>
    simp [hi] at hz
    simp [zeroValue, typeInfo, hi, hz]
  split at h
  ·rename_i fs hu
   split at h
   ·rename_i ps hp
    split at h
    ·rename_i cs hc
     simp only [Option.some.injEq] at h; subst h
     have hm : (fs.mapM fun f => do pure (f.offset, ← sizeOf f.type) : Sem (Array (Nat × Nat))).run P w = .ok ⟨ps⟩ w := by
      have := run_places (w := w) fs.toList ps hp
      rw [Array.mapM_eq_mapM_toList]
      simp only [map_eq_pure_bind, Sem.run_bind, this, Result.andThen_ok, Sem.run_pure]
     have hc' : Instr.fill (fun x => (Array.mk ps)[x]?) z.cells parts.toList = some cs := by
      rw [← hc]
      simp
     simp only [Instr.build, Sem.run_bind, hzr, run_underlying hu, Result.andThen_ok, hm, hc', Sem.run_pure]
    ·cases h
   ·cases h
  ·rename_i n e hu
   split at h
   ·rename_i sz hsz
    split at h
    ·rename_i cs hc
     simp only [Option.some.injEq] at h; subst h
     simp only [Instr.build, Sem.run_bind, hzr, run_underlying hu, Result.andThen_ok, size_of_info hsz, hc, Sem.run_pure]
    ·cases h
   ·cases h
  ·cases h
 ·cases h
def isVC : Op → Bool
 | .call ⟨.value _, _, _⟩ => true
 | _ => false
def Yr (P : Program) (o : Oper) (a : Act) (w : World) (v : Value) : Prop :=
 (∀ w', Below w.heap.size w w' → (execOp a.eval o).run P w' = .ok (.value v) w') ∨ (isVC o.op = true ∧ Yields P o a w v)
theorem Yr.run {P : Program} {o : Oper} {a : Act} {w : World} {v : Value} (h : ∀ w', Below w.heap.size w w' → (execOp a.eval o).run P w' = .ok (.value v) w') : Yr P o a w v := .inl h
theorem Yr.yields {P : Program} {o : Oper} {a : Act} {w : World} {v : Value} (h : Yr P o a w v) : Yields P o a w v := by
 rcases h with h | h
 ·exact yields_of_run h
 ·exact h.2
set_option maxHeartbeats 1000000 in
theorem step1_x {P : Program} {n : Nat} {l : SF} {a : Act} {G : Chain} {w : World} {op : Op} {os : List Value} {out : Out} {dst : Option Tmp} {ty : TypeId} {pos : String} {after : Array Edge} {guard : Option (Nat × Bool)}
  (H : FrG D n l a) (hG : okc a G) (hk : cok l G G = true) (h : step1 P l G op os = some out) (hob : ∀ ob, out.ob = some ob → ob w) : Yr P ⟨dst, op, ty, pos, after, guard⟩ a w out.v := by
 unfold step1 at h
 split at h
 ·
  obtain ⟨hv, _⟩ := pureOut_v h
  exact Yr.run fun w' _ => by simp [execOp, H.ev hG hv]
 ·obtain ⟨hv, _⟩ := pureOut_v h
  exact Yr.run fun w' _ => by simp [execOp, H.ev hG hv]
 ·
  rename_i op t x y yt
  split at h
  ·rename_i s1 s2 e1 e2
   have e1 := H.ev hG e1
   have e2 := H.ev hG e2
   split at h
   ·simp only [Option.some.injEq] at h
    subst h
    have ho := gd_of H hG hk (hob _ rfl)
    refine Yr.run fun w' _ => ?_
    have hr := run_string_add_sum (P := P) (w := w') ⟨⟨s1⟩⟩ ⟨⟨s2⟩⟩ (by simp only [ByteArray.size]; unfold ln at ho; simp; omega)
    have hc : (ByteArray.mk ⟨s1⟩) ++ (ByteArray.mk ⟨s2⟩) = ByteArray.mk ⟨s1 ++ s2⟩ := ByteArray.mk_append_mk s1 s2
    rw [hc] at hr
    simp [execOp, e1, e2, eqGuard, binOp, hr]
   ·obtain ⟨hv, _⟩ := pureOut_v h
    refine Yr.run fun w' _ => ?_
    have hg : ∀ p q, (eqGuard op t p q (.string ⟨⟨s1⟩⟩) (.string ⟨⟨s2⟩⟩)).run P w' = .ok () w' := fun p q => by cases op <;> rfl
    simp [execOp, e1, e2, hg, run_sbin hv]
  ·rename_i k i1 k' i2 e1 e2
   have e1 := H.ev hG e1
   have e2 := H.ev hG e2
   have hg : ∀ w' p q, (eqGuard op t p q (.int k i1) (.int k' i2)).run P w' = .ok () w' := fun w' p q => by cases op <;> rfl
   split at h
   ·cases hc : decide (k = k') with
    | false => rw [hc] at h; cases h
    | true =>
     rw [hc] at h
     obtain rfl : k = k' := by simpa using hc
     simp only [cond_true, Option.some.injEq] at h
     subst h
     have ho := gd_of H hG hk (hob _ rfl)
     exact Yr.run fun w' _ => by simp [execOp, e1, e2, hg, binOp, Op.intDiv, ho]
   ·cases hc : decide (k = k') with
    | false => rw [hc] at h; cases h
    | true =>
     rw [hc] at h
     obtain rfl : k = k' := by simpa using hc
     simp only [cond_true, Option.some.injEq] at h
     subst h
     have ho := gd_of H hG hk (hob _ rfl)
     exact Yr.run fun w' _ => by simp [execOp, e1, e2, hg, binOp, Op.intDiv, ho]
   ·simp only [Option.some.injEq] at h
    subst h
    have ho := gd_of H hG hk (hob _ rfl)
    have ho' : ¬ i2 < 0 := by omega
    exact Yr.run fun w' _ => by simp [execOp, e1, e2, hg, binOp, Op.shift, ho', Nat.min_def]
   ·simp only [Option.some.injEq] at h
    subst h
    have ho := gd_of H hG hk (hob _ rfl)
    have ho' : ¬ i2 < 0 := by omega
    exact Yr.run fun w' _ => by simp [execOp, e1, e2, hg, binOp, Op.shift, ho', Nat.min_def]
   ·rename_i hq hr hs1 hs2
    obtain ⟨hv, _⟩ := pureOut_v h
    cases hc : decide (k = k') with
    | false => rw [hc] at hv; cases hv
    | true =>
     rw [hc] at hv
     obtain rfl : k = k' := by simpa using hc
     have hs : isShift op = false := by cases op <;> simp_all [isShift]
     exact Yr.run fun w' _ => by simp [execOp, e1, e2, hg, run_ibin hs hv]
  ·rename_i v1 v2 _ _ e1 e2
   have e1 := H.ev hG e1
   have e2 := H.ev hG e2
   obtain ⟨hv, _⟩ := pureOut_v h
   split at hv
   ·rename_i v3 hn
    simp only [Option.some.injEq] at hv
    subst hv
    exact Yr.run fun w' _ => by simp [execOp, e1, e2, (run_nilV (w := w') (p := x) hn).1, (run_nilV (w := w') (p := x) hn).2]
   ·exact Yr.run fun w' _ => by simp [execOp, e1, e2, run_eqGuard_binAgg hv, run_binAgg hv]
  ·cases h
 ·
  rename_i t parts
  split at h
  ·rename_i vs e1
   obtain ⟨hv, _⟩ := pureOut_v h
   refine Yr.run fun w' _ => ?_
   have hp : (parts.map fun p => (p.1, a.eval p.2)).toList = (parts.toList.map (·.1)).zip vs := by
    rw [← evs_map H hG e1, ← map_zip2]
    cases parts
    simp
   have hr := run_buildV (P := P) (w := w') (t := t) (parts := parts.map fun p => (p.1, a.eval p.2)) (by rw [hp]; exact hv)
   simp only [execOp]
   rw [show (parts.map fun x => match x with | (i, x) => (i, a.eval x)) = parts.map fun p => (p.1, a.eval p.2) from rfl]
   simp [hr]
  ·cases h
 ·
  split at h
  ·rename_i cs fs e1 hu
   split at h
   ·rename_i fd hf
    obtain ⟨hv, _⟩ := pureOut_v h
    exact Yr.run fun w' _ => by simp [execOp, H.ev hG e1, Instr.field, run_underlying hu, hf, asAgg, run_partV hv]
   ·cases h
  ·cases h
 ·
  split at h
  ·rename_i b e1
   simp only [Option.some.injEq] at h; subst h
   exact Yr.run fun w' _ => by simp [execOp, H.ev hG e1, Op.unary]
  ·rename_i k m e1
   simp only [Option.some.injEq] at h; subst h
   exact Yr.run fun w' _ => by simp [execOp, H.ev hG e1, Op.unary, Op.intArith]
  ·rename_i k m e1
   simp only [Option.some.injEq] at h; subst h
   exact Yr.run fun w' _ => by simp [execOp, H.ev hG e1, Op.unary, Op.intBits, ibit]
  ·cases h
 ·
  split at h
  ·rename_i k m d k' e1 hu1 hu2
   simp only [Option.some.injEq] at h; subst h
   refine Yr.run fun w' _ => ?_
   simp only [execOp, H.ev hG e1, convert, Sem.run_bind, run_underlying hu1, run_underlying hu2, Result.andThen_ok]
   simp [Conv.intToInt]
  ·rename_i s1 d e1 hu1 hu2
   simp only [Option.some.injEq] at h; subst h
   refine Yr.run fun w' _ => ?_
   simp only [execOp, H.ev hG e1, convert, Sem.run_bind, run_underlying hu1, run_underlying hu2, Result.andThen_ok]
   cases d <;> simp
  ·rename_i a1 m c d e1 hu1 hu2
   split at h
   ·simp only [Option.some.injEq] at h; subst h
    have ho := gd_of H hG hk (hob _ rfl)
    exact Yr.run fun w' hw => by simp [execOp, H.ev hG e1, ho w' hw]
   ·cases h
  ·cases h
 ·
  split at h
  ·rename_i vs e1
   obtain ⟨hv, _⟩ := pureOut_v h
   refine Yr.run fun w' _ => ?_
   have : (Array.mk vs)[‹Nat›]? = some out.v := by simpa using hv
   simp [execOp, H.ev hG e1, Instr.extract, this]
  ·cases h
 ·
  split at h
  ·rename_i a1 e1
   simp only [Option.some.injEq] at h; subst h
   exact Yr.run fun w' _ => by simp [execOp, H.ev hG e1]
  ·rename_i f a1 c1 e1
   simp only [Option.some.injEq] at h; subst h
   exact Yr.run fun w' _ => by simp [execOp, H.ev hG e1]
  ·rename_i nm t1 x1 c1 e1
   simp only [Option.some.injEq] at h; subst h
   have ho := hob _ rfl
   exact Yr.run fun w' _ => by simp [execOp, H.ev hG e1, ho w']
  ·cases h
 ·
  rename_i T1 y1
  split at h
  ·cases h
  ·rename_i v1 d hd e1 hu
   simp only [Option.some.injEq] at h; subst h
   refine Yr.run fun w' _ => ?_
   have hr : (Instr.makeInterface T1 v1).run P w' = .ok (.iface T1 v1) w' := by
    simp only [Instr.makeInterface, Sem.run_bind, run_underlying hu, Result.andThen_ok]
    cases d <;> first | rfl | exact (hd _ rfl).elim
   simp [execOp, H.ev hG e1, hr]
  ·cases h
 ·
  split at h
  ·rename_i t1 v1 want e1 hu
   split at h
   ·rename_i hm
    simp only [Option.some.injEq] at h; subst h
    obtain ⟨inf, hi, hmm⟩ := Option.map_eq_some_iff.1 hm
    refine Yr.run fun w' _ => ?_
    rename_i okk _ _ _ _ _ _
    simp [execOp, H.ev hG e1, Instr.typeAssert, run_underlying hu, typeInfo, hi, hmm]
   ·cases h
  ·cases h
 ·
  split at h
  ·rename_i b off fs e1 hu
   split at h
   ·rename_i fd hf
    split at h
    ·rename_i z hz
     simp only [Option.some.injEq] at h; subst h
     refine Yr.run fun w' _ => ?_
     have hz' : ∀ w, (sizeOf fd.type).run P w = .ok (z + 1) w := fun w => size_of_info hz
     simp [execOp, H.ev hG e1, Instr.fieldAt, run_underlying hu, hf, Instr.sureAddr, fieldPlace, hz', Addr.add_zero']
    ·cases h
   ·cases h
  ·cases h
 ·
  split at h
  ·rename_i s1 k m e1 e2 hu
   simp only [Option.some.injEq] at h; subst h
   have ho := gd_of H hG hk (hob _ rfl)
   exact Yr.run fun w' _ => by simp [execOp, H.ev hG e1, H.ev hG e2, run_index_bat hu ho.1 ho.2]
  ·rename_i cs k m len e e1 e2 hu
   split at h
   ·rename_i k2 q k3 hq hz he
    cases hb : Nat.beq q.length len with
    | false => rw [hb] at h; cases h
    | true =>
     rw [hb] at h
     simp only [cond_true, Option.some.injEq] at h; subst h
     have ho := gd_of H hG hk (hob _ rfl)
     have hlen := Nat.eq_of_beq_eq_true hb
     have hcs := intsOf_spec hq
     have hl : m.toNat < q.length := by omega
     have hv : partV P e cs (m.toNat * 1) = some (.int k2 (q.getD m.toNat default)) := by
      unfold partV
      rw [he]
      simp only [aggD, cond_false, Nat.mul_one, hcs, List.getElem?_map, List.getElem?_eq_getElem hl, Option.map_some, List.getD_eq_getElem?_getD, Option.getD_some]
     exact Yr.run fun w' _ => by
      have hp := run_partV (w := w') hv
      simp only [execOp, H.ev hG e1, H.ev hG e2, Instr.index, asIntOf, Sem.run_bind, Sem.run_pure, Result.andThen_ok, run_underlying hu]
      rw [if_pos ho]
      simp only [Sem.run_bind, size_of_info hz, Result.andThen_ok, hp]
   ·rename_i k2 q z m2 e3 hq hz he
    cases hb : Nat.beq q.length (len * z) with
    | false => rw [hb] at h; cases h
    | true =>
     rw [hb] at h
     simp only [cond_true, Option.some.injEq] at h; subst h
     have ho := gd_of H hG hk (hob _ rfl)
     have hlen := Nat.eq_of_beq_eq_true hb
     have hcs := intsOf_spec hq
     have hl : m.toNat * z + z ≤ q.length := by
      have h1 : (m.toNat + 1) * z ≤ len * z := Nat.mul_le_mul_right _ (by omega)
      rw [Nat.add_mul, Nat.one_mul] at h1
      omega
     have hv : partV P e cs (m.toNat * z) = some (.agg ⟨girV k2 q z m⟩) := by
      unfold partV
      rw [he]
      simp only [aggD, cond_true, hz]
      rw [hcs, girV_eq hl]
     exact Yr.run fun w' _ => by
      have hp := run_partV (w := w') hv
      simp only [execOp, H.ev hG e1, H.ev hG e2, Instr.index, asIntOf, Sem.run_bind, Sem.run_pure, Result.andThen_ok, run_underlying hu]
      rw [if_pos ho]
      simp only [Sem.run_bind, size_of_info hz, Result.andThen_ok, hp]
   ·cases h
  ·cases h
 ·
  rename_i t x lo hi
  have key : ∀ (s : List UInt8) (lo' hi' : Option Value) (i j : Int), ev l G x = some (.string ⟨⟨s⟩⟩) → P.underlying t = some .string → lo.map a.eval = lo' → hi.map a.eval = hi' →
    ((lo' = none ∧ i = 0) ∨ ∃ k, lo' = some (.int k i)) → ((hi' = none ∧ j = ln s) ∨ ∃ k, hi' = some (.int k j)) → 0 ≤ i → i ≤ j → j ≤ ln s → ∀ w',
    (execOp a.eval ⟨dst, .slice t x lo hi none, ty, pos, after, guard⟩).run P w' = .ok (.value (.string ⟨⟨V.sub s i j⟩⟩)) w' := by
   intro s lo' hi' i j e1 hu hl hh h1 h2 h3 h4 h5 w'
   have hr := run_slice_sub (P := P) (w := w') hu h1 h2 h3 h4 h5
   simp only [execOp, H.ev hG e1, Instr.sliceAt, Sem.run_bind, run_underlying hu, Result.andThen_ok, hl, hh, Option.map_none]
   rw [hr]
   rfl
  have optn : ∀ (y : Option Operand), optEv l G y = some none → y.map a.eval = none := by
   intro y hy
   cases y with
   | none => rfl
   | some z =>
    simp only [optEv] at hy
    split at hy <;> cases hy
  have opts : ∀ (y : Option Operand) v, optEv l G y = some (some v) → y.map a.eval = some v := by
   intro y v hy
   cases y with
   | none => simp [optEv] at hy
   | some z =>
    simp only [optEv] at hy
    split at hy
    ·rename_i u hu
     simp only [Option.some.injEq] at hy
     subst hy
     simp [H.ev hG hu]
    ·cases hy
  split at h
  ·rename_i s1 e1 el eh hu
   simp only [Option.some.injEq] at h; subst h
   refine Yr.run fun w' _ => ?_
   have := key s1 _ _ 0 (ln s1) e1 hu (optn _ el) (optn _ eh) (.inl ⟨rfl, rfl⟩) (.inl ⟨rfl, rfl⟩) (by omega) (by unfold ln; omega) (by omega) w'
   rw [this]
   simp [V.sub, ln]
  ·rename_i s1 k m e1 el eh hu
   simp only [Option.some.injEq] at h; subst h
   have ho := gd_of H hG hk (hob _ rfl)
   exact Yr.run fun w' _ => key s1 _ _ m (ln s1) e1 hu (opts _ _ el) (optn _ eh) (.inr ⟨_, rfl⟩) (.inl ⟨rfl, rfl⟩) ho.1 ho.2 (by omega) w'
  ·rename_i s1 k m e1 el eh hu
   simp only [Option.some.injEq] at h; subst h
   have ho := gd_of H hG hk (hob _ rfl)
   exact Yr.run fun w' _ => key s1 _ _ 0 m e1 hu (optn _ el) (opts _ _ eh) (.inl ⟨rfl, rfl⟩) (.inr ⟨_, rfl⟩) (by omega) ho.1 ho.2 w'
  ·rename_i s1 k m k' m' e1 el eh hu
   simp only [Option.some.injEq] at h; subst h
   have ho := gd_of H hG hk (hob _ rfl)
   exact Yr.run fun w' _ => key s1 _ _ m m' e1 hu (opts _ _ el) (opts _ _ eh) (.inr ⟨_, rfl⟩) (.inr ⟨_, rfl⟩) ho.1 ho.2.1 ho.2.2 w'
  ·rename_i b off k i len e e1 el eh hu
   split at h
   ·rename_i z hz
    simp only [Option.some.injEq] at h; subst h
    have ho := gd_of H hG hk (hob _ rfl)
    refine Yr.run fun w' _ => ?_
    have hz' : ∀ w, (sizeOf e).run P w = .ok (z + 1) w := fun w => size_of_info hz
    have h2 : i ≤ (len : Int) := by omega
    have h3 : ¬ len = i.toNat := by omega
    simp [execOp, H.ev hG e1, Instr.sliceAt, run_underlying hu, Instr.sureAddr, opts _ _ el, optn _ eh, Instr.sliceBounds, Instr.sliceBound, asIntOf, ho.1, h2, hz', h3, Addr.add_zero']
   ·cases h
  ·rename_i b off k j len e e1 el eh hu
   split at h
   ·rename_i z hz
    simp only [Option.some.injEq] at h; subst h
    have ho := gd_of H hG hk (hob _ rfl)
    refine Yr.run fun w' _ => ?_
    have hz' : ∀ w, (sizeOf e).run P w = .ok (z + 1) w := fun w => size_of_info hz
    have h2 : j ≤ (len : Int) := ho.2
    simp [execOp, H.ev hG e1, Instr.sliceAt, run_underlying hu, Instr.sureAddr, optn _ el, opts _ _ eh, Instr.sliceBounds, Instr.sliceBound, asIntOf, ho.1, h2, hz', Addr.add_zero']
   ·cases h
  ·cases h
 ·
  split at h
  ·rename_i a1 m c k i e e1 e2 hu
   split at h
   ·rename_i z hz
    simp only [Option.some.injEq] at h; subst h
    have ho := gd_of H hG hk (hob _ rfl)
    refine Yr.run fun w' _ => ?_
    have hz' : ∀ w, (sizeOf e).run P w = .ok (z + 1) w := fun w => size_of_info hz
    have e1' := H.ev hG e1
    have hoa : a1 = some ⟨ab a1, ao a1, none⟩ := ho.1
    rw [hoa] at e1'
    simp [execOp, e1', H.ev hG e2, Instr.indexAt, asIntOf, run_underlying hu, ho.2, hz', Addr.add_zero']
   ·cases h
  ·rename_i b off k i len e e1 e2 hu
   split at h
   ·rename_i z hz
    simp only [Option.some.injEq] at h; subst h
    have ho := gd_of H hG hk (hob _ rfl)
    refine Yr.run fun w' _ => ?_
    have hz' : ∀ w, (sizeOf e).run P w = .ok (z + 1) w := fun w => size_of_info hz
    simp [execOp, H.ev hG e1, H.ev hG e2, Instr.indexAt, asIntOf, run_underlying hu, Instr.sureAddr, ho, hz', Addr.add_zero']
   ·cases h
  ·cases h
 ·
  rename_i t x
  split at h
  ·rename_i b off v os' e1
   split at h
   ·rename_i fs cs hu
    cases hc : decide ((P.info? t).map (·.size) = some cs.length) with
    | false => rw [hc] at h; cases h
    | true =>
     rw [hc] at h
     simp only [cond_true, Option.some.injEq] at h; subst h
     have ho := gd_of H hG hk (hob _ rfl)
     exact Yr.run fun w' hw => by simp [execOp, H.ev hG e1, run_loadN hu rfl (by simpa using hc) hw ho]
   ·rename_i cs hu
    cases hc : decide ((P.info? t).map (·.size) = some cs.length) with
    | false => rw [hc] at h; cases h
    | true =>
     rw [hc] at h
     simp only [cond_true, Option.some.injEq] at h; subst h
     have ho := gd_of H hG hk (hob _ rfl)
     exact Yr.run fun w' hw => by simp [execOp, H.ev hG e1, run_loadN hu rfl (by simpa using hc) hw ho]
   ·cases h
   ·cases h
   ·rename_i d hn1 hn2 hu hn3 hn4
    simp only [Option.some.injEq] at h; subst h
    have ho := gd_of H hG hk (hob _ rfl)
    refine Yr.run fun w' hw => ?_
    have hr := run_load1 (P := P) hu (by cases d <;> simp_all) hw ho
    simp [execOp, H.ev hG e1, hr]
   ·cases h
  ·cases h
 ·
  split at h
  ·rename_i fs cs e1 e2
   simp only [Option.some.injEq] at h; subst h
   exact Yr.run fun w' _ => by simp [execOp, evs_arr H hG e1, evs_arr H hG e2, Instr.makeFunc]
  ·cases h
 ·
  rename_i c
  obtain ⟨cal, args, ats⟩ := c
  split at h
  ·rename_i hcal
   simp only at hcal h
   subst hcal
   split at h
   ·rename_i x t hx ht
    obtain rfl : args = #[x] := by cases args; simp_all
    obtain rfl : ats = #[t] := by cases ats; simp_all
    split at h
    ·rename_i s1 e1 hu
     simp only [Option.some.injEq] at h; subst h
     refine Yr.run fun w' _ => ?_
     have hs : (ByteArray.mk ⟨s1⟩).size = s1.length := rfl
     simp [execOp, resolve, invoke, H.ev hG e1, builtin, Builtin.len_, run_underlying hu, goInt, ln, hs]
    ·rename_i a1 m c1 d e1 hu
     simp only [Option.some.injEq] at h; subst h
     refine Yr.run fun w' _ => ?_
     simp [execOp, resolve, invoke, H.ev hG e1, builtin, Builtin.len_, run_underlying hu, goInt]
    ·rename_i m d hu
     simp only [Option.some.injEq] at h; subst h
     refine Yr.run fun w' _ => ?_
     simp [execOp, resolve, invoke, builtin, Builtin.len_, run_underlying hu, goInt]
    ·cases h
   ·cases h
  ·rename_i hcal
   simp only at hcal h
   subst hcal
   split at h
   ·rename_i vs e1
    obtain ⟨hv, _⟩ := pureOut_v h
    exact Yr.run fun w' _ => by simp only [execOp, resolve, evs_arr H hG e1, Sem.run_bind, Sem.run_pure, Result.andThen_ok, invoke]; exact run_mm hv
   ·cases h
  ·rename_i hcal
   simp only at hcal h
   subst hcal
   split at h
   ·rename_i vs e1
    obtain ⟨hv, _⟩ := pureOut_v h
    exact Yr.run fun w' _ => by simp only [execOp, resolve, evs_arr H hG e1, Sem.run_bind, Sem.run_pure, Result.andThen_ok, invoke]; exact run_mm hv
   ·cases h
  ·rename_i x hcal
   simp only at hcal h
   subst hcal
   split at h
   ·rename_i f first caps as v os' e1 e2
    simp only [Option.some.injEq] at h; subst h
    have ho := gd_of H hG hk (hob _ rfl)
    unfold callee at e1
    split at e1
    ·rename_i f' fi ca e3
     simp only [Option.some.injEq, Prod.mk.injEq] at e1
     obtain ⟨rfl, rfl, rfl⟩ := e1
     refine .inr ⟨rfl, ?_⟩
     intro w' hw
     unfold Oper.quietAt
     rcases ho with ho | ho
     ·have hr : (execOp a.eval ⟨dst, .call ⟨.value x, args, ats⟩, ty, pos, after, guard⟩).run P w' = .ok (.enter f' ⟨fi ++ as ++ ca⟩) w' := by
       simp only [execOp, resolve, Deferred.ofValue, H.ev hG e3, evs_arr H hG e2, Sem.run_bind, Sem.run_pure, Result.andThen_ok, invoke]
       have := ho.call w'
       simpa using this
      rw [hr]
      exact ⟨rfl, (ho.run w' hw).mono fun e w'' h => ⟨h.1, hw.trans (h.2.mono hw.size)⟩⟩
     ·have hr : (execOp a.eval ⟨dst, .call ⟨.value x, args, ats⟩, ty, pos, after, guard⟩).run P w' = .ok (.value v) w' := by
       simp only [execOp, resolve, Deferred.ofValue, H.ev hG e3, evs_arr H hG e2, Sem.run_bind, Sem.run_pure, Result.andThen_ok, invoke]
       have := ho w' hw
       simpa using this
      rw [hr]
      exact ⟨rfl, rfl⟩
    ·cases e1
   ·cases h
  ·cases h
 ·cases h
theorem step1_ok {P : Program} {n : Nat} {l : SF} {a : Act} {G : Chain} {w : World} {op : Op} {os : List Value} {out : Out} {dst : Option Tmp} {ty : TypeId} {pos : String} {after : Array Edge} {guard : Option (Nat × Bool)}
  (H : FrG D n l a) (hG : okc a G) (hk : cok l G G = true) (h : step1 P l G op os = some out) (hob : ∀ ob, out.ob = some ob → ob w) : Yields P ⟨dst, op, ty, pos, after, guard⟩ a w out.v := (step1_x H hG hk h hob).yields
theorem pick_x {P : Program} {n : Nat} {l : SF} {a : Act} {G : Chain} {w : World} {c x y : Operand} {v : Value} {dst : Option Tmp} {ty : TypeId} {pos : String} {after : Array Edge} {guard : Option (Nat × Bool)}
  (H : FrG D n l a) (hG : okc a G) (h : stepPick l G c x y = some v) : Yr P ⟨dst, .pick c x y, ty, pos, after, guard⟩ a w v := by
 unfold stepPick at h
 split at h
 ·rename_i s
  have slot : ∀ t, ev l G (.tmp s) = some (.bool t) → a.tmps[s]? = some (.bool t) := by
   intro t e1
   simp only [V.ev] at e1
   split at e1
   ·rename_i C u he
    cases hsb : sub1 C G with
    | false => rw [hsb] at e1; cases e1
    | true =>
     rw [hsb] at e1
     simp only [cond_true, Option.some.injEq] at e1
     subst e1
     exact (H.2.2 _ (lke_mem he)).1 (okc_sub hsb hG)
   ·cases e1
  have onT : ∀ {x v}, ev l G (.tmp s) = some (.bool true) → ev l ((s, true) :: G) x = some v → a.eval x = v := fun e1 e2 =>
   H.ev (G := (s, true) :: G) (fun p hp => by rcases List.mem_cons.1 hp with rfl | hp; exact slot _ e1; exact hG p hp) e2
  have onF : ∀ {x v}, ev l G (.tmp s) = some (.bool false) → ev l ((s, false) :: G) x = some v → a.eval x = v := fun e1 e2 =>
   H.ev (G := (s, false) :: G) (fun p hp => by rcases List.mem_cons.1 hp with rfl | hp; exact slot _ e1; exact hG p hp) e2
  split at h
  ·rename_i t p q e1 e2 e3
   simp only [Option.some.injEq] at h; subst h
   have ec := H.ev hG e1
   refine Yr.run fun w' _ => ?_
   cases t with
   | true => simp [execOp, ec, onT e1 e2, asBool]
   | false => simp [execOp, ec, onF e1 e3, asBool]
  ·rename_i q e1 e3 _
   simp only [Option.some.injEq] at h; subst h
   have ec := H.ev hG e1
   exact Yr.run fun w' _ => by simp [execOp, ec, onF e1 e3, asBool]
  ·rename_i q _ e1 e2 _
   simp only [Option.some.injEq] at h; subst h
   have ec := H.ev hG e1
   exact Yr.run fun w' _ => by simp [execOp, ec, onT e1 e2, asBool]
  ·cases h
 ·cases h
theorem pick_ok {P : Program} {n : Nat} {l : SF} {a : Act} {G : Chain} {w : World} {c x y : Operand} {v : Value} {dst : Option Tmp} {ty : TypeId} {pos : String} {after : Array Edge} {guard : Option (Nat × Bool)}
  (H : FrG D n l a) (hG : okc a G) (h : stepPick l G c x y = some v) : Yields P ⟨dst, .pick c x y, ty, pos, after, guard⟩ a w v := (pick_x H hG h).yields
def chainOf (all : List Oper) (l : SF) : Option (Nat × Bool) → Option Chain
 | none => some []
 | some (j, want) => match all[j]? with
  | some o => match o.dst with
   | some g => match lke l g with
    | some (C, .bool _) => some ((g, want) :: C)
    | _ => none
   | none => none
  | none => none
def stepO (P : Program) (l : SF) (G : Chain) (op : Op) (os : List Value) : Option Out :=
 match op with
 | .pick c x y => pureOut (stepPick l G c x y) os
 | _ => step1 P l G op os
def obs1 : Option Ob → List Ob → List Ob
 | none, r => r
 | some o, r => o :: r
def evb (P : Program) (n : Nat) (all : List Oper) : List Oper → Nat → List Value → SF → Option (SF × List Ob)
 | _, 0, _, l => some (l, [])
 | [], _ + 1, _, _ => none
 | o :: rest, m + 1, os, l =>
  match chainOf all l o.guard with
  | some G =>
   match cok l G G, stepO P l G o.op os with
   | true, some out =>
    match o.dst with
    | some d =>
     match Nat.blt d n && G.all fun p => !(Nat.beq p.1 d) with
     | true =>
      match evb P n all rest m out.os (upd l d G out.v) with
      | some (l', r) => some (l', obs1 out.ob r)
      | none => none
     | false => none
    | none => none
   | _, _ => none
  | none => none
def allOb : List Ob → World → Prop
 | [], _ => True
 | o :: r, w => o w ∧ allOb r w
theorem wanted_chain {n : Nat} {all : List Oper} {l : SF} {a : Act} (H : FrG D n l a) {g : Option (Nat × Bool)} {G : Chain} (h : chainOf all l g = some G) {dst : Option Tmp} {op : Op} {ty : TypeId} {pos : String} {after : Array Edge} :
  (Region.wanted ⟨dst, op, ty, pos, after, g⟩ (yielded all.toArray a.tmps) = true ↔ okc a G) := by
 unfold chainOf at h
 split at h
 ·simp only [Option.some.injEq] at h; subst h
  simp [Region.wanted, okc]
 ·rename_i j want
  split at h
  ·rename_i o ho
   split at h
   ·rename_i s hs
    split at h
    ·rename_i C b he
     simp only [Option.some.injEq] at h; subst h
     have h1 := H.2.2 _ (lke_mem he)
     have hy : yielded all.toArray a.tmps j = (match a.tmps[s]? with | some (.bool b) => some b | _ => none) := by
      unfold yielded
      rw [show ((all.toArray[j]?).bind (·.dst)) = some s from by simp [ho, hs]]
      rfl
     simp only [Region.wanted, hy]
     constructor
     ·intro hw
      by_cases hC : okc a C
      ·have := h1.1 hC
       dsimp only at this
       rw [this] at hw
       simp only [beq_iff_eq, Option.some.injEq] at hw
       subst hw
       intro p hp
       rcases List.mem_cons.1 hp with rfl | hp
       ·exact this
       ·exact hC p hp
      ·have := h1.2 hC
       dsimp only at this
       rw [this] at hw
       simp [undef] at hw
     ·intro hk
      have := hk _ List.mem_cons_self
      dsimp only at this
      rw [this]
      simp
    ·cases h
   ·cases h
  ·cases h
theorem stepO_ok {P : Program} {n : Nat} {l : SF} {a : Act} {G : Chain} {w : World} {op : Op} {os : List Value} {out : Out} {dst : Option Tmp} {ty : TypeId} {pos : String} {after : Array Edge} {guard : Option (Nat × Bool)}
  (H : FrG D n l a) (hG : okc a G) (hk : cok l G G = true) (h : stepO P l G op os = some out) (hob : ∀ ob, out.ob = some ob → ob w) : Yields P ⟨dst, op, ty, pos, after, guard⟩ a w out.v := by
 unfold stepO at h
 split at h
 ·obtain ⟨hv, _⟩ := pureOut_v h
  exact pick_ok H hG hv
 ·exact step1_ok H hG hk h hob
theorem evb_quiet {P : Program} {n : Nat} {all : List Oper} {w : World} {Q : Act → Prop} : ∀ (m : Nat) (rest : List Oper) (os : List Value) (l l' : SF) (obs : List Ob) (a : Act),
  evb P n all rest m os l = some (l', obs) → allOb obs w → FrG D n l a → (∀ a', FrG D n l' a' → wpQuiet P all.toArray (fun w' => Below w.heap.size w w') Q (rest.drop m) a') →
  wpQuiet P all.toArray (fun w' => Below w.heap.size w w') Q rest a
 | 0, rest, os, l, l', obs, a, h, _, H, hK => by
  simp [evb] at h
  obtain ⟨rfl, rfl⟩ := h
  exact hK a H
 | m + 1, [], os, l, l', obs, a, h, _, _, _ => by simp [evb] at h
 | m + 1, o :: rest, os, l, l', obs, a, h, hob, H, hK => by
  obtain ⟨dst, op, ty, pos, after, guard⟩ := o
  unfold evb at h
  split at h
  ·rename_i G hG
   split at h
   ·rename_i out hck hst
    split at h
    ·rename_i d hd
     split at h
     ·rename_i hbl
      simp only [Bool.and_eq_true] at hbl
      split at h
      ·rename_i l2 r hr
       simp only [Option.some.injEq, Prod.mk.injEq] at h
       obtain ⟨rfl, rfl⟩ := h
       obtain rfl : dst = some d := hd
       have hob2 : allOb r w ∧ ∀ ob, out.ob = some ob → ob w := by
        cases ho : out.ob with
        | none => rw [ho] at hob; exact ⟨hob, fun ob e => by cases e⟩
        | some ob => rw [ho] at hob; exact ⟨hob.2, fun ob' e => by cases e; exact hob.1⟩
       have hw := wanted_chain (dst := some d) (op := op) (ty := ty) (pos := pos) (after := after) H hG
       unfold wpQuiet
       by_cases hc : okc a G
       ·rw [if_pos (hw.2 hc)]
        exact ⟨out.v, stepO_ok H hc hck hst hob2.2, evb_quiet m rest _ _ _ _ _ hr hob2.1 (H.put hbl.1 hbl.2 (fun _ => rfl) (fun x => absurd hc x)) hK⟩
       ·rw [if_neg (fun x => hc (hw.1 x))]
        exact evb_quiet m rest _ _ _ _ _ hr hob2.1 (H.put hbl.1 hbl.2 (fun x => absurd x hc) (fun _ => rfl)) hK
      ·cases h
     ·cases h
    ·cases h
   ·cases h
  ·cases h
theorem wp_draw {P : Program} {n id : Nat} {all : List Oper} {Q : Exit → Act → World → Prop} {a : Act} {w : World} {l l' : SF} {os : List Value} {obs : List Ob} (ks : List Nat) {lk : SF}
  (H : FrG D n l a) (hm : P.follows .mixedOrders = true) (hB : Region.lexB .any all.toArray = true) (he : evb P n all all all.length os l = some (l', obs)) (hk : keep l' ks = some lk) (hob : allOb obs w)
  (hK : ∀ a' w', FrG D n lk a' → Below w.heap.size w w' → Q .normal a' w') : (Code.region id all.toArray true).wp P Q a w := by
 refine wp_region_quiet (C := fun w' => Below w.heap.size w w') hm hB ⟨rfl, rfl, rfl, Nat.le_refl _, fun _ _ => rfl⟩ ?_
 refine evb_quiet all.length all os l l' obs a he hob H ?_
 intro a' H'
 simp only [List.drop_length]
 exact fun w' hw => hK a' w' (H'.keep hk) hw
theorem evb_list {P : Program} {n : Nat} {all : List Oper} {Q : Exit → Act → World → Prop} : ∀ (m : Nat) (rest : List Oper) (os : List Value) (l l' : SF) (obs : List Ob) (a : Act) (w0 w : World),
  Below w0.heap.size w0 w →
  evb P n all rest m os l = some (l', obs) → allOb obs w0 → FrG D n l a → (∀ a' w', FrG D n l' a' → Below w0.heap.size w0 w' → wpList P all.toArray Q (rest.drop m) a' w') →
  wpList P all.toArray Q rest a w
 | 0, rest, os, l, l', obs, a, w0, w, hb, h, _, H, hK => by
  simp [evb] at h
  obtain ⟨rfl, rfl⟩ := h
  exact hK a w H hb
 | m + 1, [], os, l, l', obs, a, w0, w, hb, h, _, _, _ => by simp [evb] at h
 | m + 1, o :: rest, os, l, l', obs, a, w0, w, hb, h, hob, H, hK => by
  obtain ⟨dst, op, ty, pos, after, guard⟩ := o
  unfold evb at h
  split at h
  ·rename_i G hG
   split at h
   ·rename_i out hck hst
    split at h
    ·rename_i d hd
     split at h
     ·rename_i hbl
      simp only [Bool.and_eq_true] at hbl
      split at h
      ·rename_i l2 r hr
       simp only [Option.some.injEq, Prod.mk.injEq] at h
       obtain ⟨rfl, rfl⟩ := h
       obtain rfl : dst = some d := hd
       have hob2 : allOb r w0 ∧ ∀ ob, out.ob = some ob → ob w0 := by
        cases ho : out.ob with
        | none => rw [ho] at hob; exact ⟨hob, fun ob e => by cases e⟩
        | some ob => rw [ho] at hob; exact ⟨hob.2, fun ob' e => by cases e; exact hob.1⟩
       have hw := wanted_chain (dst := some d) (op := op) (ty := ty) (pos := pos) (after := after) H hG
       unfold wpList
       by_cases hc : okc a G
       ·rw [if_pos (hw.2 hc)]
        left
        have hy : (⟨some d, op, ty, pos, after, guard⟩ : Oper).quiet P a (fun w'' => Below w0.heap.size w0 w'') (fun a' => FrG D n (upd l d G out.v) a') :=
         ⟨out.v, stepO_ok H hc hck hst hob2.2, H.put hbl.1 hbl.2 (fun _ => rfl) (fun x => absurd hc x)⟩
        exact Oper.wp_of_quiet (C := fun w'' => Below w0.heap.size w0 w'') hb (fun a' w' hw' H' => evb_list m rest _ _ _ _ a' w0 w' hw' hr hob2.1 H' hK) hy
       ·rw [if_neg (fun x => hc (hw.1 x))]
        exact evb_list m rest _ _ _ _ _ w0 w hb hr hob2.1 (H.put hbl.1 hbl.2 (fun x => absurd x hc) (fun _ => rfl)) hK
      ·cases h
     ·cases h
    ·cases h
   ·cases h
  ·cases h
theorem Below.rfl' (w : World) : Below w.heap.size w w := Below.refl _ _
theorem wp_reg {P : Program} {n id : Nat} {all : List Oper} {Q : Exit → Act → World → Prop} {a : Act} {w : World} {l l' : SF} {os : List Value} {obs : List Ob} (ks : List Nat) {lk : SF}
  (H : FrG D n l a) (he : evb P n all all all.length os l = some (l', obs)) (hk : keep l' ks = some lk) (hob : allOb obs w)
  (hK : ∀ a' w', FrG D n lk a' → Below w.heap.size w w' → Q .normal a' w') : (Code.region id all.toArray false).wp P Q a w := by
 refine wp_region_lit (evb_list all.length all os l l' obs a w w (Below.rfl' w) he hob H ?_)
 intro a' w' H' hw
 simp only [List.drop_length]
 exact hK a' w' (H'.keep hk) hw
def evk (P : Program) (n : Nat) (all : List Oper) (os : List Value) (l : SF) (ks : List Nat) : Option (SF × List Ob) :=
 match evb P n all all all.length os l with
 | some (l', obs) => match keep l' ks with
  | some lk => some (lk, obs)
  | none => none
 | none => none
theorem evk_spec {P : Program} {n : Nat} {all : List Oper} {os : List Value} {l : SF} {ks : List Nat} {lk : SF} {obs : List Ob} (h : evk P n all os l ks = some (lk, obs)) :
  ∃ l', evb P n all all all.length os l = some (l', obs) ∧ keep l' ks = some lk := by
 unfold evk at h
 split at h
 ·rename_i l' obs' h1
  split at h
  ·rename_i lk' h2
   simp only [Option.some.injEq, Prod.mk.injEq] at h
   obtain ⟨rfl, rfl⟩ := h
   exact ⟨l', h1, h2⟩
  ·cases h
 ·cases h
abbrev Post := Act → World → Prop
def lkE : List (Nat × Post) → Nat → Option Post
 | [], _ => none
 | e :: r, i => cond (Nat.beq e.1 i) (some e.2) (lkE r i)
def Qs (N : Post) (ES : List (Nat × Post)) (R : Post) : Exit → Act → World → Prop
 | .normal, a, w => N a w
 | .exit i, a, w => match lkE ES i with
  | some E => E a w
  | none => False
 | .ret, a, w => R a w
 | _, _, _ => False
section
variable {P : Program} {N R : Post} {ES : List (Nat × Post)} {a : Act} {w : World} {n : Nat} {l : SF}
theorem w_seq {x y : Code} (h : x.wp P (Qs (fun a w => y.wp P (Qs N ES R) a w) ES R) a w) : (Code.seq x y).wp P (Qs N ES R) a w :=
 wp_seq (wp_mono h fun e a w q => by cases e <;> exact q)
theorem w_cut {x y : Code} (M : Post) (h : x.wp P (Qs M ES R) a w) (h2 : ∀ a w, M a w → y.wp P (Qs N ES R) a w) : (Code.seq x y).wp P (Qs N ES R) a w :=
 w_seq (wp_mono h fun e a w q => by cases e <;> first | exact h2 _ _ q | exact q)
theorem w_skip (h : N a w) : Code.skip.wp P (Qs N ES R) a w := wp_skip h
theorem w_ret (h : R a w) : Code.ret.wp P (Qs N ES R) a w := wp_ret h
theorem w_exit {i : Nat} {E : Post} (hi : lkE ES i = some E) (h : E a w) : (Code.exit i).wp P (Qs N ES R) a w :=
 wp_exit (by
  have e : Qs N ES R (.exit i) a w = (match lkE ES i with | some E => E a w | none => False) := rfl
  rw [e, hi]
  exact h)
theorem w_block {i : Nat} {c : Code} (h : c.wp P (Qs N ((i, N) :: ES) R) a w) : (Code.block i c).wp P (Qs N ES R) a w :=
 wp_block (wp_mono h fun e a w q => by
  cases e with
  | exit j =>
   simp only [Exit.inBlock]
   by_cases hj : j = i
   ·subst hj
    rw [if_pos rfl]
    have q' : N a w := by
     unfold Qs lkE at q
     simpa using q
    exact q'
   ·rw [if_neg hj]
    unfold Qs lkE at q
    have : Nat.beq i j = false := by
     cases hb : Nat.beq i j
     ·rfl
     ·exact absurd (Nat.eq_of_beq_eq_true hb).symm hj
    simp only [this, cond_false] at q
    exact q
  | _ => exact q)
theorem w_if {c : Operand} {x y : Code} {t : Bool} (H : FrG D n l a) (hc : ev l [] c = some (.bool t)) (h1 : t = true → x.wp P (Qs N ES R) a w) (h2 : t = false → y.wp P (Qs N ES R) a w) :
  (Code.cond c x y).wp P (Qs N ES R) a w :=
 wp_cond_split (H.ev (G := []) (fun _ h => by cases h) hc) h1 h2
theorem w_reg {id : Nat} {all : List Oper} (os : List Value) (ks : List Nat) (lk : SF) (obs : List Ob)
  (H : FrG D n l a) (he : evk P n all os l ks = some (lk, obs)) (hob : allOb obs w)
  (hK : ∀ a' w', FrG D n lk a' → Below w.heap.size w w' → N a' w') : (Code.region id all.toArray false).wp P (Qs N ES R) a w :=
 let ⟨_, h1, h2⟩ := evk_spec he
 wp_reg ks H h1 h2 hob hK
theorem w_draw {id : Nat} {all : List Oper} (os : List Value) (ks : List Nat) (lk : SF) (obs : List Ob)
  (H : FrG D n l a) (hm : P.follows .mixedOrders = true) (hB : Region.lexB .any all.toArray = true) (he : evk P n all os l ks = some (lk, obs)) (hob : allOb obs w)
  (hK : ∀ a' w', FrG D n lk a' → Below w.heap.size w w' → N a' w') : (Code.region id all.toArray true).wp P (Qs N ES R) a w :=
 let ⟨_, h1, h2⟩ := evk_spec he
 wp_draw ks H hm hB h1 h2 hob hK
theorem s_reg {id : Nat} {all : List Oper} {y : Code} (os : List Value) (ks : List Nat) (lk : SF) (obs : List Ob)
  (H : FrG D n l a) (he : evk P n all os l ks = some (lk, obs)) (hob : allOb obs w)
  (hK : ∀ a' w', FrG D n lk a' → Below w.heap.size w w' → y.wp P (Qs N ES R) a' w') : (Code.seq (.region id all.toArray false) y).wp P (Qs N ES R) a w := w_seq (w_reg os ks lk obs H he hob hK)
theorem s_draw {id : Nat} {all : List Oper} {y : Code} (os : List Value) (ks : List Nat) (lk : SF) (obs : List Ob)
  (H : FrG D n l a) (hm : P.follows .mixedOrders = true) (hB : Region.lexB .any all.toArray = true) (he : evk P n all os l ks = some (lk, obs)) (hob : allOb obs w)
  (hK : ∀ a' w', FrG D n lk a' → Below w.heap.size w w' → y.wp P (Qs N ES R) a' w') : (Code.seq (.region id all.toArray true) y).wp P (Qs N ES R) a w := w_seq (w_draw os ks lk obs H hm hB he hob hK)
theorem w_loop {c : Code} (I : Nat → Post) (h0 : ∃ m, I m a w)
  (round : ∀ m a w, I m a w → c.wp P (Qs (fun a' w' => ∃ m', m' < m ∧ I m' a' w') ES R) a w) : (Code.loop c).wp P (Qs N ES R) a w := by
 intro b k cs
 have key : ∀ m a w, I m a w →
   ∃ e a' w', Qs N ES R e a' w' ∧ Arrives P (lone (b.at a (.code c :: .inLoop c :: k)) cs w) b k cs e a' w' := by
  intro m
  induction m using Nat.strongRecOn with
  | _ m ih =>
   intro a w hI
   obtain ⟨e, a₁, w₁, hq, harr⟩ := round m a w hI b (.inLoop c :: k) cs
   cases e with
   | normal =>
    obtain ⟨m', hlt, hI₁⟩ := hq
    obtain ⟨e₂, a₂, w₂, hq₂, harr₂⟩ := ih m' hlt a₁ w₁ hI₁
    exact ⟨e₂, a₂, w₂, hq₂, .of_steps (Steps.trans harr (.one step_inLoop)) harr₂⟩
   | exit id => exact ⟨.exit id, a₁, w₁, hq, .pass (x := .inLoop c) rfl (fun _ _ => .inl (by simp)) harr⟩
   | goto l => exact ⟨.goto l, a₁, w₁, hq, .pass (x := .inLoop c) rfl (fun _ _ => .inl (by simp)) harr⟩
   | ret => exact ⟨.ret, a₁, w₁, hq, .pass (x := .inLoop c) rfl (fun _ _ => .inl (by simp)) harr⟩
   | panic ch => exact ⟨.panic ch, a₁, w₁, hq, .pass (x := .inLoop c) rfl (fun _ _ => .inl (by simp)) harr⟩
   | outgrown => exact ⟨.outgrown, a₁, w₁, hq, .pass (x := .inLoop c) rfl (fun _ _ => .inl (by simp)) harr⟩
 obtain ⟨m, hm⟩ := h0
 obtain ⟨e, a', w', hq, harr⟩ := key m a w hm
 exact ⟨e, a', w', hq, .of_steps (.one step_loop) harr⟩
end
def argsSF : List Value → Nat → SF
 | [], _ => []
 | v :: r, i => (i, [], v) :: argsSF r (i + 1)
theorem argsSF_get {vs : List Value} {i : Nat} {e : Nat × Chain × Value} (h : e ∈ argsSF vs i) : e.2.1 = [] ∧ i ≤ e.1 ∧ vs[e.1 - i]? = some e.2.2 := by
 induction vs generalizing i with
 | nil => simp [argsSF] at h
 | cons v r ih =>
  rcases List.mem_cons.1 h with rfl | h
  ·simp
  ·obtain ⟨h1, h2, h3⟩ := ih h
   refine ⟨h1, by omega, ?_⟩
   rw [show e.1 - i = (e.1 - (i + 1)) + 1 from by omega]
   simpa using h3
theorem FrG.tmp {n : Nat} {l : SF} {a : Act} (H : FrG D n l a) {t : Nat} {v : Value} (h : lke l t = some ([], v)) : a.tmps.getD t undef = v := by
 have := (H.2.2 _ (lke_mem h)).1 (fun p hp => by cases hp)
 dsimp only at this
 rw [Array.getD_eq_getD_getElem?, this]
 rfl
def Pure (v : Value) (w : World) (e : Ending) (w' : World) : Prop := e = .returned v ∧ Below w.heap.size w w'
theorem ret_of {P : Program} {f : FuncId} {args : Array Value} {v : Value} (hc : ∀ w, (callFunc f args).run P w = .ok (.enter f args) w) (h : ∀ w, Calls P f args w (Pure v w)) : Ret P f args v :=
 ⟨hc, h⟩
theorem bT {α : Type} {c : Bool} {x y r : α} (hc : c = true) (h : cond c x y = r) : x = r := by subst hc; exact h
theorem bF {α : Type} {c : Bool} {x y r : α} (hc : c = false) (h : cond c x y = r) : y = r := by subst hc; exact h
def chk {α : Type} (p : Prop) [Decidable p] (k : Option α) : Option α := if p then k else none
theorem chkE {α : Type} {p : Prop} [Decidable p] {k : Option α} {r : α} (h : chk p k = some r) : p ∧ k = some r := by
 unfold chk at h
 split at h
 ·rename_i hp; exact ⟨hp, h⟩
 ·cases h
theorem bindE {α β : Type} {x : Option α} {f : α → Option β} {r : β} (h : x.bind f = some r) : ∃ y, x = some y ∧ f y = some r := by
 cases x with
 | none => cases h
 | some y => exact ⟨y, rfl, h⟩
def lt {α β : Type} (e : α) (f : α → β) : β := f e
theorem letE {α β : Type} {e : α} {f : α → β} {r : β} (h : lt e f = r) : ∃ x, x = e ∧ f x = r := ⟨e, rfl, h⟩
def sumK {α β : Type} (z : Sum α β) (k : β → Option α) : Option α :=
 match z with
 | .inl r => some r
 | .inr s => k s
theorem sumR {α β : Type} {s : β} {k : β → Option α} {x : Option α} (h : sumK (Sum.inr s) k = x) : k s = x := h
theorem noneE {α : Type} {z : α} {p : Prop} (h : (none : Option α) = some z) : p := by cases h
theorem someE {α : Type} {x y : α} (h : some x = some y) : x = y := Option.some.inj h
structure Kp (X : List Nat) (w w' : World) : Prop where
 os : w'.os = w.os
 tape : w'.tape = w.tape
 output : w'.output = w.output
 size : w.heap.size ≤ w'.heap.size
 block : ∀ k, k < w.heap.size → k ∉ X → w'.heap[k]? = w.heap[k]?
theorem Kp.of_below {w w' : World} (h : Below w.heap.size w w') (X : List Nat) : Kp X w w' := ⟨h.os, h.tape, h.output, h.size, fun k hk _ => h.block k hk⟩
theorem Kp.below {w w' : World} (h : Kp [] w w') : Below w.heap.size w w' := ⟨h.os, h.tape, h.output, h.size, fun k hk => h.block k hk (by simp)⟩
theorem Kp.refl (X : List Nat) (w : World) : Kp X w w := ⟨rfl, rfl, rfl, Nat.le_refl _, fun _ _ _ => rfl⟩
theorem Kp.trans {X Y : List Nat} {w w1 w2 : World} (h : Kp X w w1) (k : Kp Y w1 w2) (hY : ∀ y ∈ Y, y ∈ X ∨ w.heap.size ≤ y) : Kp X w w2 :=
 ⟨k.os.trans h.os, k.tape.trans h.tape, k.output.trans h.output, Nat.le_trans h.size k.size, fun i hi hx =>
  (k.block i (Nat.lt_of_lt_of_le hi h.size) (fun hy => by
   rcases hY i hy with h1 | h1
   ·exact hx h1
   ·omega)).trans (h.block i hi hx)⟩
theorem Kp.step {X : List Nat} {w w1 w2 : World} (h : Kp X w w1) (k : Below w1.heap.size w1 w2) : Kp X w w2 := h.trans (Kp.of_below k []) (by simp)
structure Blk (w : World) (b : Nat) (cs : List Value) : Prop where
 lt : b < w.heap.size
 get : ∃ T, w.heap[b]? = some (.cells ⟨cs⟩ T (0, 0))
theorem Blk.kp {w w' : World} {b : Nat} {cs : List Value} {X : List Nat} (h : Blk w b cs) (k : Kp X w w') (hX : b ∉ X) : Blk w' b cs :=
 ⟨Nat.lt_of_lt_of_le h.lt k.size, by obtain ⟨T, hT⟩ := h.get; exact ⟨T, (k.block b h.lt hX).trans hT⟩⟩
theorem Blk.below {w w' : World} {b : Nat} {cs : List Value} (h : Blk w b cs) (k : Below w.heap.size w w') : Blk w' b cs := h.kp (Kp.of_below k []) (by simp)
theorem Blk.cell {w : World} {b off : Nat} {cs : List Value} (h : Blk w b cs) : w.cell? ⟨b, off, none⟩ = cs[off]? := by
 obtain ⟨T, hT⟩ := h.get
 simp [World.cell?, hT]
theorem Blk.at1 {w : World} {b off : Nat} {cs : List Value} {v : Value} (h : Blk w b cs) (hv : cs[off]? = some v) : V.at1 ⟨b, off, none⟩ v w := ⟨by rw [h.cell]; exact hv, h.lt⟩
theorem Blk.atN {w : World} {b off : Nat} {cs : List Value} (h : Blk w b cs) : ∀ (vs : List Value) (j : Nat), (∀ i (hi : i < vs.length), cs[off + (j + i)]? = some vs[i]) → V.atN b off vs j w
 | [], _, _ => trivial
 | v :: r, j, hv => ⟨h.at1 (by have := hv 0 (by simp); rw [Nat.add_zero] at this; exact this), Blk.atN h r (j + 1) (fun i hi => by
   have := hv (i + 1) (by simpa using hi)
   simpa [Nat.add_assoc, Nat.add_comm 1 i] using this)⟩
def setL : List Value → Nat → List Value → List Value
 | cs, _, [] => cs
 | cs, off, v :: r => setL (cs.set off v) (off + 1) r
def oneCells : List Value → Bool
 | [] => true
 | v :: r => v.oneCell' && oneCells r
theorem heap_setCell_get {w : World} {b off : Nat} {v : Value} {cs : List Value} {T : TypeId} {fr : Nat × Nat} (h : w.heap[b]? = some (.cells ⟨cs⟩ T fr)) :
  (w.setCell ⟨b, off, none⟩ v).heap[b]? = some (.cells ⟨cs.set off v⟩ T fr) := by
 simp [World.setCell, Array.getElem?_modify, h]
theorem kp_setCell (w : World) (a : Addr) (v : Value) : Kp [a.block] w (w.setCell a v) :=
 ⟨rfl, rfl, rfl, by simp [World.setCell], fun k _ hx => Below.heap_setCell w a v k (by simpa using hx)⟩
theorem run_storeCells {P : Program} {b off : Nat} : ∀ (vs : List Value) (j : Nat) (w : World) (cs : List Value), oneCells vs = true → Blk w b cs → off + j + vs.length ≤ cs.length →
  ∃ w', (storeCells ⟨b, off, none⟩ vs j).run P w = .ok () w' ∧ Kp [b] w w' ∧ Blk w' b (setL cs (off + j) vs)
 | [], j, w, cs, _, hb, _ => ⟨w, by simp [storeCells], Kp.refl _ _, by simpa [setL] using hb⟩
 | v :: r, j, w, cs, ho, hb, hl => by
  simp only [oneCells, Bool.and_eq_true] at ho
  obtain ⟨T, hT⟩ := hb.get
  have hj : off + j < cs.length := by simp at hl; omega
  have hc : w.cell? ⟨b, off + j, none⟩ = some cs[off + j] := by rw [hb.cell]; exact List.getElem?_eq_getElem hj
  have hf : w.frozen? ⟨b, off + j, none⟩ = false := by simp [World.frozen?, hT]
  have hst : (store ⟨b, off + j, none⟩ v).run P w = .ok () (w.setCell ⟨b, off + j, none⟩ v) := by
   rw [run_store P w _ v .plain ho.1, hc]
   simp [hf]
  have hb1 : Blk (w.setCell ⟨b, off + j, none⟩ v) b (cs.set (off + j) v) :=
   ⟨by have := (kp_setCell w ⟨b, off + j, none⟩ v).size; exact Nat.lt_of_lt_of_le hb.lt this, T, heap_setCell_get hT⟩
  obtain ⟨w', h1, h2, h3⟩ := run_storeCells (P := P) (off := off) r (j + 1) _ _ ho.2 hb1 (by simp only [List.length_cons] at hl; simp only [List.length_set]; omega)
  refine ⟨w', ?_, (kp_setCell w ⟨b, off + j, none⟩ v).trans h2 (by simp), h3⟩
  simp only [storeCells, Sem.run_bind, Addr.add_zero', hst, Result.andThen_ok]
  exact h1
section
variable {P : Program} {Q : Exit → Act → World → Prop} {a : Act} {w : World} {n : Nat} {l : SF} {all : List Oper}
theorem wl_start {id : Nat} {Q : Exit → Act → World → Prop} (h : wpList P all.toArray Q (all.drop 0) a w) : (Code.region id all.toArray false).wp P Q a w := wp_region_lit (by simpa using h)
theorem wl_end {N R : Post} {ES : List (Nat × Post)} {i : Nat} (hi : Nat.ble all.length i = true) (h : N a w) : wpList P all.toArray (Qs N ES R) (all.drop i) a w := by
 have : all.length ≤ i := by simpa using hi
 rw [List.drop_eq_nil_of_le this]
 exact h
def evj (P : Program) (n : Nat) (all : List Oper) (i j : Nat) (os : List Value) (l : SF) (ks : List Nat) : Option (SF × List Ob) :=
 match evb P n all (all.drop i) (j - i) os l with
 | some (l', obs) => match keep l' ks with
  | some lk => some (lk, obs)
  | none => none
 | none => none
theorem wl_batch (i j : Nat) (os : List Value) (ks : List Nat) (lk : SF) (obs : List Ob) (H : FrG D n l a) (hij : Nat.ble i j = true) (he : evj P n all i j os l ks = some (lk, obs)) (hob : allOb obs w)
  (hK : ∀ a' w', FrG D n lk a' → Below w.heap.size w w' → wpList P all.toArray Q (all.drop j) a' w') : wpList P all.toArray Q (all.drop i) a w := by
 unfold evj at he
 split at he
 ·rename_i l' obs' h1
  split at he
  ·rename_i lk' h2
   simp only [Option.some.injEq, Prod.mk.injEq] at he
   obtain ⟨rfl, rfl⟩ := he
   refine evb_list (j - i) (all.drop i) os l l' _ a w w (Below.rfl' w) h1 hob H ?_
   intro a' w' H' hb
   have hij' : i ≤ j := by simpa using hij
   rw [List.drop_drop, Nat.add_sub_cancel' hij']
   exact hK a' w' (H'.keep h2) hb
  ·cases he
 ·cases he
theorem wl_wp {i : Nat} {o : Oper} (ho : all[i]? = some o) (hg : o.guard = none)
  (h : ∀ K : Act → World → Prop, (∀ a w, wpList P all.toArray Q (all.drop (i + 1)) a w → K a w) → o.wp P a w K Q) : wpList P all.toArray Q (all.drop i) a w := by
 have hl : i < all.length := by
  rcases Nat.lt_or_ge i all.length with h | h
  ·exact h
  ·rw [List.getElem?_eq_none h] at ho; cases ho
 have he : all[i] = o := by
  rw [List.getElem?_eq_getElem hl] at ho
  exact Option.some.inj ho
 rw [List.drop_eq_getElem_cons hl, he]
 exact wpList_plain hg h
theorem okc_nil (a : Act) : okc a [] := fun _ h => by cases h
theorem FrG.set {H : FrG D n l a} {d : Nat} {v : Value} (hd : Nat.blt d n = true) : FrG D n (upd l d [] v) (a.put (some d) v) := H.put hd rfl (fun _ => rfl) (fun h => absurd (okc_nil a) h)
theorem new_blk (w : World) (cs : List Value) (T : TypeId) : Kp [] w (w.alloc (.cells ⟨cs⟩ T)) ∧ Blk (w.alloc (.cells ⟨cs⟩ T)) w.heap.size cs :=
 ⟨Kp.of_below ((Below.refl _ _).alloc (Nat.le_refl _) _) [], by show w.heap.size < (w.heap.push _).size; simp, T, by show (w.heap.push _)[w.heap.size]? = _; simp⟩
end
structure Sl {α : Type} (enc : α → List Value) (z : Nat) (w : World) (a : Option Addr) (l : List α) : Prop where
 ok : 0 < l.length → oka a
 lt : 0 < l.length → ab a < w.heap.size
 get : ∀ i (h : i < l.length) j v, (enc l[i])[j]? = some v → w.cell? ⟨ab a, ao a + i * z + j, none⟩ = some v
theorem Sl.kp {α : Type} {enc : α → List Value} {z : Nat} {w w' : World} {a : Option Addr} {l : List α} {X : List Nat} (h : Sl enc z w a l) (k : Kp X w w') (hX : ab a ∉ X) : Sl enc z w' a l :=
 ⟨h.ok, fun hl => Nat.lt_of_lt_of_le (h.lt hl) k.size, fun i hi j v hv => by
  rw [World.cell?_of_block (w := w) (k.block (ab a) (h.lt (by omega)) hX)]
  exact h.get i hi j v hv⟩
theorem Sl.below {α : Type} {enc : α → List Value} {z : Nat} {w w' : World} {a : Option Addr} {l : List α} (h : Sl enc z w a l) (k : Below w.heap.size w w') : Sl enc z w' a l := h.kp (Kp.of_below k []) (by simp)
theorem Sl.nil {α : Type} (enc : α → List Value) (z : Nat) (w : World) (a : Option Addr) : Sl enc z w a ([] : List α) := ⟨fun h => by simp at h, fun h => by simp at h, fun i h => by simp at h⟩
def gi {α : Type} [Inhabited α] (l : List α) (i : Int) : α := l.getD i.toNat default
theorem Sl.at1 {α : Type} [Inhabited α] {enc : α → List Value} {z : Nat} {w : World} {a : Option Addr} {l : List α} (h : Sl enc z w a l) {i : Int} (h0 : 0 ≤ i) (h1 : i < ln l) (j : Nat) {v : Value}
  (hv : (enc (gi l i))[j]? = some v) : V.at1 ⟨ab a, ao a + i.toNat * z + j, none⟩ v w := by
 have hl : i.toNat < l.length := by unfold ln at h1; omega
 have hg : gi l i = l[i.toNat] := by simp [gi, List.getD_eq_getElem?_getD, List.getElem?_eq_getElem hl]
 rw [hg] at hv
 exact ⟨h.get _ hl j v hv, h.lt (by omega)⟩
theorem Sl.oki {α : Type} {enc : α → List Value} {z : Nat} {w : World} {a : Option Addr} {l : List α} (h : Sl enc z w a l) {i : Int} (h0 : 0 ≤ i ∧ i < ln l) : oka a ∧ 0 ≤ i ∧ i < ln l :=
 ⟨h.ok (by unfold ln at h0; omega), h0⟩
theorem Sl.atN {α : Type} [Inhabited α] {enc : α → List Value} {z : Nat} {w : World} {a : Option Addr} {l : List α} (h : Sl enc z w a l) {i : Int} (h0 : 0 ≤ i) (h1 : i < ln l) : ∀ (vs : List Value) (j : Nat),
  (∀ q (hq : q < vs.length), (enc (gi l i))[j + q]? = some vs[q]) → V.atN (ab a) (ao a + i.toNat * z) vs j w
 | [], _, _ => trivial
 | v :: r, j, hv => ⟨h.at1 h0 h1 j (by have := hv 0 (by simp); rw [Nat.add_zero] at this; exact this), Sl.atN h h0 h1 r (j + 1) (fun q hq => by
   have := hv (q + 1) (by simpa using hq)
   simpa [Nat.add_assoc, Nat.add_comm 1 q] using this)⟩
def encI (k : IntKind) (x : Int) : List Value := [.int k x]
theorem flat_get {α : Type} {enc : α → List Value} {z : Nat} (hz : ∀ x, (enc x).length = z) : ∀ (l : List α) (i : Nat) (h : i < l.length) (j : Nat) (v : Value), (enc l[i])[j]? = some v → ((l.map enc).flatten)[i * z + j]? = some v
 | x :: r, 0, _, j, v, hv => by
  have hj : j < (enc x).length := by
   rcases Nat.lt_or_ge j (enc x).length with h | h
   ·exact h
   ·rw [List.getElem?_eq_none (by simpa using h)] at hv; cases hv
  simp only [List.getElem_cons_zero] at hv
  simp only [List.map_cons, List.flatten_cons, Nat.zero_mul, Nat.zero_add]
  rw [List.getElem?_append_left hj]
  exact hv
 | x :: r, i + 1, h, j, v, hv => by
  have := flat_get hz r i (by simpa using h) j v (by simpa using hv)
  simp only [List.map_cons, List.flatten_cons]
  rw [List.getElem?_append_right (by rw [hz]; rw [Nat.add_mul, Nat.one_mul]; omega), hz, show (i + 1) * z + j - z = i * z + j from by rw [Nat.add_mul, Nat.one_mul]; omega]
  exact this
theorem Sl.of_cells {α : Type} {enc : α → List Value} {z : Nat} (hz : ∀ x, (enc x).length = z) {w : World} {b : Nat} {l : List α} {cs : List Value} {T : TypeId} {fr : Nat × Nat} (h : w.heap[b]? = some (.cells ⟨cs⟩ T fr))
  (hc : ∀ q, q < l.length * z → cs[q]? = ((l.map enc).flatten)[q]?) : Sl enc z w (some ⟨b, 0, none⟩) l := by
 refine ⟨fun _ => rfl, fun _ => ?_, fun i hi j v hv => ?_⟩
 ·show b < w.heap.size
  rcases Nat.lt_or_ge b w.heap.size with hb | hb
  ·exact hb
  ·rw [Array.getElem?_eq_none hb] at h; cases h
 ·have hf := flat_get hz l i hi j v hv
  have hj : j < z := by
   rw [← hz l[i]]
   rcases Nat.lt_or_ge j (enc l[i]).length with h | h
   ·exact h
   ·rw [List.getElem?_eq_none h] at hv; cases hv
  have hq : i * z + j < l.length * z := by
   have : (i + 1) * z ≤ l.length * z := Nat.mul_le_mul_right z hi
   rw [Nat.add_mul, Nat.one_mul] at this
   omega
  show w.cell? ⟨b, 0 + i * z + j, none⟩ = some v
  simp only [World.cell?, h, Option.isSome_none, Bool.false_eq_true, if_false, Nat.zero_add]
  simp only [List.getElem?_toArray]
  rw [hc _ hq]
  exact hf
theorem run_buildSlice {P : Program} {w : World} {t E : TypeId} {z len : Nat} {zv : Value} {parts : Array (Nat × Value)} {cs : List Value} (hu : P.underlying t = some (.slice E)) (hz : (P.info? E).map (·.size) = some z)
  (hzv : (P.info? E).map (·.zero) = some (some zv)) (hlen : Nat.ble (len * z) 16777216 = true) (hpos : Nat.blt 0 (len * z) = true)
  (hf : Instr.fill (fun i => some (i * z, z)) ((Array.range (len * z)).map (zv.cells[· % zv.cells.size]!)) parts.toList = some ⟨cs⟩) :
  (Instr.buildSlice t len parts).run P w = .ok (.slice (some ⟨w.heap.size, 0, none⟩) len len) (w.alloc (.cells ⟨cs⟩ E)) := by
 have hs : (sizeOf E).run P w = .ok z w := size_of_info hz
 have hzr : (zeroValue E).run P w = .ok zv w := by
  cases hi : P.info? E with
  | none => simp [hi] at hzv
  | some inf =>
   simp [hi] at hzv
   simp [zeroValue, typeInfo, hi, hzv]
 have h1 : ¬ len * z > 2 ^ 24 := by
  have : len * z ≤ 16777216 := by simpa using hlen
  omega
 have h2 : ¬ len * z = 0 := by
  have : 0 < len * z := by simpa [Nat.blt, Nat.lt_iff_add_one_le] using hpos
  omega
 simp only [Instr.buildSlice, Sem.run_bind, run_underlying hu, Result.andThen_ok, hs, h1, if_false, h2, hzr, Sem.run_pure, hf]
 simp [newRow]
section
variable {P : Program} {Q : Exit → Act → World → Prop} {a : Act} {w : World} {n : Nat} {l : SF} {all : List Oper}
end
structure Does (P : Program) (f : FuncId) (args : Array Value) (w : World) (v : Value) (R : World → Prop) : Prop where
 call : ∀ w, (callFunc f args).run P w = .ok (.enter f args) w
 run : Calls P f args w fun e w' => e = .returned v ∧ R w'
section
variable {P : Program} {Q : Exit → Act → World → Prop} {a : Act} {w : World} {n : Nat} {l : SF} {all : List Oper}
end
def toB (l : List Int) : List UInt8 := l.map fun n => UInt8.ofNat n.toNat
def ofB (s : List UInt8) : List Int := s.map fun c => (c.toNat : Int)
structure Rw (k : IntKind) (w : World) (b : Nat) (l : List Int) : Prop where
 lt : b < w.heap.size
 get : ∃ T sp fr, w.heap[b]? = some (.cells ⟨l.map (Value.int k) ++ sp⟩ T fr) ∧ (fr.2 = 0 ∨ l.length ≤ fr.1)
theorem Rw.kp {k : IntKind} {w w' : World} {b : Nat} {l : List Int} {X : List Nat} (h : Rw k w b l) (kp : Kp X w w') (hX : b ∉ X) : Rw k w' b l :=
 ⟨Nat.lt_of_lt_of_le h.lt kp.size, by obtain ⟨T, sp, fr, hT, hf⟩ := h.get; exact ⟨T, sp, fr, (kp.block b h.lt hX).trans hT, hf⟩⟩
theorem Rw.below {k : IntKind} {w w' : World} {b : Nat} {l : List Int} (h : Rw k w b l) (kb : Below w.heap.size w w') : Rw k w' b l := h.kp (Kp.of_below kb []) (by simp)
theorem Rw.cell {k : IntKind} {w : World} {b i : Nat} {l : List Int} (h : Rw k w b l) (hi : i < l.length) : w.cell? ⟨b, i, none⟩ = some (.int k l[i]) := by
 obtain ⟨T, sp, fr, hT, _⟩ := h.get
 simp only [World.cell?, hT, Option.isSome_none, Bool.false_eq_true, if_false, List.getElem?_toArray]
 rw [List.getElem?_append_left (by simpa using hi)]
 simp [List.getElem?_eq_getElem hi]
theorem Rw.at1 {k : IntKind} {w : World} {b : Nat} {l : List Int} (h : Rw k w b l) {i : Int} (h0 : 0 ≤ i) (h1 : i < ln l) : V.at1 ⟨b, 0 + i.toNat * 1, none⟩ (.int k (gi l i)) w := by
 have hl : i.toNat < l.length := by unfold ln at h1; omega
 have hg : gi l i = l[i.toNat] := by simp [gi, List.getD_eq_getElem?_getD, List.getElem?_eq_getElem hl]
 rw [hg, Nat.mul_one, Nat.zero_add]
 exact ⟨h.cell hl, h.lt⟩
theorem Rw.sl {k : IntKind} {w : World} {b off : Nat} {l : List Int} (h : Rw k w b l) : Sl (encI k) 1 w (some ⟨b, off, none⟩) (l.drop off) :=
 ⟨fun _ => rfl, fun _ => h.lt, fun i hi j v hv => by
  have hj : j = 0 := by
   rcases Nat.eq_zero_or_pos j with h | h
   ·exact h
   ·rw [List.getElem?_eq_none (by simp [encI]; omega)] at hv; cases hv
  subst hj
  simp only [encI, List.getElem_drop, List.getElem?_cons_zero, Option.some.injEq] at hv
  subst hv
  have hi' : off + i < l.length := by simp at hi; omega
  simp only [ab, ao, Nat.mul_one, Nat.add_zero]
  exact h.cell hi'⟩
theorem Rw.sl0 {k : IntKind} {w : World} {b : Nat} {l : List Int} (h : Rw k w b l) : Sl (encI k) 1 w (some ⟨b, 0, none⟩) l := by simpa using h.sl (off := 0)
def seti (l : List Int) (i v : Int) : List Int := l.set i.toNat v
theorem ln_seti (l : List Int) (i v : Int) : ln (seti l i v) = ln l := by simp [ln, seti]
theorem run_row_store {P : Program} {w : World} {k : IntKind} {b : Nat} {l : List Int} {t : TypeId} {i v : Int} (h : Rw k w b l) (hz : (P.info? t).map (·.size) = some 1) (h0 : 0 ≤ i) (h1 : i < ln l) :
  ∃ w', (Instr.storeAt t (.pointer (some ⟨b, 0 + i.toNat * 1, none⟩)) (.int k v)).run P w = .ok () w' ∧ Kp [b] w w' ∧ Rw k w' b (seti l i v) := by
 have hl : i.toNat < l.length := by unfold ln at h1; omega
 obtain ⟨T, sp, fr, hT, hf⟩ := h.get
 have hc := h.cell hl
 have hfz : w.frozen? ⟨b, i.toNat, none⟩ = false := by
  simp only [World.frozen?, hT]
  rcases hf with hf | hf
  ·simp [hf]
  ·have : ¬ fr.1 ≤ i.toNat := by omega
   simp [this]
 have hst : (store ⟨b, i.toNat, none⟩ (.int k v)).run P w = .ok () (w.setCell ⟨b, i.toNat, none⟩ (.int k v)) := by
  rw [run_store P w _ _ .plain rfl, hc]
  simp [hfz]
 have hsz : (sizeOf t).run P w = .ok 1 w := size_of_info hz
 refine ⟨w.setCell ⟨b, i.toNat, none⟩ (.int k v), ?_, kp_setCell w ⟨b, i.toNat, none⟩ (.int k v), ?_, T, sp, fr, ?_, ?_⟩
 ·rw [Nat.mul_one, Nat.zero_add]
  have ha : Addr.add ⟨b, i.toNat, none⟩ 0 = ⟨b, i.toNat, none⟩ := rfl
  simp [Instr.storeAt, Instr.sureAddr, storeVar, hsz, Value.cells, storeCells, ha, hst]
 ·exact Nat.lt_of_lt_of_le h.lt (kp_setCell w ⟨b, i.toNat, none⟩ (.int k v)).size
 ·rw [heap_setCell_get hT]
  rw [List.set_append_left _ _ (by simpa using hl)]
  simp [seti, List.map_set]
 ·simpa [seti] using hf
section
variable {P : Program} {Q : Exit → Act → World → Prop} {a : Act} {w : World} {n : Nat} {l : SF} {all : List Oper}
end
theorem conv_sl {P : Program} {w : World} {s t E : TypeId} {a : Option Addr} {c : Nat} {l : List Int} (hs : P.underlying s = some (.slice E)) (ht : P.underlying t = some .string) (hE : P.underlying E = some (.int .u8)) (h : Sl (encI .u8) 1 w a l) :
  ∀ w', Below w.heap.size w w' → (convert s t (.slice a l.length c)).run P w' = .ok (.string ⟨⟨toB l⟩⟩) w' := by
 intro w' hb
 have h' := h.below hb
 simp only [convert, Sem.run_bind, run_underlying hs, run_underlying ht, run_underlying hE, Result.andThen_ok]
 cases a with
 | none =>
  have : l = [] := by
   cases l with
   | nil => rfl
   | cons x r => have := h.ok (by simp); simp [oka] at this
  subst this
  rfl
 | some a0 =>
  cases l with
  | nil =>
   simp [Conv.bytesToString, loadCells, loadCellsFrom, toB]
   rfl
  | cons x r =>
   have hok : some a0 = some ⟨ab (some a0), ao (some a0), none⟩ := h.ok (by simp)
   have hl := run_loadCells (P := P) (w := w') (b := ab (some a0)) (off := ao (some a0)) ((x :: r).map (Value.int .u8)) 0 #[] (fun i hi => by
    have hi' : i < (x :: r).length := by simpa using hi
    have := h'.get i hi' 0 (.int .u8 (x :: r)[i]) rfl
    simp only [Nat.mul_one, Nat.add_zero] at this
    rw [Nat.zero_add, this, List.getElem_map])
   have he : a0 = ⟨ab (some a0), ao (some a0), none⟩ := by simpa using hok
   have hb2 := run_bytesToString (P := P) w' a0 (x :: r).length c (x :: r) (by
    rw [he]
    unfold loadCells
    have e2 : ((x :: r).map (Value.int .u8)).length = (x :: r).length := by simp
    rw [e2] at hl
    rw [← he] at hl ⊢
    rw [hl]
    simp)
   rw [hb2, foldl_push_bytes]
   have e3 : ByteArray.empty.data ++ ((x :: r).map fun n => UInt8.ofNat n.toNat).toArray = ⟨toB (x :: r)⟩ := by
    apply Array.ext'
    simp [toB, ByteArray.empty, ByteArray.emptyWithCapacity]
    rfl
   rw [e3]
theorem atN_of {w : World} {b off : Nat} : ∀ (vs : List Value) (j : Nat), (∀ i (hi : i < vs.length), V.at1 ⟨b, off + (j + i), none⟩ vs[i] w) → V.atN b off vs j w
 | [], _, _ => trivial
 | v :: r, j, hv => ⟨by have := hv 0 (by simp); exact this, atN_of r (j + 1) (fun i hi => by
   have := hv (i + 1) (by simpa using hi)
   simpa [Nat.add_assoc, Nat.add_comm 1 i] using this)⟩
theorem Blk.atD {w : World} {b off : Nat} {cs vs : List Value} (h : Blk w b cs) (hv : (cs.drop off).take vs.length = vs) : V.atN b off vs 0 w := by
 refine atN_of vs 0 fun i hi => h.at1 ?_
 have h1 : ((cs.drop off).take vs.length)[i]? = some vs[i] := by rw [hv]; exact List.getElem?_eq_getElem hi
 rw [List.getElem?_take_of_lt hi, List.getElem?_drop] at h1
 rw [Nat.zero_add]
 exact h1
theorem Sl.atA {α : Type} [Inhabited α] {enc : α → List Value} {z : Nat} {w : World} {a : Option Addr} {l : List α} (h : Sl enc z w a l) {i : Int} (h0 : 0 ≤ i ∧ i < ln l) {vs : List Value} (hv : enc (gi l i) = vs) :
  V.atN (ab a) (ao a + i.toNat * z) vs 0 w := by
 subst hv
 refine atN_of _ 0 fun q hq => ?_
 have := h.at1 h0.1 h0.2 (0 + q) (v := (enc (gi l i))[q]) (by rw [Nat.zero_add]; exact List.getElem?_eq_getElem hq)
 exact this
section
variable {P : Program} {Q : Exit → Act → World → Prop} {a : Act} {w : World} {n : Nat} {l : SF} {all : List Oper}
end
theorem Blk.row {k : IntKind} {w : World} {b : Nat} (l : List Int) (h : Blk w b (l.map (Value.int k))) : Rw k w b l :=
 ⟨h.lt, by obtain ⟨T, hT⟩ := h.get; exact ⟨T, [], (0, 0), by simpa using hT, .inl rfl⟩⟩
theorem conv_row {P : Program} {w : World} {s t E : TypeId} {b c m : Nat} {q : List Int} (hs : P.underlying s = some (.slice E)) (ht : P.underlying t = some .string) (hE : P.underlying E = some (.int .u8)) (h : Rw .u8 w b q) (e : ln q = (m : Int)) :
  ∀ w', Below w.heap.size w w' → (convert s t (.slice (some ⟨b, 0, none⟩) m c)).run P w' = .ok (.string ⟨⟨toB q⟩⟩) w' := by
 obtain rfl : q.length = m := by unfold ln at e; omega
 exact conv_sl hs ht hE h.sl0
end Go.V
