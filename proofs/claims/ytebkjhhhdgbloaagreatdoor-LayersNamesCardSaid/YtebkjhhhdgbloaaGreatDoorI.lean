/-
 strconv.Itoa by the shelf's contract; variables whose whole block is told. Nothing here is a statement of this claim.
-/
import Derived.Test.YtebkjhhhdgbloaaGreatDoorRows
import Derived.Test.YtebkjhhhdgbloaaGreatDoorD
import Derived.Test.YtebkjhhhdgbloaaGreatDoorSh
set_option linter.unusedVariables false
namespace Go.V
open Go Go.RowKit
theorem heap_lt {w : World} {b : Nat} {o : Obj} (h : w.heap[b]? = some o) : b < w.heap.size := by
 rcases Nat.lt_or_ge b w.heap.size with h' | h'
 ·exact h'
 ·rw [Array.getElem?_eq_none h'] at h; cases h
theorem SH.gone {M : Av} {L : List Ent} {w w' : World} (h : S0 M L w) (k : Kp (fpl L) w w') : SH M (fpl L) w [] w' := SH.step h k (by simp) (by simp [fpl]) (by simp)
def Ent.tab (g : Nat) (cs : List Value) : Ent where
 fp := []
 p := fun M w => (∃ T fr, w.heap[g]? = some (.cells ⟨cs⟩ T fr)) ∧ ¬ M g
 kp := fun h k hM _ => ⟨by obtain ⟨⟨T, fr, h1⟩, h2⟩ := h; exact ⟨T, fr, (k.block _ (heap_lt h1) (fun hx => h2 (hM _ hx))).trans h1⟩, h.2⟩
 anti := fun h hM => ⟨h.1, fun hb => h.2 (hM _ hb)⟩
 fresh := fun h => ⟨h.1, fun hb => by
  obtain ⟨⟨T, fr, h1⟩, h2⟩ := h
  rcases hb with hb | hb
  ·exact h2 hb
  ·have := heap_lt h1; omega⟩
 lt := fun _ b hb => by cases hb
def itoaU : Nat → Nat → Str
 | 0, _ => []
 | k + 1, u => cond (Nat.blt u 10) [UInt8.ofNat (48 + u)] (itoaU k (u / 10) ++ [UInt8.ofNat (48 + u % 10)])
def itoaS (n : Int) : Str := cond (decide (n < 0)) (45 :: itoaU 20 n.natAbs) (itoaU 20 n.toNat)
theorem blt_ff {u : Nat} (h : ¬ u < 10) : Nat.blt u 10 = false := by
 cases hb : Nat.blt u 10 with
 | false => rfl
 | true => exact absurd (by simpa [Nat.blt, Nat.lt_iff_add_one_le] using hb) h
theorem itoaU_eq : ∀ (k u : Nat), u < 10 ^ (k + 1) → itoaU (k + 1) u = Lib.decDigits u
 | 0, u, h => by
  have h : u < 10 := by simpa using h
  rw [Lib.decDigits, dif_pos h, itoaU, show Nat.blt u 10 = true from by simpa [Nat.blt, Nat.lt_iff_add_one_le] using h]; rfl
 | k + 1, u, h => by
  by_cases hu : u < 10
  ·rw [Lib.decDigits, dif_pos hu, itoaU, show Nat.blt u 10 = true from by simpa [Nat.blt, Nat.lt_iff_add_one_le] using hu]; rfl
  ·rw [Lib.decDigits, dif_neg hu, itoaU, blt_ff hu]
   rw [show (cond false [UInt8.ofNat (48 + u)] (itoaU (k + 1) (u / 10) ++ [UInt8.ofNat (48 + u % 10)])) = itoaU (k + 1) (u / 10) ++ [UInt8.ofNat (48 + u % 10)] from rfl,
    itoaU_eq k (u / 10) (by rw [Nat.pow_succ] at h; omega)]
theorem itoaS_eq {n : Int} (h : -9223372036854775808 ≤ n ∧ n ≤ 9223372036854775807) : itoaS n = Lib.itoa n := by
 unfold itoaS Lib.itoa
 by_cases hn : n < 0
 ·rw [if_pos hn, show decide (n < 0) = true from by simpa using hn, itoaU_eq 19 n.natAbs (by omega)]; rfl
 ·rw [if_neg hn, show decide (n < 0) = false from by simpa using hn, itoaU_eq 19 n.toNat (by omega)]; rfl
theorem kp_grow (w : World) (k : Nat) (os : Array Obj) (X : List Nat) : Kp X w (Go.Sort.grow (w.drewN k) os) :=
 ⟨rfl, rfl, rfl, by simp [Go.Sort.grow, World.drewN], fun i hi _ => by
  show ((w.drewN k).heap ++ os)[i]? = _
  rw [Array.getElem?_append_left (by show i < w.heap.size; omega)]
  rfl⟩
theorem s0tab {w : World} {L : List Ent} (h : S0 F0 L w ∧ fpl L = []) {g : Nat} {cs : List Value} {M : Av} (hs : (Ent.tab g cs).p M w) : S0 F0 (.tab g cs :: L) w ∧ fpl (.tab g cs :: L) = [] := by
 have he : fpl (.tab g cs :: L) = [] := by simp [fpl, Ent.tab, h.2]
 refine ⟨?_, he⟩
 have hs2 : SH F0 (fpl L) w (.tab g cs :: L) w := h.1.add rfl ⟨hs.1, fun hm => by
  rcases hm with hm | hm
  ·exact hm
  ·rw [h.2] at hm; cases hm⟩
 rw [h.2] at hs2
 show SH F0 (fpl (.tab g cs :: L)) w _ w
 rw [he]
 exact hs2
end Go.V
namespace Go.Proofs.YtebkjhhhdgbloaaGreatDoor
open Go.V Go.RowKit
theorem pow10_tab {w : World} {M : Av} (h : (Ent.tab 0 (Lib.pow10Tab.map fun z => Value.int .u64 z)).p M w) : Lib.TabIs Tryz.prog w "internal/strconv.uint64pow10" .u64 Lib.pow10Tab := by
 obtain ⟨⟨T, fr, h1⟩, _⟩ := h
 unfold Lib.TabIs World.var?
 rw [show Tryz.prog.globalNamed "internal/strconv.uint64pow10" = some 0 from by kernel_rfl, Option.bind_some, h1]
def x_Itoa (n : Int) : Option Str := chk (-9223372036854775808 ≤ n ∧ n ≤ 9223372036854775807) (some (itoaS n))
theorem x_Itoa_ok (n : Int) (r : Str) (hm : x_Itoa n = some r) (w : World) (hL : S0 F0 [Ent.tab 0 (Lib.pow10Tab.map fun z => Value.int .u64 z)] w ∧ fpl [Ent.tab 0 (Lib.pow10Tab.map fun z => Value.int .u64 z)] = []) :
  RetB Tryz.prog 32 ⟨[.int .i64 n]⟩ (.string ⟨⟨r⟩⟩) w := by
 obtain ⟨h, hm⟩ := chkE hm
 obtain rfl := someE hm
 refine retB_of (L := [Ent.tab 0 (Lib.pow10Tab.map fun z => Value.int .u64 z)]) hL (Tryz.call32 _) fun w' hS => ?_
 rw [itoaS_eq h]
 refine (Tryz.strconv_Itoa n h.1 h.2 w' (pow10_tab (hS.at 0 rfl))).mono ?_
 rintro e w2 ⟨rfl, k, os, rfl⟩
 refine ⟨_, rfl, rfl, ?_⟩
 exact SH.gone hS (kp_grow w' k os _)
end Go.Proofs.YtebkjhhhdgbloaaGreatDoor
