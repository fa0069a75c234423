/-
  strconv.Atoi by the shelf's contract; variables that hold some error. Nothing here is a statement of this claim.
-/
import Derived.Test.YtipafpkdkhnjmaaGreatDoorI
set_option linter.unusedVariables false
namespace Go.V
open Go Go.RowKit
/-- A variable that holds some error. -/
def Ent.gifc (g : Nat) : Ent where
  fp := []
  p := fun M w => (∃ te pe, w.cell? ⟨g, 0, Option.none⟩ = some (.iface te pe)) ∧ g < w.heap.size ∧ ¬ M g
  kp := fun h k hM _ => by
    obtain ⟨⟨te, pe, hm⟩, hl, hn⟩ := h
    exact ⟨⟨te, pe, by rw [World.cell?_of_block (k.block g hl fun hx => hn (hM _ hx))]; exact hm⟩, Nat.lt_of_lt_of_le hl k.size, hn⟩
  anti := fun h hM => ⟨h.1, h.2.1, fun hm => h.2.2 (hM _ hm)⟩
  fresh := fun h => ⟨h.1, h.2.1, fun hm => by
    rcases hm with hm | hm
    · exact h.2.2 hm
    · have := h.2.1; omega⟩
  lt := fun _ b hb => by cases hb
theorem s0gf {w : World} {L : List Ent} (h : S0 F0 L w ∧ fpl L = []) {g : Nat} {M : Av} (hs : (Ent.gifc g).p M w) : S0 F0 (.gifc g :: L) w ∧ fpl (.gifc g :: L) = [] := by
  have he : fpl (.gifc g :: L) = [] := by simp [fpl, Ent.gifc, h.2]
  refine ⟨?_, he⟩
  have hs2 : SH F0 (fpl L) w (.gifc g :: L) w := h.1.add rfl ⟨hs.1, hs.2.1, fun hm => by
    rcases hm with hm | hm
    · exact hm
    · rw [h.2] at hm; cases hm⟩
  rw [h.2] at hs2
  show SH F0 (fpl (.gifc g :: L)) w _ w
  rw [he]
  exact hs2
/-- An error: none, or one at an address. -/
def errV (T : TypeId) (ok : Bool) (g : Gh) : Value := cond ok .nilIface (.iface T (.pointer g.a))
/-- What strconv.Atoi says of a text, and whether without an error. -/
def atoiV (s : Str) : Int × Bool := match Lib.atoiAll s with
  | .ok v => (v, true)
  | Lib.NumEnd.syntax => (0, false)
  | .range => (Lib.atoiSat s, false)
end Go.V
namespace Go.Proofs.YtipafpkdkhnjmaaGreatDoor
open Go.V Go.RowKit
def x_Atoi (s : Str) : Option (Int × Bool) := chk (s.length ≤ 281474976710656) (some (atoiV s))
theorem x_Atoi_ok (s : Str) (r : Int × Bool) (hm : x_Atoi s = some r) (M : Av) (w : World) (hS : S0 M [Ent.gifc 2, Ent.gifc 3] w) :
    DoesX Tryz.prog 62 ⟨[.string ⟨⟨s⟩⟩]⟩ w (fun v w' => ∃ g : Gh, v = .tuple ⟨[.int .i64 r.1, errV 128 r.2 g]⟩ ∧ SH M (fpl [Ent.gifc 2, Ent.gifc 3]) w [] w') := by
  obtain ⟨h, hm⟩ := chkE hm
  obtain rfl := someE hm
  refine ⟨Tryz.call62 _, ?_⟩
  unfold atoiV
  obtain ⟨⟨te1, pe1, hs⟩, _⟩ := hS.at 0 rfl
  obtain ⟨⟨te2, pe2, hr⟩, _⟩ := hS.at 1 rfl
  have hsz : (⟨⟨s⟩⟩ : ByteArray).size ≤ 281474976710656 := h
  cases he : Lib.atoiAll s with
  | ok v =>
    refine (Any.strconv_Atoi_ok Tryz.laysC172 ⟨⟨s⟩⟩ (by omega) v he w).mono ?_
    rintro e w2 ⟨rfl, hw⟩
    refine ⟨_, rfl, .nil, rfl, ?_⟩
    rcases hw with rfl | ⟨t, rfl⟩
    · exact hS.sel [] rfl
    · exact (hS.below (Lib.bytesWorld_below w _ t)).sel [] rfl
  | range =>
    refine (Any.strconv_Atoi_range Tryz.laysC172 ⟨⟨s⟩⟩ hsz he _ w hr (.inr ⟨te2, pe2, rfl⟩)).mono ?_
    rintro e w2 ⟨N, rfl, _, _, hb⟩
    exact ⟨_, rfl, .mk (some ⟨N, 0, none⟩) 0 fun _ _ => .nil, rfl, (hS.below hb).sel [] rfl⟩
  | _ =>
    refine (Any.strconv_Atoi_syntax Tryz.laysC172 ⟨⟨s⟩⟩ hsz he _ w hs (.inr ⟨te1, pe1, rfl⟩)).mono ?_
    rintro e w2 ⟨N, rfl, _, _, hb⟩
    exact ⟨_, rfl, .mk (some ⟨N, 0, none⟩) 0 fun _ _ => .nil, rfl, (hS.below hb).sel [] rfl⟩
end Go.Proofs.YtipafpkdkhnjmaaGreatDoor
