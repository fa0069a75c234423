/-
  The plain law behind InputSmall: both ways to make small letters come to one list.
-/
import Derived.Test.YtihckkbhieblkaaW01
import Derived.Test.YtihckkbhieblkaaVP
namespace Go.Proofs.Ytihckkbhieblkaa
open Go.V Go.RowKit

def lowC (c : Int) : Int := cond (cond (decide (65 ≤ c)) (decide (c ≤ 90)) false) (ibit .or .u8 c 32) c

theorem lower_L1 (s : Str) (hs : s.length < 4611686018427387904) : ∀ (m i : Nat) (q : List Int), q.length = s.length → i ≤ s.length → s.length - i < m →
    input_Lower_L1 s m (i : Int) q = some (q.take i ++ (q.drop i).map lowC) := by
  intro m
  induction m with
  | zero => intro i q _ _ h; omega
  | succ m ih =>
    intro i q hq hi hm
    rw [input_Lower_L1]
    have e : ln (ofB s) = (s.length : Int) := by rw [ln_ofB]; rfl
    by_cases hlt : i < s.length
    · rw [e, show decide ((i : Int) < (s.length : Int)) = true from by simpa using hlt, cond_true]
      rw [show w64 ((i : Int) + 1) = ((i + 1 : Nat) : Int) from by rw [w64_id (by omega) (by omega)]; rfl]
      have hg : gi q (i : Int) = q[i] := gi_nat q i (by omega)
      have hrest : ∀ v, input_Lower_L1 s m ((i + 1 : Nat) : Int) (q.set i v) = some (q.take i ++ v :: (q.drop (i + 1)).map lowC) := fun v => by
        rw [ih (i + 1) (q.set i v) (by simpa using hq) (by omega) (by omega), take_set_drop q i v lowC (by omega)]
      have hd : q.drop i = q[i] :: q.drop (i + 1) := List.drop_eq_getElem_cons (by omega)
      have hset : q.set i q[i] = q := by simp
      unfold lt
      rw [show chk (0 ≤ (i : Int) ∧ (i : Int) < (s.length : Int)) = fun (k : Option (List Int)) => k from by funext k; unfold chk; rw [if_pos ⟨by omega, by omega⟩]]
      simp only [hg, seti_nat]
      rw [hd, List.map_cons]
      cases hb : (bif decide (65 ≤ q[i]) then decide (q[i] ≤ 90) else false) with
      | true =>
        simp only [cond_true, Option.bind_some]
        rw [hrest]
        simp only [lowC, hb, cond_true]
      | false =>
        simp only [cond_false, Option.bind_some]
        have := hrest q[i]
        rw [hset] at this
        rw [this]
        simp only [lowC, hb, cond_false]
    · have : i = s.length := by omega
      subst this
      rw [e, show decide (((s.length : Nat) : Int) < ((s.length : Nat) : Int)) = false from by simp, cond_false]
      simp [← hq]

theorem lower_s (s : Str) (hs : s.length < 4611686018427387904) : input_Lower s = some (toB ((ofB s).map lowC)) := by
  unfold input_Lower
  rw [show (0 : Int) = ((0 : Nat) : Int) from rfl, lower_L1 s hs _ 0 (ofB s) (by simp [ofB]) (by omega) (by rw [ln_ofB]; unfold ln; omega)]
  simp

theorem rlower_L1 (s : Str) (hs : s.length < 4611686018427387904) : ∀ (m i : Nat) (q : List Int), q.length = s.length → i ≤ s.length → s.length - i < m →
    r01_Lower_L1 s m (i : Int) q = some (q.take i ++ (q.drop i).map r01_Small) := by
  intro m
  induction m with
  | zero => intro i q _ _ h; omega
  | succ m ih =>
    intro i q hq hi hm
    rw [r01_Lower_L1]
    have e : ln (ofB s) = (s.length : Int) := by rw [ln_ofB]; rfl
    by_cases hlt : i < s.length
    · rw [e, show decide ((i : Int) < (s.length : Int)) = true from by simpa using hlt, cond_true]
      rw [show w64 ((i : Int) + 1) = ((i + 1 : Nat) : Int) from by rw [w64_id (by omega) (by omega)]; rfl]
      have hg : gi q (i : Int) = q[i] := gi_nat q i (by omega)
      have hd : q.drop i = q[i] :: q.drop (i + 1) := List.drop_eq_getElem_cons (by omega)
      refine chkI ⟨by omega, by omega⟩ ?_
      unfold lt
      simp only [hg, seti_nat]
      rw [ih (i + 1) (q.set i _) (by simpa using hq) (by omega) (by omega), take_set_drop q i _ r01_Small (by omega), hd, List.map_cons]
    · have : i = s.length := by omega
      subst this
      rw [e, show decide (((s.length : Nat) : Int) < ((s.length : Nat) : Int)) = false from by simp, cond_false]
      simp [← hq]

theorem low_small : ∀ c : Fin 256, r01_Small (c.val : Int) = lowC (c.val : Int) := by decide +kernel
theorem map_small (s : Str) : (ofB s).map r01_Small = (ofB s).map lowC := by
  simp only [ofB, List.map_map]
  apply List.map_congr_left
  intro c _
  exact low_small ⟨c.toNat, c.toNat_lt⟩

theorem rlower_s (s : Str) (hs : s.length < 4611686018427387904) : r01_Lower s = some (toB ((ofB s).map lowC)) := by
  unfold r01_Lower
  rw [show (0 : Int) = ((0 : Nat) : Int) from rfl, rlower_L1 s hs _ 0 (ofB s) (by simp [ofB]) (by omega) (by rw [ln_ofB]; unfold ln; omega)]
  simp [map_small]

theorem small_true (a b : Str) : law01_InputSmall a b = some true := by
  unfold law01_InputSmall lt
  cases h : (bif decide (500 < ln a) then true else decide (500 < ln b)) with
  | true => rfl
  | false =>
    have h2 : ln a ≤ 500 ∧ ln b ≤ 500 := by
      cases h3 : decide (500 < ln a) with
      | true => rw [h3] at h; cases h
      | false =>
        rw [h3, cond_false] at h
        simp at h h3
        exact ⟨h3, h⟩
    have ha : a.length < 4611686018427387904 := by unfold ln at h2; omega
    have hb : b.length < 4611686018427387904 := by unfold ln at h2; omega
    simp only [cond_false, lower_s a ha, rlower_s a ha, input_Alike, r01_Alike, lower_s b hb, rlower_s b hb, Option.bind_some, beq_self_eq_true, cond_true]
theorem small_walk (a b : Str) (w : World) : Calls Try.prog 3 ⟨[.string ⟨⟨a⟩⟩, .string ⟨⟨b⟩⟩]⟩ w (V.Pure (.bool true) w) := law01_InputSmall_w a b true (small_true a b) w
end Go.Proofs.Ytihckkbhieblkaa
