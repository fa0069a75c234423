/-
 Spaces between the parts of a function, and a copy of component values. No program in sight.
-/
import Derived.Test.YtemchjneoalnoaaGreatDoorC1
set_option linter.unusedVariables false
set_option maxRecDepth 100000
namespace Go.Proofs.YtemchjneoalnoaaGreatDoor
open Go Go.V Go.RowKit
def rgF : List TValue → List Int → Str → Option (Str × List Int)
 | [], n, u => some (u, n)
 | x :: r, n, u => Option.bind (parseval_rgb_1 x.Token u n) fun y => rgF r y.2 y.1
theorem rgb_x (m : Nat) (l : List TValue) (hl : l.length ≤ 2000000) : ∀ (kk i : Nat) (ns : List Int) (u : Str), l.length - i < kk → i ≤ l.length → parseval_rgb_L1 m l kk (i : Int) ns u = rgF (l.drop i) ns u := by
 intro kk
 induction kk with
 | zero => intro i ns u h; omega
 | succ kk ih =>
  intro i ns u h hi
  rw [parseval_rgb_L1]
  by_cases h1 : i < l.length
  ·rw [lt_dec h1, cond_true, chk_ix h1, List.drop_eq_getElem_cons h1, rgF, gi_nat l i h1, w64_ix (by omega)]
   congr 1
   funext y
   exact ih (i + 1) _ _ (by omega) (by omega)
  ·rw [ge_dec (by omega), cond_false, List.drop_eq_nil_of_le (by omega), rgF]
theorem rgF_app : ∀ (a b : List TValue) (ns : List Int) (u : Str), rgF (a ++ b) ns u = Option.bind (rgF a ns u) fun y => rgF b y.2 y.1
 | [], b, ns, u => rfl
 | x :: r, b, ns, u => by
  rw [List.cons_append, rgF, rgF]
  cases parseval_rgb_1 x.Token u ns with
  | none => rfl
  | some y => rw [Option.bind_some, Option.bind_some]; exact rgF_app r b _ _
theorem rgb_sp (a b : List TValue) (x : TValue) (hk : (x.Token.Kind == 13) = true) (hl : (a ++ b).length ≤ 1048576) : parseval_rgb FU (a ++ x :: b) = parseval_rgb FU (a ++ b) := by
 have hl2 : (a ++ x :: b).length = (a ++ b).length + 1 := by simp only [List.length_append, List.length_cons]; omega
 unfold parseval_rgb
 rw [show (0 : Int) = ((0 : Nat) : Int) from rfl, rgb_x FU (a ++ x :: b) (by omega) FU 0 _ _ (by unfold FU; omega) (Nat.zero_le _), rgb_x FU (a ++ b) (by omega) FU 0 _ _ (by unfold FU; omega) (Nat.zero_le _), List.drop_zero, List.drop_zero]
 have e : rgF (a ++ x :: b) [] [] = rgF (a ++ b) [] [] := by
  rw [rgF_app, rgF_app]
  congr 1
  funext y
  rw [rgF]
  unfold parseval_rgb_1
  rw [hk, cond_true, Option.bind_some]
 rw [e]
theorem eta (x : TValue) : TValue.mk x.Token x.List_ = x := by cases x; rfl
theorem twin_L1 (m : Nat) (v : List TValue) (rec : List TValue → Option (List TValue)) (hl : v.length ≤ 1048576) (hr : ∀ x ∈ v, rec x.List_ = some x.List_) :
  ∀ (kk i : Nat) (a : List TValue), v.length - i < kk → i ≤ v.length → a.length ≤ i → r26_Twin_L1 m v rec kk a (i : Int) = some (a ++ v.drop i) := by
 intro kk
 induction kk with
 | zero => intro i a h; omega
 | succ kk ih =>
  intro i a h hi ha
  rw [r26_Twin_L1]
  by_cases h1 : i < v.length
  ·rw [lt_dec h1, cond_true, chk_ix h1, hr _ (gi_mem' h1), Option.bind_some, chk_pos (by unfold ln; simp only [List.length_cons, List.length_nil]; omega), lt_eq, w64_ix (by omega), ih (i + 1) _ (by omega) (by omega) (by simp only [List.length_append, List.length_cons, List.length_nil]; omega), List.drop_eq_getElem_cons h1, gi_nat v i h1, eta]
   simp only [List.append_assoc]
   rfl
  ·rw [ge_dec (by omega), cond_false, List.drop_eq_nil_of_le (by omega), List.append_nil]
theorem twin_r (m : Nat) (hm : 1048577 < m) : ∀ (k : Nat) (v : List TValue), zVs v < k → zVs v ≤ 1048576 → r26_Twin_r m k v = some v := by
 intro k
 induction k with
 | zero => intro v h; omega
 | succ k ih =>
  intro v h hb
  have hl := z_len v
  have hn := twin_L1 m v (r26_Twin_r m k) (by omega) (fun x hx => by
   have h1 := z_mem hx; have h2 := z_kid x
   exact ih _ (by omega) (by omega)) m 0 [] (by omega) (by omega) (by simp)
  rw [r26_Twin_r]
  rw [show (0 : Int) = ((0 : Nat) : Int) from rfl, hn, Option.bind_some, List.drop_zero, List.nil_append]
theorem twin_x (v : List TValue) (h : zVs v ≤ 1048576) : r26_Twin FU v = some v := twin_r FU (by decide) FU v (by unfold FU; omega) h
theorem named_eq (s t : Str) (h : parseval_small FU s = parseval_small FU t) : parseval_Named FU s = parseval_Named FU t := by
 unfold parseval_Named
 rw [h]
theorem color_eq (k n : Int) (t t' u u' : Str) (f : Bool) (l l' : List TValue) (hl : t.length ≤ 1048570) (ht : t'.map lo = t.map lo) (hl' : t'.length ≤ 1048570) (hr : parseval_rgb FU l' = parseval_rgb FU l) : parseval_color FU (TValue.mk (TToken.mk k t' n u' f) l') = parseval_color FU (TValue.mk (TToken.mk k t n u f) l) := by
 have hs : parseval_small FU t' = parseval_small FU t := by rw [small_x t' (by omega), small_x t (by omega), ht]
 unfold parseval_color
 dsimp only [TValue.Token, TValue.List_]
 rw [hs, hr, named_eq t' t hs, hash_eq t' t hl' ht]
theorem maybe_eq (k n : Int) (t t' u u' : Str) (f : Bool) (l l' : List TValue) (hl : t.length ≤ 1048570) (ht : t'.map lo = t.map lo) (hl' : t'.length ≤ 1048570) (hu : u.length ≤ 1048570) (hu' : u'.length ≤ 1048570) (hq : u'.map lo = u.map lo) (hr : parseval_rgb FU l' = parseval_rgb FU l) : parseval_maybe FU (TValue.mk (TToken.mk k t' n u' f) l') = parseval_maybe FU (TValue.mk (TToken.mk k t n u f) l) := by
 have hs : parseval_small FU t' = parseval_small FU t := by rw [small_x t' (by omega), small_x t (by omega), ht]
 have hv : parseval_small FU u' = parseval_small FU u := by rw [small_x u' (by omega), small_x u (by omega), hq]
 unfold parseval_maybe
 rw [color_eq k n t t' u u' f l l' hl ht hl' hr]
 dsimp only [TValue.Token]
 rw [hs, hv]
 rfl
theorem parse_eq (prop : Int) (x y : TValue) (h : parseval_maybe FU x = parseval_maybe FU y) : parseval_Parse FU prop [x] = parseval_Parse FU prop [y] := by
 unfold parseval_Parse
 rw [show ln [x] = ln [y] from rfl, show gi [x] (0 : Int) = x from rfl, show gi [y] (0 : Int) = y from rfl, h]
end Go.Proofs.YtemchjneoalnoaaGreatDoor
