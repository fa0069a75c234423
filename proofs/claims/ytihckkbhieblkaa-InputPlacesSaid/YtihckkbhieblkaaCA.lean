/-
  strings.ContainsAny at the bytes that cleaning takes away, of any text (the numbers of this program filled in by a program). Nothing here is a statement of this claim.
-/
import Derived.Test.YtihckkbhieblkaaSh
import Derived.Shelf.Strings.IndexAnyAll
import Derived.Shelf.Strings.IndexAny
import Derived.Laws.RangeAny
import Derived.WalkKit
import Derived.Deep.LoopGhost
import Derived.Lib.OthersKept
import Derived.RegionTactic
import Derived.RegionCalls
import Derived.Deep.RegionWith
import Derived.Shelf.RegionOpenPlain
set_option linter.unusedVariables false
set_option maxRecDepth 20000
set_option maxHeartbeats 4000000
namespace Go.Proofs.Ytihckkbhieblkaa
open Go Go.RowKit
theorem wp_loop1 {P : Program} {c : Code} {Q : Exit → Act → World → Prop} {a : Act} {w : World} (h : c.wp P (Exit.then (fun _ _ => False) Q) a w) : (Code.loop c).wp P Q a w := by
  intro b k cs
  obtain ⟨e, a₁, w₁, hq, harr⟩ := h b (.inLoop c :: k) cs
  have fin : ∀ e', e = e' → e' ≠ .normal → ∃ e a' w', Q e a' w' ∧ Arrives P (lone (b.at a (.code (.loop c) :: k)) cs w) b k cs e a' w' := by
    rintro e' rfl hn
    cases e with
    | normal => exact absurd rfl hn
    | exit id => exact ⟨.exit id, a₁, w₁, hq, .of_steps (.one step_loop) (.pass (x := .inLoop c) rfl (fun _ _ => .inl (by simp)) harr)⟩
    | goto l => exact ⟨.goto l, a₁, w₁, hq, .of_steps (.one step_loop) (.pass (x := .inLoop c) rfl (fun _ _ => .inl (by simp)) harr)⟩
    | ret => exact ⟨.ret, a₁, w₁, hq, .of_steps (.one step_loop) (.pass (x := .inLoop c) rfl (fun _ _ => .inl (by simp)) harr)⟩
    | panic ch => exact ⟨.panic ch, a₁, w₁, hq, .of_steps (.one step_loop) (.pass (x := .inLoop c) rfl (fun _ _ => .inl (by simp)) harr)⟩
    | outgrown => exact ⟨.outgrown, a₁, w₁, hq, .of_steps (.one step_loop) (.pass (x := .inLoop c) rfl (fun _ _ => .inl (by simp)) harr)⟩
  by_cases he : e = .normal
  · subst he; exact hq.elim
  · exact fin e rfl he
theorem ir2 (b0 b1 : UInt8) (r : Int) (w : World) (h0 : 128 ≤ r) (hne : r ≠ 65533) (hv : Lib.validRune r = true) (hcv : ∀ w, (convert 21 9 (.int .i32 r)).run Try.prog w = .ok (.string ⟨#[b0, b1]⟩) w) (hb : 128 ≤ b1.toNat) :
    Calls Try.prog 46 #[.string ⟨#[0, 12, 13]⟩, .int .i32 r] w fun e w' => e = .returned (.int .i64 (-1)) ∧ Below w.heap.size w w' := by
  have mixed : Try.prog.follows Departure.mixedOrders = true := by kernel_rfl
  have hx : ((((⟨#[0, 12, 13]⟩ : ByteArray)[1]'(by decide)).toNat : Int) != (((⟨#[b0, b1]⟩ : ByteArray)[1]'(by simp [ByteArray.size])).toNat : Int)) = true := by
    show ((12 : Int) != (b1.toNat : Int)) = true
    simp; omega
  have hi : decide (Lib.indexByte [13] ((⟨#[b0, b1]⟩ : ByteArray)[1]'(by simp [ByteArray.size])) < 0) = true := by
    show decide (Lib.indexByte [13] b1 < 0) = true
    simp [Lib.indexByte]
    split
    · rename_i h; rw [← h] at hb; simp at hb
    · omega
  have h1 : ¬ r < 128 := by omega
  have h2 : (0 : Int) ≤ r := by omega
  have h3 : (r == 65533) = false := by simpa using hne
  go_enter Try.func46, Try.ntmps46
  go_wp2_with (first | (go_at_call 61; refine (Try.utf8_ValidRune _ _).mono ?_; rintro e w' ⟨rfl, hw⟩; rw [hw, hv]) | go_in)
  subst hw
  go_step3
  go_wp2
  refine wp_loop1 ?_
  go_wp2
  go_step3
  go_wp2
  go_region_o
  all_goals go_wp2
  all_goals go_region_with (go_at_call 60; refine (Try.strings_IndexByte _ _ _).mono ?_; rintro e w' ⟨rfl, rfl⟩)
  all_goals go_wp2

  all_goals (simp +zetaDelta only [Exit.noGoto, Exit.inBlock, Exit.then]; go_ret; exact ⟨rfl, by first | exact Below.refl _ _ | exact ⟨rfl, rfl, rfl, Nat.le_refl _, fun _ _ => rfl⟩⟩)
theorem ir3 (b0 b1 b2 : UInt8) (r : Int) (w : World) (h0 : 128 ≤ r) (hne : r ≠ 65533) (hv : Lib.validRune r = true) (hcv : ∀ w, (convert 21 9 (.int .i32 r)).run Try.prog w = .ok (.string ⟨#[b0, b1, b2]⟩) w) (hb : 128 ≤ b2.toNat) :
    Calls Try.prog 46 #[.string ⟨#[0, 12, 13]⟩, .int .i32 r] w fun e w' => e = .returned (.int .i64 (-1)) ∧ Below w.heap.size w w' := by
  have mixed : Try.prog.follows Departure.mixedOrders = true := by kernel_rfl
  have hx : ((((⟨#[0, 12, 13]⟩ : ByteArray)[2]'(by decide)).toNat : Int) != (((⟨#[b0, b1, b2]⟩ : ByteArray)[2]'(by simp [ByteArray.size])).toNat : Int)) = true := by
    show ((13 : Int) != (b2.toNat : Int)) = true
    simp; omega
  have hi : decide (Lib.indexByte [] ((⟨#[b0, b1, b2]⟩ : ByteArray)[2]'(by simp [ByteArray.size])) < 0) = true := by
    show decide (Lib.indexByte [] b2 < 0) = true
    simp [Lib.indexByte]
  have h1 : ¬ r < 128 := by omega
  have h2 : (0 : Int) ≤ r := by omega
  have h3 : (r == 65533) = false := by simpa using hne
  go_enter Try.func46, Try.ntmps46
  go_wp2_with (first | (go_at_call 61; refine (Try.utf8_ValidRune _ _).mono ?_; rintro e w' ⟨rfl, hw⟩; rw [hw, hv]) | go_in)
  subst hw
  go_step3
  go_wp2
  refine wp_loop1 ?_
  go_wp2
  go_step3
  go_wp2
  go_region_o
  all_goals go_wp2
  all_goals go_region_with (go_at_call 60; refine (Try.strings_IndexByte _ _ _).mono ?_; rintro e w' ⟨rfl, rfl⟩)
  all_goals go_wp2

  all_goals (simp +zetaDelta only [Exit.noGoto, Exit.inBlock, Exit.then]; go_ret; exact ⟨rfl, by first | exact Below.refl _ _ | exact ⟨rfl, rfl, rfl, Nat.le_refl _, fun _ _ => rfl⟩⟩)
theorem ir4 (b0 b1 b2 b3 : UInt8) (r : Int) (w : World) (h0 : 128 ≤ r) (hne : r ≠ 65533) (hv : Lib.validRune r = true) (hcv : ∀ w, (convert 21 9 (.int .i32 r)).run Try.prog w = .ok (.string ⟨#[b0, b1, b2, b3]⟩) w) (hb : 128 ≤ b3.toNat) :
    Calls Try.prog 46 #[.string ⟨#[0, 12, 13]⟩, .int .i32 r] w fun e w' => e = .returned (.int .i64 (-1)) ∧ Below w.heap.size w w' := by
  have mixed : Try.prog.follows Departure.mixedOrders = true := by kernel_rfl
  have h1 : ¬ r < 128 := by omega
  have h2 : (0 : Int) ≤ r := by omega
  have h3 : (r == 65533) = false := by simpa using hne
  go_enter Try.func46, Try.ntmps46
  go_wp2_with (first | (go_at_call 61; refine (Try.utf8_ValidRune _ _).mono ?_; rintro e w' ⟨rfl, hw⟩; rw [hw, hv]) | go_in)
  subst hw
  go_step3
  go_wp2
  refine wp_loop1 ?_
  go_wp2

  all_goals (simp +zetaDelta only [Exit.noGoto, Exit.inBlock]; go_ret; exact ⟨rfl, by first | exact Below.refl _ _ | exact ⟨rfl, rfl, rfl, Nat.le_refl _, fun _ _ => rfl⟩⟩)
theorem ir_err (w : World) : Calls Try.prog 46 #[.string ⟨#[0, 12, 13]⟩, .int .i32 65533] w fun e w' => e = .returned (.int .i64 (-1)) ∧ Below w.heap.size w w' := by
  go_enter Try.func46, Try.ntmps46
  go_wp2
  go_loopg [5, 6] 3 (fun g _ _ wx => ∃ i : Nat, i + g = 3 ∧ wx = w.iter ⟨#[0, 12, 13]⟩ i)
  case atStart => exact ⟨0, by omega, rfl⟩
  case round =>
    obtain ⟨i, hig, rfl⟩ := hrel
    cases gk with
    | zero =>
      obtain rfl : i = 3 := by omega
      have hnx := run_next_end (P := Try.prog) w ⟨#[0, 12, 13]⟩ 3
      go_wp2
      go_ret
      exact ⟨rfl, (Below.refl _ _).alloc (Nat.le_refl _) _⟩
    | succ g =>
      have hnx := fun ty => run_next_any (P := Try.prog) w ⟨#[0, 12, 13]⟩ i ty (by show i < 3; omega)
      have hne : (((Utf8.decode ⟨#[0, 12, 13]⟩ i).1 : Int) == 65533) = false := by
        have : i = 0 ∨ i = 1 ∨ i = 2 := by omega
        rcases this with rfl | rfl | rfl <;> decide
      have hw1 : (Utf8.decode ⟨#[0, 12, 13]⟩ i).2 = 1 := by
        have : i = 0 ∨ i = 1 ∨ i = 2 := by omega
        rcases this with rfl | rfl | rfl <;> decide
      rw [hw1] at hnx
      go_wp2
      go_roundg g
      case measure => omega
      case rel => exact ⟨i + 1, by omega, rfl⟩
theorem u8n (n : Nat) (h : n < 256) : (UInt8.ofNat n).toNat = n := by simp [Nat.mod_eq_of_lt h]
theorem ir_all (c : Nat) (w : World) (h0 : 128 ≤ c) (hv : Utf8.valid (c : Int) = true) : Calls Try.prog 46 #[.string ⟨#[0, 12, 13]⟩, .int .i32 (c : Int)] w fun e w' => e = .returned (.int .i64 (-1)) ∧ Below w.heap.size w w' := by
  by_cases he : c = 65533
  · subst he; exact ir_err w
  have hne : (c : Int) ≠ 65533 := by omega
  have hv2 : Lib.validRune (c : Int) = true := by
    simp only [Utf8.valid, Bool.or_eq_true, Bool.and_eq_true, decide_eq_true_eq] at hv
    simp only [Lib.validRune, decide_eq_true_eq]
    omega
  have hcv : ∀ w, (convert 21 9 (.int .i32 (c : Int))).run Try.prog w = .ok (.string (Utf8.encode (c : Int))) w := fun w => run_convert_int_string w 21 9 .i32 (c : Int) (by kernel_rfl) (by kernel_rfl)
  have hc : (if Utf8.valid (c : Int) then (c : Int).toNat else Utf8.runeError) = c := by rw [if_pos hv]; rfl
  have hm : c ≤ 1114111 := by
    simp only [Utf8.valid, Bool.or_eq_true, Bool.and_eq_true, decide_eq_true_eq] at hv
    omega
  have h80 : ¬ c < 0x80 := by omega
  have h0' : (128 : Int) ≤ (c : Int) := by omega
  by_cases h8 : c < 0x800
  · have e : Utf8.encode (c : Int) = ⟨#[UInt8.ofNat (0xC0 + c / 64), UInt8.ofNat (0x80 + c % 64)]⟩ := by
      simp only [Utf8.encode, hc, if_neg h80, if_pos h8]
    rw [e] at hcv
    exact ir2 _ _ _ w h0' hne hv2 hcv (by rw [u8n _ (by omega)]; omega)
  by_cases h10 : c < 0x10000
  · have e : Utf8.encode (c : Int) = ⟨#[UInt8.ofNat (0xE0 + c / 4096), UInt8.ofNat (0x80 + c / 64 % 64), UInt8.ofNat (0x80 + c % 64)]⟩ := by
      simp only [Utf8.encode, hc, if_neg h80, if_neg h8, if_pos h10]
    rw [e] at hcv
    exact ir3 _ _ _ _ w h0' hne hv2 hcv (by rw [u8n _ (by omega)]; omega)
  · have e : Utf8.encode (c : Int) = ⟨#[UInt8.ofNat (0xF0 + c / 262144), UInt8.ofNat (0x80 + c / 4096 % 64), UInt8.ofNat (0x80 + c / 64 % 64), UInt8.ofNat (0x80 + c % 64)]⟩ := by
      simp only [Utf8.encode, hc, if_neg h80, if_neg h8, if_neg h10]
    rw [e] at hcv
    exact ir4 _ _ _ _ _ w h0' hne hv2 hcv (by rw [u8n _ (by omega)]; omega)
theorem get_some (s : ByteArray) (i : Nat) (hi : i < s.size) : s.data.toList[i]? = some (s.get! i) := by
  rw [Lib.data_getElem? s i hi]
  congr 1
  simp [ByteArray.get!, ByteArray.getElem_eq_getElem_data, hi]
theorem decode_big (s : ByteArray) (i : Nat) (hi : i < s.size) (h : 128 ≤ (s.get! i).toNat) :
    1 ≤ (Utf8.decode s i).2 ∧ i + (Utf8.decode s i).2 ≤ s.size ∧ (∀ k, k < (Utf8.decode s i).2 → 128 ≤ (s.get! (i + k)).toNat) ∧ 128 ≤ (Utf8.decode s i).1 ∧ Utf8.valid ((Utf8.decode s i).1 : Int) = true := by
  have hb : ∀ k, (s.get! (i + k)).toNat < 256 := fun k => (s.get! (i + k)).toNat_lt
  have e0 : ∀ k, k < 1 → 128 ≤ (s.get! (i + k)).toNat := fun k hk => by
    obtain rfl : k = 0 := by omega
    exact h
  have ve : Utf8.valid (Utf8.runeError : Int) = true := by decide
  have r1 : (1 ≤ 1 ∧ i + 1 ≤ s.size ∧ (∀ k, k < 1 → 128 ≤ (s.get! (i + k)).toNat) ∧ 128 ≤ Utf8.runeError ∧ Utf8.valid (Utf8.runeError : Int) = true) := ⟨Nat.le_refl _, hi, e0, by decide, ve⟩
  have hn : ¬ (s.get! (i + 0)).toNat < 0x80 := by have := h; simp only [Nat.add_zero]; omega
  simp only [Utf8.decode]
  rw [if_neg hn]
  split
  · rename_i h1
    simp only [Bool.and_eq_true, beq_iff_eq, decide_eq_true_eq] at h1
    split
    · rename_i h2
      refine ⟨by show 1 ≤ 2; omega, by omega, fun k hk => ?_, h2, ?_⟩
      · have : k = 0 ∨ k = 1 := by omega
        rcases this with rfl | rfl
        · exact h
        · have := h1.2.2; omega
      · have := hb 1
        simp only [Utf8.valid, Bool.or_eq_true, Bool.and_eq_true, decide_eq_true_eq]
        left; omega
    · exact r1
  · split
    · rename_i h1
      simp only [Bool.and_eq_true, beq_iff_eq, decide_eq_true_eq] at h1
      split
      · rename_i h2
        simp only [Bool.and_eq_true, decide_eq_true_eq] at h2
        refine ⟨by show 1 ≤ 3; omega, by omega, fun k hk => ?_, by omega, h2.2⟩
        have : k = 0 ∨ k = 1 ∨ k = 2 := by omega
        rcases this with rfl | rfl | rfl
        · exact h
        · have := h1.1.2.2; omega
        · have := h1.2.2; omega
      · exact r1
    · split
      · rename_i h1
        simp only [Bool.and_eq_true, beq_iff_eq, decide_eq_true_eq] at h1
        split
        · rename_i h2
          simp only [Bool.and_eq_true, decide_eq_true_eq] at h2
          refine ⟨by show 1 ≤ 4; omega, by omega, fun k hk => ?_, by omega, h2.2⟩
          have : k = 0 ∨ k = 1 ∨ k = 2 ∨ k = 3 := by omega
          rcases this with rfl | rfl | rfl | rfl
          · exact h
          · have := h1.1.1.2.2; omega
          · have := h1.1.2.2; omega
          · have := h1.2.2; omega
        · exact r1
      · exact r1
theorem chs_small (x : UInt8) (h : 128 ≤ x.toNat) : ([0, 12, 13] : List UInt8).contains x = false := by
  cases hc : ([0, 12, 13] : List UInt8).contains x with
  | false => rfl
  | true =>
    simp only [List.contains_eq_mem, List.mem_cons, List.not_mem_nil, or_false, decide_eq_true_eq] at hc
    rcases hc with rfl | rfl | rfl <;> simp at h
theorem noany_add {s : ByteArray} {i : Nat} : ∀ n, Lib.NoAny s.data.toList [0, 12, 13] i → i + n ≤ s.size → (∀ k, k < n → 128 ≤ (s.get! (i + k)).toNat) → Lib.NoAny s.data.toList [0, 12, 13] (i + n)
  | 0, h, _, _ => h
  | n + 1, h, hl, hb => (noany_add n h (by omega) fun k hk => hb k (by omega)).succ (get_some s (i + n) (by omega)) (chs_small _ (hb n (by omega)))
def irV (c : Nat) : Int := if c < 128 then Lib.indexByte [0, 12, 13] (UInt8.ofNat c) else -1
theorem ir_any (c : Nat) (w : World) (h : c < 128 ∨ (128 ≤ c ∧ Utf8.valid (c : Int) = true)) : Calls Try.prog 46 #[.string ⟨#[0, 12, 13]⟩, .int .i32 (c : Int)] w fun e w' => e = .returned (.int .i64 (irV c)) ∧ Below w.heap.size w w' := by
  rcases h with h | ⟨h, hv⟩
  · refine (Try.strings_IndexRune_ascii _ (c : Int) w (by omega) (by omega)).mono ?_
    rintro e w' ⟨rfl, rfl⟩
    rw [irV, if_pos h]
    exact ⟨rfl, Below.refl _ _⟩
  · rw [irV, if_neg (by omega)]
    exact ir_all c w h hv
theorem iterAt_below (w wx : World) (s : ByteArray) (p : Nat) (h : Below w.heap.size w wx) : Below w.heap.size w (wx.iterAt w.heap.size s p) :=
  ⟨h.os, h.tape, h.output, by simpa [World.iterAt] using h.size, fun k hk => by
    rw [← h.block k hk]
    simp only [World.iterAt]
    rw [Array.getElem?_setIfInBounds_ne (by omega)]⟩
structure IaRel (w : World) (s : ByteArray) (i : Nat) (wx : World) : Prop where
  it : wx.heap[w.heap.size]? = some (.stringIter s i)
  be : Below w.heap.size w wx
  no : Lib.NoAny s.data.toList [0, 12, 13] i
theorem ia_short (s : ByteArray) (w : World) (h8 : s.size ≤ 8) :
    Calls Try.prog 41 #[.string s, .string ⟨#[0, 12, 13]⟩] w fun e w' => e = .returned (.int .i64 (Lib.indexAny s.data.toList [0, 12, 13])) ∧ Below w.heap.size w w' := by
  have h8z : decide ((8 : Int) < (s.size : Int)) = false := decide_eq_false (by omega)
  go_enter Try.func41, Try.ntmps41
  go_wp2_with (first | (go_at_call 47; go_in) | (go_at_call 46; skip))
  go_loopg [9, 10] s.size (fun g _ _ wx => ∃ i : Nat, i + g = s.size ∧ IaRel w s i wx)
  case atStart => exact ⟨0, by omega, World.iter_heap _ _ _, (Below.refl _ _).alloc (Nat.le_refl _) _, Lib.NoAny.zero _ _⟩
  case round =>
    obtain ⟨i, hig, hr⟩ := hrel
    have hit := hr.it
    have HR : Aside (IaRel w s i wr) := hr
    clear hr
    cases gk with
    | zero =>
      obtain rfl : i = s.size := by omega
      have hnx := fun ty => Lib.run_next_end_at (P := Try.prog) wr w.heap.size s s.size ty hit (by omega)
      go_wp2
      go_ret
      exact ⟨by rw [Lib.indexAny_none (by rw [← Lib.size_eq]; exact HR.out.no)]; rfl, HR.out.be⟩
    | succ g =>
      have hi : i < s.size := by omega
      have hnx := fun ty => Lib.run_next_any_at (P := Try.prog) wr w.heap.size s i ty hit hi
      have hit2 := Lib.iterAt_heap wr w.heap.size s i (i + (Utf8.decode s i).2) hit
      have hb2 := iterAt_below w wr s (i + (Utf8.decode s i).2) HR.out.be
      obtain ⟨d, hd⟩ : ∃ d, d = Utf8.decode s i := ⟨_, rfl⟩
      obtain ⟨c, hc⟩ : ∃ c, c = d.1 := ⟨_, rfl⟩
      obtain ⟨wd, hwd⟩ : ∃ x, x = d.2 := ⟨_, rfl⟩
      obtain ⟨wy, hwy⟩ : ∃ x, x = wr.iterAt w.heap.size s (i + wd) := ⟨_, rfl⟩
      rw [← hd, ← hwd] at hit2 hb2
      rw [← hwy] at hit2 hb2
      simp only [← hd, ← hc, ← hwd, ← hwy] at hnx
      have F : Aside ((c < 128 ∧ wd = 1 ∧ s.data.toList[i]? = some (UInt8.ofNat c)) ∨ (128 ≤ c ∧ Utf8.valid (c : Int) = true ∧ 1 ≤ wd ∧ i + wd ≤ s.size ∧ ∀ k, k < wd → 128 ≤ (s.get! (i + k)).toNat)) := by
        rw [hc, hwd, hd]
        by_cases ha : (s.get! i).toNat < 128
        · left
          have hg : (s[i]'hi) = s.get! i := by simp [ByteArray.get!, ByteArray.getElem_eq_getElem_data, hi]
          have := decode_ascii s i hi (by rw [hg]; exact ha)
          rw [this, hg]
          exact ⟨ha, rfl, by rw [get_some s i hi]; simp⟩
        · right
          have := decode_big s i hi (by omega)
          exact ⟨this.2.2.2.1, this.2.2.2.2, this.1, this.2.1, this.2.2.1⟩
      have hcall := ir_any c wy (by rcases F.out with h | h; exact .inl h.1; exact .inr ⟨h.1, h.2.1⟩)
      have HB : Aside (Below w.heap.size w wy) := hb2
      have HI : Aside (wy.heap[w.heap.size]? = some (.stringIter s (i + wd))) := hit2
      clear hd hc hwd hb2 hit2 hwy hit
      have fin : ∀ w2, Below wy.heap.size wy w2 → (irV c < 0 → IaRel w s (i + wd) w2) ∧ Below w.heap.size w w2 ∧ (0 ≤ irV c → Lib.indexAny s.data.toList [0, 12, 13] = i) := fun w2 hb => by
        have hlt : w.heap.size < wy.heap.size := by
          rcases Nat.lt_or_ge w.heap.size wy.heap.size with h | h
          · exact h
          · have := HI.out; rw [Array.getElem?_eq_none h] at this; cases this
        have hbe : Below w.heap.size w w2 := ⟨hb.os.trans HB.out.os, hb.tape.trans HB.out.tape, hb.output.trans HB.out.output, Nat.le_trans HB.out.size hb.size, fun k hk => (hb.block k (by omega)).trans (HB.out.block k hk)⟩
        refine ⟨fun hneg => ⟨(hb.block _ hlt).trans HI.out, hbe, ?_⟩, hbe, fun hpos => ?_⟩
        · rcases F.out with ⟨h1, h2, h3⟩ | ⟨h1, h2, h3, h4, h5⟩
          · subst h2
            refine HR.out.no.succ h3 ?_
            rw [irV, if_pos h1] at hneg
            rw [Lib.contains_iff_indexByte]
            exact decide_eq_false (by omega)
          · exact noany_add wd HR.out.no h4 h5
        · rcases F.out with ⟨h1, h2, h3⟩ | ⟨h1, _⟩
          · rw [irV, if_pos h1] at hpos
            exact Lib.indexAny_hit HR.out.no h3 (by rw [Lib.contains_iff_indexByte]; exact decide_eq_true hpos)
          · rw [irV, if_neg (by omega)] at hpos; omega
      have hwl : 1 ≤ wd ∧ i + wd ≤ s.size := by
        rcases F.out with ⟨_, h2, _⟩ | ⟨_, _, h3, h4, _⟩ <;> omega
      by_cases hneg : irV c < 0
      · have hge : decide ((0 : Int) ≤ irV c) = false := decide_eq_false (by omega)
        go_wp2_with (go_at_call 46; refine hcall.mono ?_; rintro e w2 ⟨rfl, hb⟩; have hf := fin w2 hb; clear hb)
        go_roundg (s.size - (i + wd))
        case measure => omega
        case rel => exact ⟨i + wd, by omega, hf.1 hneg⟩
      · have hge : decide ((0 : Int) ≤ irV c) = true := decide_eq_true (by omega)
        go_wp2_with (go_at_call 46; refine hcall.mono ?_; rintro e w2 ⟨rfl, hb⟩; have hf := fin w2 hb; clear hb)
        go_ret
        exact ⟨by rw [hf.2.2 (by omega)]; rfl, hf.2.1⟩
/-- strings.ContainsAny at the bytes that cleaning takes away. -/
theorem ca_all (s : ByteArray) (w : World) (hs : s.size < 4294967281) :
    Calls Try.prog 32 #[.string s, .string ⟨#[0, 12, 13]⟩] w fun e w' => e = .returned (.bool (Lib.containsAny s.data.toList [0, 12, 13])) ∧ Below w.heap.size w w' := by
  have hia : Calls Try.prog 41 #[.string s, .string ⟨#[0, 12, 13]⟩] w fun e w' => e = .returned (.int .i64 (Lib.indexAny s.data.toList [0, 12, 13])) ∧ Below w.heap.size w w' := by
    by_cases h8 : s.size ≤ 8
    · exact ia_short s w h8
    · refine (Try.strings_IndexAny_long (by intro w; kernel_rfl) s ⟨#[0, 12, 13]⟩ w (by decide) (by omega) hs (by decide) ?_).mono ?_
      · intro j b hj
        match j with
        | 0 => cases hj; decide
        | 1 => cases hj; decide
        | 2 => cases hj; decide
        | j + 3 => simp at hj
      · rintro e w' ⟨rfl, rfl⟩
        exact ⟨rfl, ((Below.refl _ _).alloc (Nat.le_refl _) _).alloc (by simp) _⟩
  go_enter Try.func32, Try.ntmps32
  go_wp2_with (go_at_call 41; refine hia.mono ?_; rintro e w2 ⟨rfl, hb⟩)
  go_ret
  exact ⟨rfl, hb⟩
theorem ca_at (x0 x1 : List UInt8) (h : x1 = [0, 12, 13] ∧ x0.length < 4294967281) (w : World) :
    Calls Try.prog 32 ⟨[.string ⟨⟨x0⟩⟩, .string ⟨⟨x1⟩⟩]⟩ w fun e w' => e = .returned (.bool (Lib.containsAny x0 x1)) ∧ Below w.heap.size w w' := by
  obtain ⟨rfl, h2⟩ := h
  exact ca_all ⟨⟨x0⟩⟩ w h2
end Go.Proofs.Ytihckkbhieblkaa
