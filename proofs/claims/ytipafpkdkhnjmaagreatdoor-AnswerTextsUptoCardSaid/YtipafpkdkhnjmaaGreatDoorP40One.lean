/-
  AnswerOne: the model comes to 'true' for every two answers. No program in sight.
-/
import Derived.Test.YtipafpkdkhnjmaaGreatDoorP40Lines
set_option linter.unusedVariables false
set_option maxRecDepth 100000
namespace Go.Proofs.YtipafpkdkhnjmaaGreatDoor
open Go Go.V Go.RowKit
def showB (c : UInt8) : Bool := decide (32 ≤ c.toNat) && decide (c.toNat ≤ 126)
theorem showB_iff {c : UInt8} : showB c = true ↔ 32 ≤ c.toNat ∧ c.toNat ≤ 126 := by simp [showB]
theorem ch_all : ((List.range 256).all fun n => (ch (UInt8.ofNat n)).all showB) = true := by kernel_rfl
theorem ch_show (b : UInt8) : (ch b).all showB = true := by
  have h := nat_all ch_all (show b.toNat < 256 from b.toNat_lt)
  rwa [of_nat] at h
theorem all_fm {α β : Type} {p : β → Bool} (f : α → List β) : ∀ l : List α, (∀ x ∈ l, (f x).all p = true) → (l.flatMap f).all p = true
  | [], _ => rfl
  | x :: l, h => by
    rw [List.flatMap_cons, List.all_append, h x List.mem_cons_self, all_fm f l fun y hy => h y (List.mem_cons_of_mem _ hy)]; rfl
theorem chs_show (s : Str) : (chs s).all showB = true := all_fm ch s fun b _ => ch_show b
theorem qt_show (s : Str) : (qt s).all showB = true := by
  unfold qt
  rw [List.all_cons, List.all_append, chs_show]; rfl
theorem itoa_show {n : Int} (h : In64 n) : (Lib.itoa n).all showB = true := List.all_eq_true.2 fun b hb => by
  rw [showB_iff]
  rcases itoa_bytes h b hb with rfl | h1
  · decide
  · omega
theorem ls_show (l : List Str) (h : ∀ s ∈ l, s.all showB = true) : (ls l).all showB = true := by
  have hj : (jn [44, 32] l).all showB = true := by
    cases l with
    | nil => rfl
    | cons x l =>
      show (x ++ l.flatMap ([44, 32] ++ ·)).all showB = true
      rw [List.all_append, h x List.mem_cons_self, all_fm _ l fun y hy => by rw [List.all_append, h y (List.mem_cons_of_mem _ hy)]; rfl]; rfl
  unfold ls
  rw [List.all_cons, List.all_append, hj]; rfl
theorem shown_show {m : Nat} (a : TAnswer) (h : In m a) : (shown a).all showB = true := by
  have h1 := ls_show (a.Texts.map qt) fun s hs => by obtain ⟨t, _, rfl⟩ := List.mem_map.1 hs; exact qt_show t
  have h2 := ls_show (a.Numbers.map Lib.itoa) fun s hs => by obtain ⟨n, hn, rfl⟩ := List.mem_map.1 hs; exact itoa_show (h.nums n hn)
  unfold shown
  rw [List.all_append, List.all_append, List.all_append, List.all_append, List.all_append, List.all_append, itoa_show h.err, itoa_show h.num, h1, h2]; rfl
theorem shown_len {m : Nat} (a : TAnswer) (h : In m a) (ho : okA a = true) : (shown a).length ≤ 90000 := by
  obtain ⟨_, q2, q3, q4⟩ := okA_iff.1 ho
  have t1 := tot_qt a.Texts
  have t2 := tot_it a.Numbers h.nums
  have l1 := ls_len (a.Texts.map qt)
  have l2 := ls_len (a.Numbers.map Lib.itoa)
  have i1 := itoa_len h.err
  have i2 := itoa_len h.num
  rw [List.length_map] at l1 l2
  unfold shown
  simp only [List.length_append, List.length_cons, List.length_nil]
  omega
theorem shown_inj {a b : TAnswer} (ha : In 91000 a) (hb : In 91000 b) (oa : okA a = true) (h : shown a = shown b) : a = b := by
  have h1 := read_ok 91000 a ha (by have := shown_len a ha oa; omega) (by decide)
  have h2 := read_ok 91000 b hb (by rw [← h]; have := shown_len a ha oa; omega) (by decide)
  rw [h, h2] at h1
  exact (Prod.mk.inj (Option.some.inj h1)).1.symm
theorem pread_shown (a : TAnswer) (ha : In 91000 a) (oa : okA a = true) : answer_ReadLine 91000 (shown a) = some (a, 0) := by
  have hl := shown_len a ha oa
  obtain ⟨x, e, x1, x2⟩ := pread 91000 (by decide) (shown a) (by omega)
  rcases x2 with ⟨rfl, i1, o1, s1⟩ | ⟨rfl, rfl, n1⟩ | ⟨rfl, rfl, l1⟩
  · rw [x1, shown_inj i1 ha o1 s1]
  · exact absurd rfl (n1 a ha oa)
  · omega
end Go.Proofs.YtipafpkdkhnjmaaGreatDoor
