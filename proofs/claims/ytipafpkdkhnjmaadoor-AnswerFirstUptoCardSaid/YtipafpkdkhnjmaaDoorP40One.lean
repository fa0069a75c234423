/-
  AnswerOne: the model comes to 'true' for every two answers. No program in sight.
-/
import Derived.Test.YtipafpkdkhnjmaaDoorP40Lines
set_option linter.unusedVariables false
set_option maxRecDepth 100000
namespace Go.Proofs.YtipafpkdkhnjmaaDoor
open Go Go.V Go.RowKit
def showB (c : UInt8) : Bool := decide (32 ≤ c.toNat) && decide (c.toNat ≤ 126)
theorem showB_iff {c : UInt8} : showB c = true ↔ 32 ≤ c.toNat ∧ c.toNat ≤ 126 := by simp [showB]
theorem ch_all : ((List.range 256).all fun n => (ch (UInt8.ofNat n)).all showB) = true := by kernel_rfl
theorem ch_show (b : UInt8) : (ch b).all showB = true := by
  have h := nat_all ch_all (show b.toNat < 256 from b.toNat_lt)
  rwa [of_nat] at h
theorem all_fm {α β : Type} {p : β → Bool} (f : α → List β) : ∀ l : List α, (∀ x ∈ l, (f x).all p = true) → (l.flatMap f).all p = true
  | [], _ => rfl
  | x :: l, h => by
    rw [List.flatMap_cons, List.all_append, h x List.mem_cons_self, all_fm f l fun y hy => h y (List.mem_cons_of_mem _ hy)]; rfl
theorem chs_show (s : Str) : (chs s).all showB = true := all_fm ch s fun b _ => ch_show b
theorem qt_show (s : Str) : (qt s).all showB = true := by
  unfold qt
  rw [List.all_cons, List.all_append, chs_show]; rfl
theorem itoa_show {n : Int} (h : In64 n) : (Lib.itoa n).all showB = true := List.all_eq_true.2 fun b hb => by
  rw [showB_iff]
  rcases itoa_bytes h b hb with rfl | h1
  · decide
  · omega
theorem ls_show (l : List Str) (h : ∀ s ∈ l, s.all showB = true) : (ls l).all showB = true := by
  have hj : (jn [44, 32] l).all showB = true := by
    cases l with
    | nil => rfl
    | cons x l =>
      show (x ++ l.flatMap ([44, 32] ++ ·)).all showB = true
      rw [List.all_append, h x List.mem_cons_self, all_fm _ l fun y hy => by rw [List.all_append, h y (List.mem_cons_of_mem _ hy)]; rfl]; rfl
  unfold ls
  rw [List.all_cons, List.all_append, hj]; rfl
theorem shown_show {m : Nat} (a : TAnswer) (h : In m a) : (shown a).all showB = true := by
  have h1 := ls_show (a.Texts.map qt) fun s hs => by obtain ⟨t, _, rfl⟩ := List.mem_map.1 hs; exact qt_show t
  have h2 := ls_show (a.Numbers.map Lib.itoa) fun s hs => by obtain ⟨n, hn, rfl⟩ := List.mem_map.1 hs; exact itoa_show (h.nums n hn)
  unfold shown
  rw [List.all_append, List.all_append, List.all_append, List.all_append, List.all_append, List.all_append, itoa_show h.err, itoa_show h.num, h1, h2]; rfl
theorem shown_len {m : Nat} (a : TAnswer) (h : In m a) (ho : okA a = true) : (shown a).length ≤ 90000 := by
  obtain ⟨_, q2, q3, q4⟩ := okA_iff.1 ho
  have t1 := tot_qt a.Texts
  have t2 := tot_it a.Numbers h.nums
  have l1 := ls_len (a.Texts.map qt)
  have l2 := ls_len (a.Numbers.map Lib.itoa)
  have i1 := itoa_len h.err
  have i2 := itoa_len h.num
  rw [List.length_map] at l1 l2
  unfold shown
  simp only [List.length_append, List.length_cons, List.length_nil]
  omega
theorem one_L1 (m : Nat) (y : Str × Int) (hy : y.1.all showB = true) (hl : y.1.length ≤ 100000) : ∀ (kk i : Nat), y.1.length - i < kk → i ≤ y.1.length → law40_AnswerOne_L1 m y kk (i : Int) = some (.inr ()) := by
  intro kk
  induction kk with
  | zero => intro i h; omega
  | succ kk ih =>
    intro i hk hi
    rw [law40_AnswerOne_L1]
    by_cases hlt : i < y.1.length
    · have hg : bat y.1 (i : Int) = ((y.1[i].toNat : Nat) : Int) := (bat_drop (List.drop_eq_getElem_cons hlt)).2.1
      have hc := showB_iff.1 (List.all_eq_true.1 hy _ (List.getElem_mem hlt))
      rw [lt_dec hlt, cond_true, chk_ix hlt, hg, lt_eq, show decide (((y.1[i].toNat : Nat) : Int) < 32) = false from decide_eq_false (by omega), cond_false, show decide ((126 : Int) < ((y.1[i].toNat : Nat) : Int)) = false from decide_eq_false (by omega), cond_false, w64_ix (by omega), ih (i + 1) (by omega) hlt]
    · rw [ge_dec (by omega), cond_false]
theorem shown_inj {a b : TAnswer} (ha : In 91000 a) (hb : In 91000 b) (oa : okA a = true) (h : shown a = shown b) : a = b := by
  have h1 := read_ok 91000 a ha (by have := shown_len a ha oa; omega) (by decide)
  have h2 := read_ok 91000 b hb (by rw [← h]; have := shown_len a ha oa; omega) (by decide)
  rw [h, h2] at h1
  exact (Prod.mk.inj (Option.some.inj h1)).1.symm
theorem pread_shown (a : TAnswer) (ha : In 91000 a) (oa : okA a = true) : answer_ReadLine 91000 (shown a) = some (a, 0) := by
  have hl := shown_len a ha oa
  obtain ⟨x, e, x1, x2⟩ := pread 91000 (by decide) (shown a) (by omega)
  rcases x2 with ⟨rfl, i1, o1, s1⟩ | ⟨rfl, rfl, n1⟩ | ⟨rfl, rfl, l1⟩
  · rw [x1, shown_inj i1 ha o1 s1]
  · exact absurd rfl (n1 a ha oa)
  · omega
theorem alive_eq : law40_alive 91000 = some true := by kernel_rfl
theorem plain_AnswerOne (a b : TAnswer) (wa : WfA a) (wb : WfA b) (hb : bkA a + bkA b + 0 ≤ 1048576) : law40_AnswerOne 91000 a b = some true := by
  unfold law40_AnswerOne
  obtain ⟨p, p1, p2⟩ := big_eq 91000 (by decide) a (by have := bkA_tot a; omega)
  obtain ⟨q, q1, q2⟩ := big_eq 91000 (by decide) b (by have := bkA_tot b; omega)
  rw [alive_eq, Option.bind_some, p1, Option.bind_some, q1]
  cases p with
  | true => rfl
  | false =>
    cases q with
    | true => rfl
    | false =>
      obtain ⟨c1, c2, c3, c4⟩ := p2 rfl
      obtain ⟨d1, d2, d3, d4⟩ := q2 rfl
      have ia := in_big 91000 (by decide) wa c1 c2 c4
      have ib := in_big 91000 (by decide) wb d1 d2 d4
      rw [cond_false, Option.bind_some, Bool.not_true, cond_false, cond_false, cond_false, line_eq 91000 (by decide) (by decide) a ia, Option.bind_some, line_eq 91000 (by decide) (by decide) b ib, Option.bind_some]
      cases oa : okA a with
      | false => cases okA b <;> rfl
      | true =>
        cases ob : okA b with
        | false => rfl
        | true =>
          have hl := shown_len a ia oa
          have h1 := one_L1 91000 (shown a, 0) (shown_show a ia) (by show (shown a).length ≤ 100000; omega) 91000 0 (by show (shown a).length - 0 < 91000; omega) (by omega)
          obtain ⟨r, r1, r2⟩ := same_eq 91000 a b (by omega) (by omega) (by omega) (by omega)
          obtain ⟨t, t1, t2⟩ := same_eq 91000 a a (by omega) (by omega) (by omega) (by omega)
          have ht : t = true := t2.2 rfl
          subst ht
          have hr : (shown a == shown b) = r := by
            cases r with
            | true => rw [r2.1 rfl]; exact beq_self_eq_true _
            | false => exact beq_eq_false_iff_ne.2 fun h => by have := r2.2 (shown_inj ia ib oa h); cases this
          rw [cond_true, cond_true, show (cond ((shown a, (0 : Int)).2 != 0) true ((shown b, (0 : Int)).2 != 0)) = false from rfl, cond_false, show law40_AnswerOne_L1 91000 (shown a, 0) 91000 0 = _ from h1, Option.bind_some]
          show Option.bind (answer_ReadLine 91000 (shown a)) _ = _
          rw [pread_shown a ia oa, Option.bind_some, r1, cond_true, Option.bind_some, lt_eq, hr]
          show Option.bind (cond (cond (cond true (r == r) false) true false) (r40_Same 91000 a a) (some default)) _ = _
          rw [beq_self_eq_true, cond_true, cond_true, cond_true, t1, Option.bind_some, lt_eq]
          show some (cond true (decide ((ln (shown a)) ≤ 90000)) false) = some true
          rw [cond_true, decide_eq_true (show ln (shown a) ≤ 90000 by unfold ln; omega)]
end Go.Proofs.YtipafpkdkhnjmaaDoor
