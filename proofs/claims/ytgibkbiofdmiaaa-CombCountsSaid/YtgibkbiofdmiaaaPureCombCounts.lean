/- CombCounts: the two answers are one, over plain numbers and lists, for every argument; no conditions. -/
import Derived.Test.YtgibkbiofdmiaaaPCombCountsx1
set_option linter.unusedVariables false
set_option linter.unusedSimpArgs false
namespace Go.Proofs.Ytgibkbiofdmiaaa.Pure
open Go.RowKit Go.Proofs.Ytgibkbiofdmiaaa Go.Proofs.Ytgibkbiofdmiaaa.PCombCounts Go.Proofs.YtgibkbiofdmiaaaW.PrintWords Go.Proofs.YtgibkbiofdmiaaaW.PrintLast Go.Proofs.YtgibkbiofdmiaaaW.PrintMore

theorem bsome {α β : Type} (x : α) (f : α → Option β) : (some x).bind f = f x := by
  have h : ∀ o, o = some x → o.bind f = f x := by
    intro o ho
    subst ho
    rfl
  exact h _ rfl
theorem wf64 {a : Int} (h : (Lit.int .i64 a).wf = true) : -9223372036854775808 ≤ a ∧ a ≤ 9223372036854775807 := by
  simp only [Lit.wf, IntKind.min, IntKind.max, IntKind.signed, IntKind.bits, Bool.and_eq_true, decide_eq_true_eq, if_true] at h
  omega
theorem wrap_id {n : Int} (h0 : -9223372036854775808 ≤ n) (h1 : n ≤ 9223372036854775807) : wrap64 n = n := by unfold wrap64; omega
theorem wrap01 : wrap64 (0 + 1) = 1 := wrap_id (n := 0 + 1) (by decide) (by decide)

theorem fine_is (n k : Int) : comb_fine.f n k = some (decide (0 ≤ n ∧ n ≤ 12 ∧ 0 ≤ k ∧ k ≤ n)) := by
  unfold comb_fine.f
  repeat' split
  all_goals (congr 1; first | (rw [decide_eq_decide]; omega) | (symm; rw [decide_eq_false_iff_not]; omega))
theorem pickRange_is (n k : Int) : quicksetref_pickRange.f n k = some (!decide (0 ≤ n ∧ n ≤ 12 ∧ 0 ≤ k ∧ k ≤ n)) := by
  unfold quicksetref_pickRange.f
  repeat' split
  all_goals (congr 1; rw [← decide_not]; first | (rw [decide_eq_decide]; omega) | (symm; rw [decide_eq_true_eq]; omega))
def allB (p : Nat → Bool) : Nat → Bool
  | 0 => true
  | n + 1 => p n && allB p n
theorem allB_at {p : Nat → Bool} : ∀ {n : Nat}, allB p n = true → ∀ i, i < n → p i = true
  | 0, _, i, hi => absurd hi (Nat.not_lt_zero i)
  | n + 1, h, i, hi => by
    simp only [allB, Bool.and_eq_true] at h
    rcases Nat.lt_or_ge i n with hl | hl
    · exact allB_at h.2 i hl
    · have : i = n := by omega
      subst this; exact h.1
def fits (n k : Nat) : Bool := Nat.blt n k || (quicksetlaw_CombCounts.f 130 (n : Int) (k : Int) == some true)
theorem all_fit : allB (fun n => allB (fun k => fits n k) 13) 13 = true := by decide +kernel
theorem CombCounts : quicksetlaw_CombCounts.Pure := by
  intro n k wn wk
  by_cases h : 0 ≤ n ∧ n ≤ 12 ∧ 0 ≤ k ∧ k ≤ n
  · obtain ⟨n, rfl⟩ := Int.eq_ofNat_of_zero_le (show 0 ≤ n by omega)
    obtain ⟨k, rfl⟩ := Int.eq_ofNat_of_zero_le (show 0 ≤ k by omega)
    have hf := allB_at (allB_at all_fit n (by omega)) k (by omega)
    simp only [fits, Bool.or_eq_true, Nat.blt_eq, beq_iff_eq] at hf
    rcases hf with hf | hf
    · omega
    · exact ⟨130, hf⟩
  · refine ⟨1, ?_⟩
    unfold quicksetlaw_CombCounts.f comb_Count.f quicksetref_CombCount.f
    rw [fine_is, pickRange_is, decide_eq_false h]
    simp

end Go.Proofs.Ytgibkbiofdmiaaa.Pure
