/- GeomCosts: the two answers are one, over plain numbers and lists, for every argument; no conditions. -/
import Derived.Test.YtdececbckohhgaaPGeomCostsx1
set_option linter.unusedVariables false
set_option linter.unusedSimpArgs false
namespace Go.Proofs.Ytdececbckohhgaa.Pure
open Go.RowKit Go.Proofs.Ytdececbckohhgaa Go.Proofs.Ytdececbckohhgaa.PGeomCosts Go.Proofs.YtdececbckohhgaaW.PrintWords Go.Proofs.YtdececbckohhgaaW.PrintLast Go.Proofs.YtdececbckohhgaaW.PrintMore

theorem shape_is (d p : Int) : geom_shape_may.f d p = some (decide (2 ≤ d ∧ d ≤ 8 ∧ 1 ≤ p ∧ p ≤ 3 ∧ p < d)) := by
  unfold geom_shape_may.f
  repeat' split
  all_goals (congr 1; first | (rw [decide_eq_decide]; omega) | (symm; rw [decide_eq_false_iff_not]; omega))
theorem bad_is (d p : Int) : quicksetref_badShape.f d p = some (!decide (2 ≤ d ∧ d ≤ 8 ∧ 1 ≤ p ∧ p ≤ 3 ∧ p < d)) := by
  unfold quicksetref_badShape.f
  repeat' split
  all_goals (congr 1; rw [← decide_not]; first | (rw [decide_eq_decide]; omega) | (symm; rw [decide_eq_true_eq]; omega))
theorem counted_is (c : Int) : geom_counted.f c = some (decide (1 ≤ c ∧ c ≤ 32)) := by
  unfold geom_counted.f
  repeat' split
  all_goals (congr 1; first | (rw [decide_eq_decide]; omega) | (symm; rw [decide_eq_false_iff_not]; omega))
def allB (p : Nat → Bool) : Nat → Bool
  | 0 => true
  | n + 1 => p n && allB p n
theorem allB_at {p : Nat → Bool} : ∀ {n : Nat}, allB p n = true → ∀ i, i < n → p i = true
  | 0, _, i, hi => absurd hi (Nat.not_lt_zero i)
  | n + 1, h, i, hi => by
    simp only [allB, Bool.and_eq_true] at h
    rcases Nat.lt_or_ge i n with hl | hl
    · exact allB_at h.2 i hl
    · have : i = n := by omega
      subst this; exact h.1
def fits (d p c : Nat) : Bool := Nat.blt d 2 || Nat.blt p 1 || Nat.ble d p || Nat.blt c 1 || (quicksetlaw_GeomCosts.f 60 (d : Int) (p : Int) (c : Int) == some true)
theorem all_fit : allB (fun d => allB (fun p => allB (fun c => fits d p c) 33) 4) 9 = true := by decide +kernel
theorem GeomCosts : quicksetlaw_GeomCosts.Pure := by
  intro d p c wd wp wc
  refine ⟨60, ?_⟩
  by_cases hs : 2 ≤ d ∧ d ≤ 8 ∧ 1 ≤ p ∧ p ≤ 3 ∧ p < d
  · by_cases hc : 1 ≤ c ∧ c ≤ 32
    · obtain ⟨d, rfl⟩ := Int.eq_ofNat_of_zero_le (show 0 ≤ d by omega)
      obtain ⟨p, rfl⟩ := Int.eq_ofNat_of_zero_le (show 0 ≤ p by omega)
      obtain ⟨c, rfl⟩ := Int.eq_ofNat_of_zero_le (show 0 ≤ c by omega)
      have h := allB_at (allB_at (allB_at all_fit d (by omega)) p (by omega)) c (by omega)
      simp only [fits, Bool.or_eq_true, Nat.blt_eq, Nat.ble_eq, beq_iff_eq] at h
      rcases h with (((h | h) | h) | h) | h
      · omega
      · omega
      · omega
      · omega
      · exact h
    · unfold quicksetlaw_GeomCosts.f geom_Cost.f quicksetref_GeomCost.f
      rw [shape_is, bad_is, counted_is, decide_eq_true hs, decide_eq_false hc]
      by_cases h1 : c < 1
      · simp only [Option.bind_some, if_true, Bool.not_true, Bool.not_false, Bool.false_eq_true, if_false, geom_Cost.j0, quicksetref_GeomCost.j0, if_pos h1]; rfl
      · simp only [Option.bind_some, if_true, Bool.not_true, Bool.not_false, Bool.false_eq_true, if_false, geom_Cost.j0, quicksetref_GeomCost.j0, if_neg h1, decide_eq_true (show c > 32 by omega)]; rfl
  · unfold quicksetlaw_GeomCosts.f geom_Cost.f quicksetref_GeomCost.f
    rw [shape_is, bad_is, decide_eq_false hs]
    simp only [Option.bind_some, if_true, Bool.not_true, Bool.not_false, Bool.false_eq_true, if_false, geom_Cost.j0, quicksetref_GeomCost.j0]
    rfl

end Go.Proofs.Ytdececbckohhgaa.Pure
