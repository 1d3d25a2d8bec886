/- GeomSpots: the two answers are one, over plain numbers and lists, for every argument; no conditions. -/
import Derived.Test.YtdececbckohhgaaPGeomSpotsx1
set_option linter.unusedVariables false
set_option linter.unusedSimpArgs false
namespace Go.Proofs.Ytdececbckohhgaa.Pure
open Go.RowKit Go.Proofs.Ytdececbckohhgaa Go.Proofs.Ytdececbckohhgaa.PGeomSpots Go.Proofs.YtdececbckohhgaaW.PrintWords Go.Proofs.YtdececbckohhgaaW.PrintLast Go.Proofs.YtdececbckohhgaaW.PrintMore

theorem wf64 {a : Int} (h : (Lit.int .i64 a).wf = true) : -9223372036854775808 ≤ a ∧ a ≤ 9223372036854775807 := by
  simp only [Lit.wf, IntKind.min, IntKind.max, IntKind.signed, IntKind.bits, Bool.and_eq_true, decide_eq_true_eq, if_true] at h
  omega
theorem wrap_id {n : Int} (h0 : -9223372036854775808 ≤ n) (h1 : n ≤ 9223372036854775807) : wrap64 n = n := by unfold wrap64; omega
theorem GeomSpots : quicksetlaw_GeomSpots.Pure := by
  intro d a wd wa
  unfold quicksetlaw_GeomSpots.f geom_Spot.f quicksetref_GeomSpot.f geom_addressed.f
  by_cases h1 : d < 2
  · rw [if_pos h1, if_pos h1]; rfl
  rw [if_neg h1, if_neg h1]
  by_cases h2 : d > 8
  · rw [if_pos h2, if_pos h2]; rfl
  rw [if_neg h2, if_neg h2]
  by_cases h3 : a < 0
  · rw [if_neg (show ¬ a ≥ 0 by omega), if_pos h3]; rfl
  rw [if_pos (show a ≥ 0 by omega), if_neg h3]
  by_cases h4 : a > 65536
  · rw [if_pos h4, decide_eq_false (by omega)]; rfl
  rw [if_neg h4, decide_eq_true (show a ≤ 65536 by omega)]
  simp only [Option.bind_some, if_true]
  have hd : d ≠ 0 := by omega
  rw [if_neg hd, if_neg hd]
  simp only [Option.bind_some]
  have e1 : Int.tmod a d = a % d := Int.tmod_eq_emod_of_nonneg (by omega)
  have e2 : Int.tdiv a d = a / d := Int.tdiv_eq_ediv_of_nonneg (by omega)
  have q0 : 0 ≤ a / d := Int.ediv_nonneg (by omega) (by omega)
  have q1 : a / d ≤ a := Int.ediv_le_self d (by omega)
  have q2 : a / d * d + a % d = a := by rw [Int.mul_comm]; exact Int.mul_ediv_add_emod a d
  have q3 : 0 ≤ a % d := Int.emod_nonneg a hd
  have q4 : 0 ≤ a / d * d := Int.mul_nonneg q0 (by omega)
  rw [e1, e2, wrap_id (n := a / d) (by omega) (by omega), wrap_id (n := a / d * d) (by omega) (by omega), show a - a / d * d = a % d from by omega, wrap_id (n := a % d) (by omega) (by omega)]
  simp

end Go.Proofs.Ytdececbckohhgaa.Pure
