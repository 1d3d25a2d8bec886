/- LabelMays: the two answers are one, over plain numbers and lists, for every argument; no conditions. -/
import Derived.Test.YtgibkbiofdmiaaaPLabelMaysx3
set_option linter.unusedVariables false
set_option linter.unusedSimpArgs false
namespace Go.Proofs.Ytgibkbiofdmiaaa.Pure
open Go.RowKit Go.Proofs.Ytgibkbiofdmiaaa Go.Proofs.Ytgibkbiofdmiaaa.PLabelMays Go.Proofs.YtgibkbiofdmiaaaW.PrintWords Go.Proofs.YtgibkbiofdmiaaaW.PrintLast Go.Proofs.YtgibkbiofdmiaaaW.PrintMore

theorem bsome {α β : Type} (x : α) (f : α → Option β) : (some x).bind f = f x := by
  have h : ∀ o, o = some x → o.bind f = f x := by
    intro o ho
    subst ho
    rfl
  exact h _ rfl
theorem wf64 {a : Int} (h : (Lit.int .i64 a).wf = true) : -9223372036854775808 ≤ a ∧ a ≤ 9223372036854775807 := by
  simp only [Lit.wf, IntKind.min, IntKind.max, IntKind.signed, IntKind.bits, Bool.and_eq_true, decide_eq_true_eq, if_true] at h
  omega
theorem wrap_id {n : Int} (h0 : -9223372036854775808 ≤ n) (h1 : n ≤ 9223372036854775807) : wrap64 n = n := by unfold wrap64; omega
theorem wrap01 : wrap64 (0 + 1) = 1 := wrap_id (n := 0 + 1) (by decide) (by decide)

def mayL (a0 a1 a2 a3 a4 a5 a6 a7 a8 : Int) : Prop := 1 ≤ a0 ∧ a0 ≤ 1048576 ∧ 2 ≤ a2 ∧ a2 ≤ 8 ∧ 0 ≤ a1 ∧ a1 < a2 ∧ 1 ≤ a3 ∧ a3 ≤ 3 ∧ a3 < a2 ∧ 0 ≤ a4 ∧ a4 ≤ 1048576 ∧ 0 ≤ a5 ∧ a5 ≤ 65536 ∧ 0 ≤ a6 ∧ a6 ≤ 32 ∧ 0 ≤ a7 ∧ a7 ≤ 128 * a6 ∧ 0 ≤ a8 ∧ a8 ≤ a4
theorem in_is (a b c : Int) : label_in.f a b c = some (decide (b ≤ a ∧ a ≤ c)) := by
  unfold label_in.f
  repeat' split
  all_goals (congr 1; first | (rw [decide_eq_decide]; omega) | (symm; rw [decide_eq_false_iff_not]; omega))
theorem in_yes {a b c : Int} (h : b ≤ a ∧ a ≤ c) : label_in.f a b c = some true := by rw [in_is, decide_eq_true h]
theorem in_no {a b c : Int} (h : ¬(b ≤ a ∧ a ≤ c)) : label_in.f a b c = some false := by rw [in_is, decide_eq_false h]
theorem prog_yes (a0 a1 a2 a3 a4 a5 a6 a7 a8 a9 a10 a11 a12 : Int) (h : mayL a0 a1 a2 a3 a4 a5 a6 a7 a8) : label_May.f a0 a1 a2 a3 a4 a5 a6 a7 a8 a9 a10 a11 a12 = some true := by
  unfold mayL at h
  unfold label_May.f
  rw [wrap_id (n := a2 - 1) (by omega) (by omega), wrap_id (n := a6 * 128) (by omega) (by omega), in_yes (by omega), in_yes (by omega), in_yes (by omega), in_yes (c := mn 3 (a2 - 1)) (by unfold mn; split <;> omega), in_yes (by omega), in_yes (by omega), in_yes (by omega), in_yes (by omega), in_yes (by omega)]
  simp
theorem prog_no (a0 a1 a2 a3 a4 a5 a6 a7 a8 a9 a10 a11 a12 : Int) (h : ¬ mayL a0 a1 a2 a3 a4 a5 a6 a7 a8) : label_May.f a0 a1 a2 a3 a4 a5 a6 a7 a8 a9 a10 a11 a12 = some false := by
  unfold mayL at h
  unfold label_May.f
  by_cases h0 : 1 ≤ a0 ∧ a0 ≤ 1048576
  case neg => rw [in_no h0, bsome, if_neg (by decide)]
  rw [in_yes h0, bsome, if_pos rfl]
  by_cases h2 : 2 ≤ a2 ∧ a2 ≤ 8
  case neg => rw [in_no h2, bsome, if_neg (by decide)]
  rw [in_yes h2, bsome, if_pos rfl, wrap_id (n := a2 - 1) (by omega) (by omega)]
  by_cases h1 : 0 ≤ a1 ∧ a1 ≤ a2 - 1
  case neg => rw [in_no h1, bsome, if_neg (by decide)]
  rw [in_yes h1, bsome, if_pos rfl]
  by_cases h3 : 1 ≤ a3 ∧ a3 ≤ mn 3 (a2 - 1)
  case neg => rw [in_no h3, bsome, if_neg (by decide)]
  rw [in_yes h3, bsome, if_pos rfl]
  by_cases h4 : 0 ≤ a4 ∧ a4 ≤ 1048576
  case neg => rw [in_no h4, bsome, if_neg (by decide)]
  rw [in_yes h4, bsome, if_pos rfl]
  by_cases h5 : 0 ≤ a5 ∧ a5 ≤ 65536
  case neg => rw [in_no h5, bsome, if_neg (by decide)]
  rw [in_yes h5, bsome, if_pos rfl]
  by_cases h6 : 0 ≤ a6 ∧ a6 ≤ 32
  case neg => rw [in_no h6, bsome, if_neg (by decide)]
  rw [in_yes h6, bsome, if_pos rfl, wrap_id (n := a6 * 128) (by omega) (by omega)]
  by_cases h7 : 0 ≤ a7 ∧ a7 ≤ a6 * 128
  case neg => rw [in_no h7, bsome, if_neg (by decide)]
  rw [in_yes h7, bsome, if_pos rfl]
  have h8 : ¬ (0 ≤ a8 ∧ a8 ≤ a4) := by
    intro h8
    unfold mn at h3
    split at h3 <;> omega
  rw [in_no h8, bsome]
theorem ref_is (k : Nat) (a0 a1 a2 a3 a4 a5 a6 a7 a8 a9 a10 a11 a12 : Int) : ∃ b, quicksetref_LabelMay.f (k + 1) a0 a1 a2 a3 a4 a5 a6 a7 a8 a9 a10 a11 a12 = some b ∧ (b = true ↔ mayL a0 a1 a2 a3 a4 a5 a6 a7 a8) := by
  unfold mayL
  have hw : 0 ≤ a6 → a6 ≤ 32 → wrap64 (128 * a6) = 128 * a6 := fun h0 h1 => wrap_id (by omega) (by omega)
  unfold quicksetref_LabelMay.f
  repeat' split
  all_goals (simp only [quicksetref_LabelMay.j0, if_true])
  all_goals try (exact ⟨false, rfl, by simp; omega⟩)
  by_cases h1 : a1 ≥ a2
  · rw [decide_eq_true h1, if_pos rfl]; exact ⟨false, rfl, by simp; omega⟩
  rw [decide_eq_false h1, if_neg (by decide)]
  by_cases h3 : a3 < 1
  · rw [if_pos h3]; exact ⟨false, rfl, by simp; omega⟩
  rw [if_neg h3]
  by_cases h3 : a3 > 3
  · rw [if_pos h3]; exact ⟨false, rfl, by simp; omega⟩
  rw [if_neg h3]
  by_cases h3 : a3 ≥ a2
  · rw [if_pos h3]; exact ⟨false, rfl, by simp; omega⟩
  rw [if_neg h3]
  by_cases h4 : a4 < 0
  · rw [if_pos h4]; exact ⟨false, rfl, by simp; omega⟩
  rw [if_neg h4]
  by_cases h4 : a4 > 1048576
  · rw [if_pos h4]; exact ⟨false, rfl, by simp; omega⟩
  rw [if_neg h4]
  by_cases h5 : a5 ≥ 0
  case neg => rw [if_neg h5]; exact ⟨false, rfl, by simp; omega⟩
  rw [if_pos h5]
  by_cases h5 : a5 ≤ 65536
  case neg => rw [if_neg h5]; exact ⟨false, rfl, by simp; omega⟩
  rw [if_pos h5]
  by_cases h6 : a6 ≥ 0
  case neg => rw [if_neg h6]; exact ⟨false, rfl, by simp; omega⟩
  rw [if_pos h6]
  by_cases h6' : a6 ≤ 32
  case neg => rw [if_neg h6']; exact ⟨false, rfl, by simp; omega⟩
  rw [if_pos h6', hw h6 h6']
  by_cases h7 : a7 ≥ 0
  case neg => rw [if_neg h7]; exact ⟨false, rfl, by simp; omega⟩
  rw [if_pos h7]
  by_cases h7 : a7 ≤ 128 * a6
  case neg => rw [if_neg h7]; exact ⟨false, rfl, by simp; omega⟩
  rw [if_pos h7]
  by_cases h8 : a8 ≥ 0
  case neg => rw [if_neg h8]; exact ⟨false, rfl, by simp; omega⟩
  rw [if_pos h8]
  exact ⟨_, rfl, by simp; omega⟩
theorem LabelMays (a0 : Int) (_ : (Lit.int .i64 a0).wf = true) (a1 : Int) (_ : (Lit.int .i64 a1).wf = true) (a2 : Int) (_ : (Lit.int .i64 a2).wf = true) (a3 : Int) (_ : (Lit.int .i64 a3).wf = true) (a4 : Int) (_ : (Lit.int .i64 a4).wf = true) (a5 : Int) (_ : (Lit.int .i64 a5).wf = true) (a6 : Int) (_ : (Lit.int .i64 a6).wf = true)
    (a7 : Int) (_ : (Lit.int .i64 a7).wf = true) (a8 : Int) (_ : (Lit.int .i64 a8).wf = true) (a9 : Int) (_ : (Lit.int .i64 a9).wf = true) (a10 : Int) (_ : (Lit.int .i64 a10).wf = true) (a11 : Int) (_ : (Lit.int .i64 a11).wf = true) (a12 : Int) (_ : (Lit.int .i64 a12).wf = true) : ∃ k, quicksetlaw_LabelMays.f k a0 a1 a2 a3 a4 a5 a6 a7 a8 a9 a10 a11 a12 = some true := by
  refine ⟨1, ?_⟩
  obtain ⟨b, hb, hi⟩ := ref_is 0 a0 a1 a2 a3 a4 a5 a6 a7 a8 a9 a10 a11 a12
  unfold quicksetlaw_LabelMays.f
  rw [hb]
  by_cases h : mayL a0 a1 a2 a3 a4 a5 a6 a7 a8
  · rw [prog_yes _ _ _ _ _ _ _ _ _ _ _ _ _ h, bsome, bsome, hi.2 h]; rfl
  · rw [prog_no _ _ _ _ _ _ _ _ _ _ _ _ _ h, bsome, bsome]
    cases b with
    | true => exact absurd (hi.1 rfl) h
    | false => rfl

end Go.Proofs.Ytgibkbiofdmiaaa.Pure
