/- ParMays: the two answers are one, over plain numbers and lists, for every argument; no conditions. -/
import Derived.Test.YtgibkbiofdmiaaaQParMaysx1
set_option linter.unusedVariables false
set_option linter.unusedSimpArgs false
namespace Go.Proofs.Ytgibkbiofdmiaaa.Pure
open Go.RowKit Go.Proofs.Ytgibkbiofdmiaaa Go.Proofs.Ytgibkbiofdmiaaa.QParMays Go.Proofs.YtgibkbiofdmiaaaW.PrintWords Go.Proofs.YtgibkbiofdmiaaaW.PrintLast Go.Proofs.YtgibkbiofdmiaaaW.PrintMore

theorem bsome {α β : Type} (x : α) (f : α → Option β) : (some x).bind f = f x := by
  have h : ∀ o, o = some x → o.bind f = f x := by
    intro o ho
    subst ho
    rfl
  exact h _ rfl
theorem wf64 {a : Int} (h : (Lit.int .i64 a).wf = true) : -9223372036854775808 ≤ a ∧ a ≤ 9223372036854775807 := by
  simp only [Lit.wf, IntKind.min, IntKind.max, IntKind.signed, IntKind.bits, Bool.and_eq_true, decide_eq_true_eq, if_true] at h
  omega
theorem wrap_id {n : Int} (h0 : -9223372036854775808 ≤ n) (h1 : n ≤ 9223372036854775807) : wrap64 n = n := by unfold wrap64; omega
theorem wrap01 : wrap64 (0 + 1) = 1 := wrap_id (n := 0 + 1) (by decide) (by decide)

/-! Lists that are read at whole numbers -/
theorem rd_cons (l : List Int) (i : Nat) (h : i < l.length) : l.drop i = rd l (i : Int) :: l.drop (i + 1) := by
  rw [List.drop_eq_getElem_cons h]
  congr 1
  show _ = l.getD ((i : Nat) : Int).toNat 0
  rw [Int.toNat_natCast, List.getD_eq_getElem?_getD, List.getElem?_eq_getElem h]
  rfl
theorem L1_cons (l : List (List Int)) (i : Nat) (h : i < l.length) : l.drop i = rd_L1 l (i : Int) :: l.drop (i + 1) := by
  rw [List.drop_eq_getElem_cons h]
  congr 1
  show _ = l.getD ((i : Nat) : Int).toNat []
  rw [Int.toNat_natCast, List.getD_eq_getElem?_getD, List.getElem?_eq_getElem h]
  rfl
theorem wrap_suc (i : Nat) (h : i < 9000000000000000000) : wrap64 ((i : Int) + 1) = ((i + 1 : Nat) : Int) := by rw [wrap_id (by omega) (by omega)]; omega
theorem L1_mem {l : List (List Int)} (i : Nat) (h : i < l.length) : rd_L1 l (i : Int) ∈ l := by
  have := L1_cons l i h
  have h2 : rd_L1 l (i : Int) ∈ l.drop i := by rw [this]; exact List.mem_cons_self
  exact List.mem_of_mem_drop h2

def evenOne (n : Nat) (b : List Int) : Bool := decide (b.length = n) && decide (b.length ≤ 4096)
def evenB (l : List (List Int)) : Bool := l.all (evenOne (rd_L1 l 0).length)
theorem even_loop (l : List (List Int)) (hl : l.length < 1000000000000000) : ∀ d i, i + d = l.length → ∃ k, par_even.l0 k l l (l.length : Int) (i : Int) = some ((l.drop i).all (evenOne (rd_L1 l 0).length))
  | 0, i, hi => ⟨1, by simp only [par_even.l0]; rw [if_neg (by omega), List.drop_eq_nil_of_le (by omega)]; rfl⟩
  | d + 1, i, hi => by
    obtain ⟨k, hk⟩ := even_loop l hl d (i + 1) (by omega)
    refine ⟨k + 1, ?_⟩
    simp only [par_even.l0]
    rw [if_pos (by omega), if_pos (by omega), if_pos (by omega), if_pos (by omega), wrap_suc i (by omega), hk, L1_cons l i (by omega), List.all_cons]
    by_cases h0 : ((rd_L1 l i).length : Int) = ((rd_L1 l 0).length : Int)
    · rw [if_pos h0]
      by_cases h2 : ((rd_L1 l i).length : Int) > 4096
      · rw [if_pos h2]; simp [evenOne, show ¬ (rd_L1 l i).length ≤ 4096 from by omega]
      · rw [if_neg h2]
        simp [evenOne, show (rd_L1 l i).length = (rd_L1 l 0).length from by omega, show (rd_L1 l 0).length ≤ 4096 from by omega]
    · rw [if_neg h0]; simp [evenOne, show ¬ (rd_L1 l i).length = (rd_L1 l 0).length from by omega]
theorem even_is (l : List (List Int)) (hl : l.length < 1000000000000000) : ∃ k, par_even.f k l = some (evenB l) := by
  have := even_loop l hl l.length 0 (by omega)
  simpa [par_even.f, evenB] using this

def pmayB (l : List (List Int)) : Bool := decide (1 ≤ l.length) && decide (l.length ≤ 12) && evenB l
theorem parmay_is (l : List (List Int)) (hl : l.length < 1000000000000000) : ∃ k, par_May.f k l = some (pmayB l) := by
  obtain ⟨k, hk⟩ := even_is l hl
  refine ⟨k, ?_⟩
  unfold par_May.f
  by_cases h0 : (l.length : Int) > 0
  · rw [if_pos h0]
    by_cases h1 : (l.length : Int) ≤ 12
    · rw [if_pos h1, hk, bsome]; simp [pmayB, show 1 ≤ l.length from by omega, show l.length ≤ 12 from by omega]
    · rw [if_neg h1]; simp [pmayB, show ¬ l.length ≤ 12 from by omega]
  · rw [if_neg h0]; simp [pmayB, show ¬ 1 ≤ l.length from by omega]

theorem refpar_loop (l : List (List Int)) (hl : l.length < 1000000000000000) : ∀ d i, i + d = l.length → ∃ k, quicksetref_ParMay.l0 k l l (l.length : Int) (i : Int) = some ((l.drop i).all (evenOne (rd_L1 l 0).length))
  | 0, i, hi => ⟨1, by simp only [quicksetref_ParMay.l0]; rw [if_neg (by omega), List.drop_eq_nil_of_le (by omega)]; rfl⟩
  | d + 1, i, hi => by
    obtain ⟨k, hk⟩ := refpar_loop l hl d (i + 1) (by omega)
    refine ⟨k + 1, ?_⟩
    simp only [quicksetref_ParMay.l0]
    rw [if_pos (by omega), if_pos (by omega), if_pos (by omega), if_pos (by omega), wrap_suc i (by omega), hk, L1_cons l i (by omega), List.all_cons]
    by_cases h0 : ((rd_L1 l i).length : Int) = ((rd_L1 l 0).length : Int)
    · rw [if_pos h0]
      by_cases h2 : ((rd_L1 l i).length : Int) > 4096
      · rw [if_pos h2]; simp [evenOne, show ¬ (rd_L1 l i).length ≤ 4096 from by omega]
      · rw [if_neg h2]
        simp [evenOne, show (rd_L1 l i).length = (rd_L1 l 0).length from by omega, show (rd_L1 l 0).length ≤ 4096 from by omega]
    · rw [if_neg h0]; simp [evenOne, show ¬ (rd_L1 l i).length = (rd_L1 l 0).length from by omega]
theorem refparmay_is (l : List (List Int)) : ∃ k, quicksetref_ParMay.f k l = some (pmayB l) := by
  by_cases h0 : (l.length : Int) < 1
  · refine ⟨1, ?_⟩
    simp only [quicksetref_ParMay.f, quicksetref_ParMay.j0]
    rw [if_pos h0, if_pos trivial]; simp [pmayB, show ¬ 1 ≤ l.length from by omega]
  · by_cases h1 : (l.length : Int) > 12
    · refine ⟨1, ?_⟩
      simp only [quicksetref_ParMay.f, quicksetref_ParMay.j0]
      rw [if_neg h0, if_pos (by simpa using h1)]; simp [pmayB, show ¬ l.length ≤ 12 from by omega]
    · obtain ⟨k, hk⟩ := refpar_loop l (by omega) l.length 0 (by omega)
      refine ⟨k + 1, ?_⟩
      simp only [quicksetref_ParMay.f, quicksetref_ParMay.j0]
      rw [if_neg h0, if_neg (by simpa using h1), show (0 : Int) = ((0 : Nat) : Int) from rfl, hk]
      simp [pmayB, evenB, show 1 ≤ l.length from by omega, show l.length ≤ 12 from by omega]

theorem ParMays (l0 : List (List Int)) (h0 : l0.length * 24 ≤ 140737488351232) (h1 : ∀ x ∈ l0, (x.length * 1 ≤ 140737488351232 ∧ ∀ y ∈ x, (Lit.int .u8 y).wf = true)) : ∃ k, quicksetlaw_ParMays.f k l0 = some true := by
  obtain ⟨k, h1, h2⟩ := together (fun k => par_May.mono l0 k) (fun k => quicksetref_ParMay.mono l0 k) (parmay_is l0 (by omega)) (refparmay_is l0)
  refine ⟨k, ?_⟩
  unfold quicksetlaw_ParMays.f
  rw [h1, h2, bsome, bsome]
  simp

end Go.Proofs.Ytgibkbiofdmiaaa.Pure
