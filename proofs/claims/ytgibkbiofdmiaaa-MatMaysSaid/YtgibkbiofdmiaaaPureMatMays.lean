/- MatMays: the two answers are one, over plain numbers and lists, for every argument; no conditions. -/
import Derived.Test.YtgibkbiofdmiaaaQMatMaysx2
set_option linter.unusedVariables false
set_option linter.unusedSimpArgs false
namespace Go.Proofs.Ytgibkbiofdmiaaa.Pure
open Go.RowKit Go.Proofs.Ytgibkbiofdmiaaa Go.Proofs.Ytgibkbiofdmiaaa.QMatMays Go.Proofs.YtgibkbiofdmiaaaW.PrintWords Go.Proofs.YtgibkbiofdmiaaaW.PrintLast Go.Proofs.YtgibkbiofdmiaaaW.PrintMore

theorem bsome {α β : Type} (x : α) (f : α → Option β) : (some x).bind f = f x := by
  have h : ∀ o, o = some x → o.bind f = f x := by
    intro o ho
    subst ho
    rfl
  exact h _ rfl
theorem wf64 {a : Int} (h : (Lit.int .i64 a).wf = true) : -9223372036854775808 ≤ a ∧ a ≤ 9223372036854775807 := by
  simp only [Lit.wf, IntKind.min, IntKind.max, IntKind.signed, IntKind.bits, Bool.and_eq_true, decide_eq_true_eq, if_true] at h
  omega
theorem wrap_id {n : Int} (h0 : -9223372036854775808 ≤ n) (h1 : n ≤ 9223372036854775807) : wrap64 n = n := by unfold wrap64; omega
theorem wrap01 : wrap64 (0 + 1) = 1 := wrap_id (n := 0 + 1) (by decide) (by decide)

/-! Lists that are read at whole numbers -/
theorem rd_cons (l : List Int) (i : Nat) (h : i < l.length) : l.drop i = rd l (i : Int) :: l.drop (i + 1) := by
  rw [List.drop_eq_getElem_cons h]
  congr 1
  show _ = l.getD ((i : Nat) : Int).toNat 0
  rw [Int.toNat_natCast, List.getD_eq_getElem?_getD, List.getElem?_eq_getElem h]
  rfl
theorem L1_cons (l : List (List Int)) (i : Nat) (h : i < l.length) : l.drop i = rd_L1 l (i : Int) :: l.drop (i + 1) := by
  rw [List.drop_eq_getElem_cons h]
  congr 1
  show _ = l.getD ((i : Nat) : Int).toNat []
  rw [Int.toNat_natCast, List.getD_eq_getElem?_getD, List.getElem?_eq_getElem h]
  rfl
theorem wrap_suc (i : Nat) (h : i < 9000000000000000000) : wrap64 ((i : Int) + 1) = ((i + 1 : Nat) : Int) := by rw [wrap_id (by omega) (by omega)]; omega
theorem L1_mem {l : List (List Int)} (i : Nat) (h : i < l.length) : rd_L1 l (i : Int) ∈ l := by
  have := L1_cons l i h
  have h2 : rd_L1 l (i : Int) ∈ l.drop i := by rw [this]; exact List.mem_cons_self
  exact List.mem_of_mem_drop h2

def elB (a : Int) : Bool := decide (0 ≤ a) && decide (a < 256)
def rowB (n : Nat) (r : List Int) : Bool := decide (r.length = n) && decide (1 ≤ r.length) && decide (r.length ≤ 8) && r.all elB
def mayB (m : List (List Int)) : Bool := decide (1 ≤ m.length) && decide (m.length ≤ 8) && m.all (rowB (rd_L1 m 0).length)
theorem all_loop (l : List Int) (hl : l.length < 1000000000000000) : ∀ d i, i + d = l.length → ∃ k, mat_all.l0 k l (l.length : Int) (i : Int) = some ((l.drop i).all elB)
  | 0, i, hi => ⟨1, by simp only [mat_all.l0]; rw [if_neg (by omega), List.drop_eq_nil_of_le (by omega)]; rfl⟩
  | d + 1, i, hi => by
    obtain ⟨k, hk⟩ := all_loop l hl d (i + 1) (by omega)
    refine ⟨k + 1, ?_⟩
    simp only [mat_all.l0]
    rw [if_pos (by omega), if_pos (by omega), if_pos (by omega), wrap_suc i (by omega), hk, rd_cons l i (by omega), List.all_cons]
    by_cases h0 : rd l i < 0
    · rw [if_pos h0]; simp [elB, show ¬ 0 ≤ rd l i from by omega]
    · rw [if_neg h0]
      by_cases h1 : rd l i ≥ 256
      · rw [if_pos h1]; simp [elB, show ¬ rd l i < 256 from by omega]
      · rw [if_neg h1]; simp [elB, show 0 ≤ rd l i from by omega, show rd l i < 256 from by omega]
theorem all_is (l : List Int) (hl : l.length < 1000000000000000) : ∃ k, mat_all.f k l = some (l.all elB) := by
  have := all_loop l hl l.length 0 (by omega)
  simpa [mat_all.f] using this
theorem may_loop (m : List (List Int)) (hl : m.length ≤ 8) (hr : ∀ r ∈ m, r.length < 1000000000000000) : ∀ d i, i + d = m.length → ∃ k, mat_May.l0 k m m (m.length : Int) (i : Int) = some ((m.drop i).all (rowB (rd_L1 m 0).length))
  | 0, i, hi => ⟨1, by simp only [mat_May.l0]; rw [if_neg (by omega), List.drop_eq_nil_of_le (by omega)]; rfl⟩
  | d + 1, i, hi => by
    obtain ⟨k, hk, ha⟩ := together (fun k => mat_May.mono_l k |>.2 _ _ _ _) (fun k => mat_all.mono _ k) (may_loop m hl hr d (i + 1) (by omega)) (all_is (rd_L1 m i) (hr _ (L1_mem i (by omega))))
    refine ⟨k + 1, ?_⟩
    simp only [mat_May.l0]
    rw [if_pos (by omega), if_pos (by omega), if_pos (by omega), if_pos (by omega), wrap_suc i (by omega), hk, ha, bsome, L1_cons m i (by omega), List.all_cons]
    by_cases h0 : ((rd_L1 m i).length : Int) = ((rd_L1 m 0).length : Int)
    · rw [if_pos h0]
      by_cases h1 : ((rd_L1 m i).length : Int) < 1
      · rw [if_pos h1]; simp [rowB, show ¬ 1 ≤ (rd_L1 m i).length from by omega]
      · rw [if_neg h1]
        by_cases h2 : ((rd_L1 m i).length : Int) > 8
        · rw [if_pos h2]; simp [rowB, show ¬ (rd_L1 m i).length ≤ 8 from by omega]
        · rw [if_neg h2]
          have e : rowB (rd_L1 m 0).length (rd_L1 m i) = (rd_L1 m i).all elB := by
            simp only [rowB, decide_eq_true (show (rd_L1 m i).length = (rd_L1 m 0).length from by omega), decide_eq_true (show 1 ≤ (rd_L1 m i).length from by omega), decide_eq_true (show (rd_L1 m i).length ≤ 8 from by omega), Bool.true_and]
          rw [e]
          cases (rd_L1 m i).all elB <;> simp
    · rw [if_neg h0]; simp [rowB, show ¬ (rd_L1 m i).length = (rd_L1 m 0).length from by omega]
theorem may_is (m : List (List Int)) (hr : ∀ r ∈ m, r.length < 1000000000000000) : ∃ k, mat_May.f k m = some (mayB m) := by
  by_cases h0 : (m.length : Int) < 1
  · refine ⟨1, ?_⟩
    simp only [mat_May.f, mat_May.j0]
    rw [if_pos h0, if_pos trivial]; simp [mayB, show ¬ 1 ≤ m.length from by omega]
  · by_cases h1 : (m.length : Int) > 8
    · refine ⟨1, ?_⟩
      simp only [mat_May.f, mat_May.j0]
      rw [if_neg h0, if_pos (by simpa using h1)]; simp [mayB, show ¬ m.length ≤ 8 from by omega]
    · obtain ⟨k, hk⟩ := may_loop m (by omega) hr m.length 0 (by omega)
      refine ⟨k + 1, ?_⟩
      simp only [mat_May.f, mat_May.j0]
      rw [if_neg h0, if_neg (by simpa using h1), show (0 : Int) = ((0 : Nat) : Int) from rfl, hk]
      simp [mayB, show 1 ≤ m.length from by omega, show m.length ≤ 8 from by omega]

theorem element_is (a : Int) : quicksetref_Element.f a = some (elB a) := by
  unfold quicksetref_Element.f elB
  by_cases h : a ≥ 0
  · rw [if_pos h, decide_eq_true (show 0 ≤ a from h), Bool.true_and]
    congr 1
    rw [decide_eq_decide]; omega
  · rw [if_neg h, decide_eq_false (show ¬ 0 ≤ a from h), Bool.false_and]
def refRows (n : Nat) (l : List (List Int)) : Bool := l.all fun r => decide (r.length = n) && r.all elB
theorem refmay_row (m : List (List Int)) (i : Nat) (r : List Int) (hl : r.length < 1000000000000000) (q : Bool) (hq : ∃ k, quicksetref_MatMay.l0 k m m (m.length : Int) (wrap64 ((i : Int) + 1)) = some q) :
    ∀ d j, j + d = r.length → ∃ k, quicksetref_MatMay.l1 k m m (m.length : Int) (i : Int) r (r.length : Int) (j : Int) = some ((r.drop j).all elB && q)
  | 0, j, hj => by
    obtain ⟨k, hk⟩ := hq
    refine ⟨k + 1, ?_⟩
    simp only [quicksetref_MatMay.l1]
    rw [if_neg (by omega), List.drop_eq_nil_of_le (by omega), hk]; rfl
  | d + 1, j, hj => by
    obtain ⟨k, hk⟩ := refmay_row m i r hl q hq d (j + 1) (by omega)
    refine ⟨k + 1, ?_⟩
    simp only [quicksetref_MatMay.l1]
    rw [if_pos (by omega), if_pos (by omega), if_pos (by omega), element_is, bsome, wrap_suc j (by omega), hk, rd_cons r j (by omega), List.all_cons]
    cases elB (rd r j) <;> simp
theorem refmay_loop (m : List (List Int)) (hl : m.length ≤ 8) (hr : ∀ r ∈ m, r.length < 1000000000000000) : ∀ d i, i + d = m.length → ∃ k, quicksetref_MatMay.l0 k m m (m.length : Int) (i : Int) = some (refRows (rd_L1 m 0).length (m.drop i))
  | 0, i, hi => ⟨1, by simp only [quicksetref_MatMay.l0]; rw [if_neg (by omega), List.drop_eq_nil_of_le (by omega)]; rfl⟩
  | d + 1, i, hi => by
    have hn := refmay_loop m hl hr d (i + 1) (by omega)
    rw [← wrap_suc i (by omega)] at hn
    obtain ⟨k, hk⟩ := refmay_row m i (rd_L1 m i) (hr _ (L1_mem i (by omega))) _ hn (rd_L1 m i).length 0 (by omega)
    refine ⟨k + 1, ?_⟩
    simp only [quicksetref_MatMay.l0]
    rw [if_pos (by omega), if_pos (by omega), if_pos (by omega), if_pos (by omega), L1_cons m i (by omega)]
    simp only [refRows, List.all_cons] at hk ⊢
    by_cases h0 : ((rd_L1 m i).length : Int) = ((rd_L1 m 0).length : Int)
    · rw [if_pos h0, decide_eq_true (show (rd_L1 m i).length = (rd_L1 m 0).length from by omega), Bool.true_and, show (0 : Int) = ((0 : Nat) : Int) from rfl, hk]
      simp
    · rw [if_neg h0, decide_eq_false (show ¬ (rd_L1 m i).length = (rd_L1 m 0).length from by omega)]
      simp
theorem refRows_is (m : List (List Int)) (hl : 1 ≤ m.length) : (decide ((rd_L1 m 0).length ≠ 0) && decide ((rd_L1 m 0).length ≤ 8) && refRows (rd_L1 m 0).length m) = m.all (rowB (rd_L1 m 0).length) := by
  rw [Bool.eq_iff_iff]
  simp only [refRows, rowB, Bool.and_eq_true, decide_eq_true_eq, List.all_eq_true]
  constructor
  · rintro ⟨⟨h1, h2⟩, h3⟩ r hr
    have := h3 r hr
    exact ⟨⟨⟨this.1, by omega⟩, by omega⟩, this.2⟩
  · intro h
    have h0 := h (rd_L1 m 0) (L1_mem 0 (by omega))
    exact ⟨⟨by omega, by omega⟩, fun r hr => ⟨(h r hr).1.1.1, (h r hr).2⟩⟩
theorem refmay_is (m : List (List Int)) (hr : ∀ r ∈ m, r.length < 1000000000000000) : ∃ k, quicksetref_MatMay.f k m = some (mayB m) := by
  by_cases h0 : (m.length : Int) = 0
  · refine ⟨1, ?_⟩
    simp only [quicksetref_MatMay.f, quicksetref_MatMay.j0]
    rw [if_pos h0, if_pos trivial]; simp [mayB, show ¬ 1 ≤ m.length from by omega]
  · by_cases h1 : (m.length : Int) > 8
    · refine ⟨1, ?_⟩
      simp only [quicksetref_MatMay.f, quicksetref_MatMay.j0]
      rw [if_neg h0, if_pos h1, if_pos trivial]; simp [mayB, show ¬ m.length ≤ 8 from by omega]
    · have e := refRows_is m (by omega)
      have eb : mayB m = (decide ((rd_L1 m 0).length ≠ 0) && decide ((rd_L1 m 0).length ≤ 8) && refRows (rd_L1 m 0).length m) := by
        rw [e]; simp [mayB, show 1 ≤ m.length from by omega, show m.length ≤ 8 from by omega]
      rw [eb]
      by_cases h2 : ((rd_L1 m 0).length : Int) = 0
      · refine ⟨1, ?_⟩
        simp only [quicksetref_MatMay.f, quicksetref_MatMay.j0]
        rw [if_neg h0, if_neg h1, if_pos (by omega), if_pos h2, if_pos trivial]; simp [show (rd_L1 m 0).length = 0 from by omega]
      · by_cases h3 : ((rd_L1 m 0).length : Int) > 8
        · refine ⟨1, ?_⟩
          simp only [quicksetref_MatMay.f, quicksetref_MatMay.j0]
          rw [if_neg h0, if_neg h1, if_pos (by omega), if_neg h2, if_pos (by simpa using h3)]; simp [show ¬ (rd_L1 m 0).length ≤ 8 from by omega]
        · obtain ⟨k, hk⟩ := refmay_loop m (by omega) hr m.length 0 (by omega)
          refine ⟨k + 1, ?_⟩
          simp only [quicksetref_MatMay.f, quicksetref_MatMay.j0]
          rw [if_neg h0, if_neg h1, if_pos (by omega), if_neg h2, if_neg (by simpa using h3), show (0 : Int) = ((0 : Nat) : Int) from rfl, hk]
          have n0 : (rd_L1 m 0).length ≠ 0 := by omega
          have n8 : (rd_L1 m 0).length ≤ 8 := by omega
          simp [n0, n8]

theorem MatMays (l0 : List (List Int)) (h0 : l0.length * 24 ≤ 140737488351232) (h1 : ∀ x ∈ l0, (x.length * 8 ≤ 140737488351232 ∧ ∀ y ∈ x, (Lit.int .i64 y).wf = true)) : ∃ k, quicksetlaw_MatMays.f k l0 = some true := by
  have hr : ∀ r ∈ l0, r.length < 1000000000000000 := fun r hr => by have := (h1 r hr).1; omega
  obtain ⟨k, h1, h2⟩ := together (fun k => mat_May.mono l0 k) (fun k => quicksetref_MatMay.mono l0 k) (may_is l0 hr) (refmay_is l0 hr)
  refine ⟨k, ?_⟩
  unfold quicksetlaw_MatMays.f
  rw [h1, h2, bsome, bsome]
  simp

end Go.Proofs.Ytgibkbiofdmiaaa.Pure
