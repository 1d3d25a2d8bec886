/- SpanFirsts: the two answers are one, over plain numbers and lists, for every argument; no conditions. -/
import Derived.Test.YtgibkbiofdmiaaaPSpanFirstsx4
set_option linter.unusedVariables false
set_option linter.unusedSimpArgs false
namespace Go.Proofs.Ytgibkbiofdmiaaa.Pure
open Go.RowKit Go.Proofs.Ytgibkbiofdmiaaa Go.Proofs.Ytgibkbiofdmiaaa.PSpanFirsts Go.Proofs.YtgibkbiofdmiaaaW.PrintWords Go.Proofs.YtgibkbiofdmiaaaW.PrintLast Go.Proofs.YtgibkbiofdmiaaaW.PrintMore

theorem bsome {α β : Type} (x : α) (f : α → Option β) : (some x).bind f = f x := by
  have h : ∀ o, o = some x → o.bind f = f x := by
    intro o ho
    subst ho
    rfl
  exact h _ rfl
theorem wf64 {a : Int} (h : (Lit.int .i64 a).wf = true) : -9223372036854775808 ≤ a ∧ a ≤ 9223372036854775807 := by
  simp only [Lit.wf, IntKind.min, IntKind.max, IntKind.signed, IntKind.bits, Bool.and_eq_true, decide_eq_true_eq, if_true] at h
  omega
theorem wrap_id {n : Int} (h0 : -9223372036854775808 ≤ n) (h1 : n ≤ 9223372036854775807) : wrap64 n = n := by unfold wrap64; omega
theorem wrap01 : wrap64 (0 + 1) = 1 := wrap_id (n := 0 + 1) (by decide) (by decide)

/-! What may be a list of ranges -/
def okR (x : S63) : Bool := decide (0 ≤ x.f0 ∧ x.f0 < x.f1 ∧ x.f1 ≤ 1048576)
def goP (l : List S63) : Nat → Nat → Bool
  | 0, _ => decide (l.length ≤ 200)
  | d + 1, i => okR (rd_T63 l i) && (decide (i = 0) || decide ((rd_T63 l ((i - 1 : Nat) : Int)).f1 < (rd_T63 l i).f0)) && goP l d (i + 1)
def goR (l : List S63) : Nat → Nat → Bool
  | 0, _ => true
  | d + 1, i => okR (rd_T63 l i) && (decide (l.length ≤ i + 1) || decide ((rd_T63 l i).f1 < (rd_T63 l ((i + 1 : Nat) : Int)).f0)) && goR l d (i + 1)
def mayB (l : List S63) : Bool := decide (l.length ≤ 200) && goR l l.length 0
theorem goP_iff (l : List S63) : ∀ d i, goP l d i = true ↔ l.length ≤ 200 ∧ ∀ j, i ≤ j → j < i + d → okR (rd_T63 l j) = true ∧ (j = 0 ∨ (rd_T63 l ((j - 1 : Nat) : Int)).f1 < (rd_T63 l j).f0)
  | 0, i => by
    simp only [goP, decide_eq_true_eq]
    exact ⟨fun h => ⟨h, fun j h1 h2 => by omega⟩, fun h => h.1⟩
  | d + 1, i => by
    simp only [goP, Bool.and_eq_true, Bool.or_eq_true, decide_eq_true_eq, goP_iff l d (i + 1)]
    constructor
    · rintro ⟨⟨h1, h2⟩, h3, h4⟩
      refine ⟨h3, fun j hj hk => ?_⟩
      rcases Nat.eq_or_lt_of_le hj with e | e
      · subst e; exact ⟨h1, h2⟩
      · exact h4 j (by omega) (by omega)
    · rintro ⟨h3, h4⟩
      exact ⟨h4 i (Nat.le_refl _) (by omega), h3, fun j hj hk => h4 j (by omega) (by omega)⟩
theorem goR_iff (l : List S63) : ∀ d i, goR l d i = true ↔ ∀ j, i ≤ j → j < i + d → okR (rd_T63 l j) = true ∧ (l.length ≤ j + 1 ∨ (rd_T63 l j).f1 < (rd_T63 l ((j + 1 : Nat) : Int)).f0)
  | 0, i => by
    simp only [goR, true_iff]
    exact fun j h1 h2 => by omega
  | d + 1, i => by
    simp only [goR, Bool.and_eq_true, Bool.or_eq_true, decide_eq_true_eq, goR_iff l d (i + 1)]
    constructor
    · rintro ⟨⟨h1, h2⟩, h4⟩
      refine fun j hj hk => ?_
      rcases Nat.eq_or_lt_of_le hj with e | e
      · subst e; exact ⟨h1, h2⟩
      · exact h4 j (by omega) (by omega)
    · intro h4
      exact ⟨h4 i (Nat.le_refl _) (by omega), fun j hj hk => h4 j (by omega) (by omega)⟩
theorem goP_is (l : List S63) : goP l l.length 0 = mayB l := by
  rw [Bool.eq_iff_iff, goP_iff]
  simp only [mayB, Bool.and_eq_true, decide_eq_true_eq, goR_iff]
  constructor
  · rintro ⟨h1, h2⟩
    refine ⟨h1, fun j _ hj => ⟨(h2 j (Nat.zero_le _) hj).1, ?_⟩⟩
    rcases Nat.lt_or_ge (j + 1) l.length with h | h
    · right
      have := (h2 (j + 1) (Nat.zero_le _) (by omega)).2
      rcases this with h' | h'
      · omega
      · simpa using h'
    · exact .inl h
  · rintro ⟨h1, h2⟩
    refine ⟨h1, fun j _ hj => ⟨(h2 j (Nat.zero_le _) hj).1, ?_⟩⟩
    rcases Nat.eq_zero_or_pos j with h | h
    · exact .inl h
    · right
      have := (h2 (j - 1) (Nat.zero_le _) (by omega)).2
      rcases this with h' | h'
      · omega
      · rw [show j - 1 + 1 = j from by omega] at h'
        exact h'
theorem mayB_len {l : List S63} (h : mayB l = true) : l.length ≤ 200 := by
  simp only [mayB, Bool.and_eq_true, decide_eq_true_eq] at h
  exact h.1
theorem mayB_at {l : List S63} (h : mayB l = true) (j : Nat) (hj : j < l.length) : 0 ≤ (rd_T63 l j).f0 ∧ (rd_T63 l j).f0 < (rd_T63 l j).f1 ∧ (rd_T63 l j).f1 ≤ 1048576 := by
  simp only [mayB, Bool.and_eq_true, goR_iff] at h
  have := (h.2 j (Nat.zero_le _) (by omega)).1
  simpa [okR] using this
theorem mayB_next {l : List S63} (h : mayB l = true) (j : Nat) (hj : j + 1 < l.length) : (rd_T63 l j).f1 < (rd_T63 l ((j + 1 : Nat) : Int)).f0 := by
  simp only [mayB, Bool.and_eq_true, goR_iff] at h
  rcases (h.2 j (Nat.zero_le _) (by omega)).2 with h' | h'
  · omega
  · exact h'

theorem one_is (a b : Int) : span_one.f a b = some (decide (0 ≤ a ∧ a < b ∧ b ≤ 1048576)) := by
  unfold span_one.f
  repeat' split
  all_goals (congr 1; first | (rw [decide_eq_decide]; omega) | (symm; rw [decide_eq_false_iff_not]; omega))
theorem may_loop (l : List S63) (hl : l.length < 1000000000000000) : ∀ (d i : Nat), i + d = l.length → ∃ k, span_May.l0 k l l (l.length : Int) (i : Int) = some (goP l d i) := by
  intro d
  induction d with
  | zero =>
    intro i hi
    refine ⟨1, ?_⟩
    simp only [span_May.l0, goP]
    rw [if_neg (by omega), show decide ((l.length : Int) ≤ 200) = decide (l.length ≤ 200) from by rw [decide_eq_decide]; omega]
  | succ d ih =>
    intro i hi
    obtain ⟨k, hk⟩ := ih (i + 1) (by omega)
    refine ⟨k + 1, ?_⟩
    simp only [span_May.l0, goP]
    rw [if_pos (by omega), if_pos (by omega), if_pos (by omega), one_is, bsome]
    have hok : decide (0 ≤ (rd_T63 l (i : Int)).f0 ∧ (rd_T63 l (i : Int)).f0 < (rd_T63 l (i : Int)).f1 ∧ (rd_T63 l (i : Int)).f1 ≤ 1048576) = okR (rd_T63 l (i : Int)) := rfl
    rw [hok]
    cases ho : okR (rd_T63 l (i : Int)) with
    | false => simp
    | true =>
      rw [if_pos rfl, Bool.true_and]
      have hw : wrap64 ((i : Int) + 1) = ((i + 1 : Nat) : Int) := by rw [wrap_id (by omega) (by omega)]; omega
      by_cases h0 : i = 0
      · subst h0
        rw [if_neg (by omega), hw, hk]
        simp
      · have hw' : wrap64 ((i : Int) - 1) = ((i - 1 : Nat) : Int) := by rw [wrap_id (by omega) (by omega)]; omega
        rw [if_pos (by omega), hw', if_pos (by omega), if_pos (by omega), hw, hk]
        by_cases hc : (rd_T63 l ((i - 1 : Nat) : Int)).f1 < (rd_T63 l (i : Int)).f0
        · rw [if_neg (by omega)]; simp [hc]
        · rw [if_pos (by omega)]; simp [h0, hc]
theorem may_is (l : List S63) (hl : l.length < 1000000000000000) : ∃ k, span_May.f k l = some (mayB l) := by
  obtain ⟨k, hk⟩ := may_loop l hl l.length 0 (by omega)
  rw [goP_is] at hk
  exact ⟨k, hk⟩

theorem rmay_is (a b : Int) : quicksetref_RangeMay.f a b = some (decide (0 ≤ a ∧ a < b ∧ b ≤ 1048576)) := by
  unfold quicksetref_RangeMay.f
  repeat' split
  all_goals (congr 1; first | (rw [decide_eq_decide]; omega) | (symm; rw [decide_eq_false_iff_not]; omega))
theorem refmay_loop (l : List S63) (hl : l.length < 1000000000000000) : ∀ (d i : Nat), i + d = l.length → ∃ k, quicksetref_SpanMay.l0 k l (i : Int) = some (goR l d i) := by
  intro d
  induction d with
  | zero =>
    intro i hi
    refine ⟨1, ?_⟩
    simp only [quicksetref_SpanMay.l0, goR]
    rw [if_neg (by omega)]
  | succ d ih =>
    intro i hi
    obtain ⟨k, hk⟩ := ih (i + 1) (by omega)
    refine ⟨k + 1, ?_⟩
    simp only [quicksetref_SpanMay.l0, goR]
    rw [if_pos (by omega), if_pos (by omega), rmay_is, bsome]
    have hok : decide (0 ≤ (rd_T63 l (i : Int)).f0 ∧ (rd_T63 l (i : Int)).f0 < (rd_T63 l (i : Int)).f1 ∧ (rd_T63 l (i : Int)).f1 ≤ 1048576) = okR (rd_T63 l (i : Int)) := rfl
    rw [hok]
    cases ho : okR (rd_T63 l (i : Int)) with
    | false => simp
    | true =>
      rw [if_pos rfl, Bool.true_and]
      have hw : wrap64 ((i : Int) + 1) = ((i + 1 : Nat) : Int) := by rw [wrap_id (by omega) (by omega)]; omega
      rw [hw, hk]
      by_cases h0 : i + 1 < l.length
      · rw [if_pos (by omega), if_pos (by omega)]
        by_cases hc : (rd_T63 l (i : Int)).f1 < (rd_T63 l ((i + 1 : Nat) : Int)).f0
        · rw [if_neg (by omega), decide_eq_true hc]; simp
        · rw [if_pos (by omega), decide_eq_false hc, decide_eq_false (by omega)]; simp
      · rw [if_neg (by omega), decide_eq_true (show l.length ≤ i + 1 by omega)]
        simp
theorem refmay_is (l : List S63) (hl : l.length < 1000000000000000) : ∃ k, quicksetref_SpanMay.f k l = some (mayB l) := by
  obtain ⟨k, hk⟩ := refmay_loop l hl l.length 0 (by omega)
  refine ⟨k, ?_⟩
  unfold quicksetref_SpanMay.f mayB
  by_cases h : l.length ≤ 200
  · rw [if_neg (by omega), decide_eq_true h, Bool.true_and]; exact hk
  · rw [if_pos (by omega), decide_eq_false h, Bool.false_and]

def firstAt (l : List S63) (n : Int) : Nat → Nat → Int × Int
  | 0, _ => (0, 6)
  | d + 1, i => if n ≤ wrap64 ((rd_T63 l i).f1 - (rd_T63 l i).f0) then ((rd_T63 l i).f0, 0) else firstAt l n d (i + 1)
theorem first_loop (l : List S63) (n : Int) (hl : l.length < 1000000000000000) : ∀ (d i : Nat), i + d = l.length → ∃ k, span_First.l0 k n l (l.length : Int) (i : Int) = some (firstAt l n d i) := by
  intro d
  induction d with
  | zero =>
    intro i hi
    refine ⟨1, ?_⟩
    simp only [span_First.l0, firstAt]
    rw [if_neg (by omega)]
  | succ d ih =>
    intro i hi
    obtain ⟨k, hk⟩ := ih (i + 1) (by omega)
    refine ⟨k + 1, ?_⟩
    simp only [span_First.l0, firstAt]
    rw [if_pos (by omega), if_pos (by omega), if_pos (by omega), wrap_id (n := (i : Int) + 1) (by omega) (by omega), show ((i : Int) + 1) = ((i + 1 : Nat) : Int) from by omega]
    by_cases h : n ≤ wrap64 ((rd_T63 l (i : Int)).f1 - (rd_T63 l (i : Int)).f0)
    · rw [if_pos h, if_pos h]
    · rw [if_neg h, if_neg h]; exact hk
theorem reffirst_loop (l : List S63) (n : Int) (hl : l.length < 1000000000000000) : ∀ (d i : Nat), i + d = l.length → ∃ k, quicksetref_SpanFirst.l0 k n l (l.length : Int) (i : Int) = some (firstAt l n d i) := by
  intro d
  induction d with
  | zero =>
    intro i hi
    refine ⟨1, ?_⟩
    simp only [quicksetref_SpanFirst.l0, firstAt]
    rw [if_neg (by omega)]
  | succ d ih =>
    intro i hi
    obtain ⟨k, hk⟩ := ih (i + 1) (by omega)
    refine ⟨k + 1, ?_⟩
    simp only [quicksetref_SpanFirst.l0, firstAt]
    rw [if_pos (by omega), if_pos (by omega), if_pos (by omega), wrap_id (n := (i : Int) + 1) (by omega) (by omega), show ((i : Int) + 1) = ((i + 1 : Nat) : Int) from by omega]
    by_cases h : n ≤ wrap64 ((rd_T63 l (i : Int)).f1 - (rd_T63 l (i : Int)).f0)
    · rw [if_pos h, if_pos h]
    · rw [if_neg h, if_neg h]; exact hk
theorem SpanFirsts (l0 : List S63) (h0 : l0.length * 16 ≤ 140737488351232) (_ : ∀ x ∈ l0, ((Lit.int .i64 x.f0).wf = true ∧ (Lit.int .i64 x.f1).wf = true)) (n : Int) (_ : (Lit.int .i64 n).wf = true) : ∃ k, quicksetlaw_SpanFirsts.f k l0 n = some true := by
  have hl : l0.length < 1000000000000000 := by omega
  obtain ⟨r, hp, hr⟩ : ∃ r, (∃ k, span_First.f k l0 n = some r) ∧ ∃ k, quicksetref_SpanFirst.f k l0 n = some r := by
    obtain ⟨k1, a1, a2⟩ := together (fun k => span_May.mono l0 k) (fun k => span_First.mono_l k _ _ _ _) (may_is l0 hl) (first_loop l0 n hl l0.length 0 (by omega))
    obtain ⟨k2, b1, b2⟩ := together (fun k => quicksetref_SpanMay.mono l0 k) (fun k => quicksetref_SpanFirst.mono_l k _ _ _ _) (refmay_is l0 hl) (reffirst_loop l0 n hl l0.length 0 (by omega))
    refine ⟨if mayB l0 = true then (if n < 1 then (0, 2) else firstAt l0 n l0.length 0) else (0, 4), ⟨k1, ?_⟩, ⟨k2, ?_⟩⟩
    · unfold span_First.f
      rw [a1, bsome]
      by_cases hm : mayB l0 = true
      · by_cases hn : n < 1
        · rw [if_pos hm, if_pos hm, if_pos hn, if_pos hn]
        · rw [if_pos hm, if_pos hm, if_neg hn, if_neg hn]; exact a2
      · rw [if_neg hm, if_neg hm]
    · unfold quicksetref_SpanFirst.f
      rw [b1, bsome]
      by_cases hm : mayB l0 = true
      · by_cases hn : n < 1
        · rw [if_pos hm, if_pos hm, if_pos hn, if_pos hn]
        · rw [if_pos hm, if_pos hm, if_neg hn, if_neg hn]; exact b2
      · rw [if_neg hm, if_neg hm]
  obtain ⟨k, h1, h2⟩ := together (fun k => span_First.mono l0 n k) (fun k => quicksetref_SpanFirst.mono l0 n k) hp hr
  refine ⟨k, ?_⟩
  unfold quicksetlaw_SpanFirsts.f
  rw [h1, h2, bsome, bsome, if_pos rfl]
  simp

end Go.Proofs.Ytgibkbiofdmiaaa.Pure
