/- SpanHases: the two answers are one, over plain numbers and lists, for every argument; no conditions. -/
import Derived.Test.YtgibkbiofdmiaaaQSpanHasesx4
set_option linter.unusedVariables false
set_option linter.unusedSimpArgs false
namespace Go.Proofs.Ytgibkbiofdmiaaa.Pure
open Go.RowKit Go.Proofs.Ytgibkbiofdmiaaa Go.Proofs.Ytgibkbiofdmiaaa.QSpanHases Go.Proofs.YtgibkbiofdmiaaaW.PrintWords Go.Proofs.YtgibkbiofdmiaaaW.PrintLast Go.Proofs.YtgibkbiofdmiaaaW.PrintMore

theorem bsome {α β : Type} (x : α) (f : α → Option β) : (some x).bind f = f x := by
  have h : ∀ o, o = some x → o.bind f = f x := by
    intro o ho
    subst ho
    rfl
  exact h _ rfl
theorem wf64 {a : Int} (h : (Lit.int .i64 a).wf = true) : -9223372036854775808 ≤ a ∧ a ≤ 9223372036854775807 := by
  simp only [Lit.wf, IntKind.min, IntKind.max, IntKind.signed, IntKind.bits, Bool.and_eq_true, decide_eq_true_eq, if_true] at h
  omega
theorem wrap_id {n : Int} (h0 : -9223372036854775808 ≤ n) (h1 : n ≤ 9223372036854775807) : wrap64 n = n := by unfold wrap64; omega
theorem wrap01 : wrap64 (0 + 1) = 1 := wrap_id (n := 0 + 1) (by decide) (by decide)

/-! What may be a list of ranges -/
def okR (x : S63) : Bool := decide (0 ≤ x.f0 ∧ x.f0 < x.f1 ∧ x.f1 ≤ 1048576)
def goP (l : List S63) : Nat → Nat → Bool
  | 0, _ => decide (l.length ≤ 200)
  | d + 1, i => okR (rd_T63 l i) && (decide (i = 0) || decide ((rd_T63 l ((i - 1 : Nat) : Int)).f1 < (rd_T63 l i).f0)) && goP l d (i + 1)
def goR (l : List S63) : Nat → Nat → Bool
  | 0, _ => true
  | d + 1, i => okR (rd_T63 l i) && (decide (l.length ≤ i + 1) || decide ((rd_T63 l i).f1 < (rd_T63 l ((i + 1 : Nat) : Int)).f0)) && goR l d (i + 1)
def mayB (l : List S63) : Bool := decide (l.length ≤ 200) && goR l l.length 0
theorem goP_iff (l : List S63) : ∀ d i, goP l d i = true ↔ l.length ≤ 200 ∧ ∀ j, i ≤ j → j < i + d → okR (rd_T63 l j) = true ∧ (j = 0 ∨ (rd_T63 l ((j - 1 : Nat) : Int)).f1 < (rd_T63 l j).f0)
  | 0, i => by
    simp only [goP, decide_eq_true_eq]
    exact ⟨fun h => ⟨h, fun j h1 h2 => by omega⟩, fun h => h.1⟩
  | d + 1, i => by
    simp only [goP, Bool.and_eq_true, Bool.or_eq_true, decide_eq_true_eq, goP_iff l d (i + 1)]
    constructor
    · rintro ⟨⟨h1, h2⟩, h3, h4⟩
      refine ⟨h3, fun j hj hk => ?_⟩
      rcases Nat.eq_or_lt_of_le hj with e | e
      · subst e; exact ⟨h1, h2⟩
      · exact h4 j (by omega) (by omega)
    · rintro ⟨h3, h4⟩
      exact ⟨h4 i (Nat.le_refl _) (by omega), h3, fun j hj hk => h4 j (by omega) (by omega)⟩
theorem goR_iff (l : List S63) : ∀ d i, goR l d i = true ↔ ∀ j, i ≤ j → j < i + d → okR (rd_T63 l j) = true ∧ (l.length ≤ j + 1 ∨ (rd_T63 l j).f1 < (rd_T63 l ((j + 1 : Nat) : Int)).f0)
  | 0, i => by
    simp only [goR, true_iff]
    exact fun j h1 h2 => by omega
  | d + 1, i => by
    simp only [goR, Bool.and_eq_true, Bool.or_eq_true, decide_eq_true_eq, goR_iff l d (i + 1)]
    constructor
    · rintro ⟨⟨h1, h2⟩, h4⟩
      refine fun j hj hk => ?_
      rcases Nat.eq_or_lt_of_le hj with e | e
      · subst e; exact ⟨h1, h2⟩
      · exact h4 j (by omega) (by omega)
    · intro h4
      exact ⟨h4 i (Nat.le_refl _) (by omega), fun j hj hk => h4 j (by omega) (by omega)⟩
theorem goP_is (l : List S63) : goP l l.length 0 = mayB l := by
  rw [Bool.eq_iff_iff, goP_iff]
  simp only [mayB, Bool.and_eq_true, decide_eq_true_eq, goR_iff]
  constructor
  · rintro ⟨h1, h2⟩
    refine ⟨h1, fun j _ hj => ⟨(h2 j (Nat.zero_le _) hj).1, ?_⟩⟩
    rcases Nat.lt_or_ge (j + 1) l.length with h | h
    · right
      have := (h2 (j + 1) (Nat.zero_le _) (by omega)).2
      rcases this with h' | h'
      · omega
      · simpa using h'
    · exact .inl h
  · rintro ⟨h1, h2⟩
    refine ⟨h1, fun j _ hj => ⟨(h2 j (Nat.zero_le _) hj).1, ?_⟩⟩
    rcases Nat.eq_zero_or_pos j with h | h
    · exact .inl h
    · right
      have := (h2 (j - 1) (Nat.zero_le _) (by omega)).2
      rcases this with h' | h'
      · omega
      · rw [show j - 1 + 1 = j from by omega] at h'
        exact h'
theorem mayB_len {l : List S63} (h : mayB l = true) : l.length ≤ 200 := by
  simp only [mayB, Bool.and_eq_true, decide_eq_true_eq] at h
  exact h.1
theorem mayB_at {l : List S63} (h : mayB l = true) (j : Nat) (hj : j < l.length) : 0 ≤ (rd_T63 l j).f0 ∧ (rd_T63 l j).f0 < (rd_T63 l j).f1 ∧ (rd_T63 l j).f1 ≤ 1048576 := by
  simp only [mayB, Bool.and_eq_true, goR_iff] at h
  have := (h.2 j (Nat.zero_le _) (by omega)).1
  simpa [okR] using this
theorem mayB_next {l : List S63} (h : mayB l = true) (j : Nat) (hj : j + 1 < l.length) : (rd_T63 l j).f1 < (rd_T63 l ((j + 1 : Nat) : Int)).f0 := by
  simp only [mayB, Bool.and_eq_true, goR_iff] at h
  rcases (h.2 j (Nat.zero_le _) (by omega)).2 with h' | h'
  · omega
  · exact h'

theorem one_is (a b : Int) : span_one.f a b = some (decide (0 ≤ a ∧ a < b ∧ b ≤ 1048576)) := by
  unfold span_one.f
  repeat' split
  all_goals (congr 1; first | (rw [decide_eq_decide]; omega) | (symm; rw [decide_eq_false_iff_not]; omega))
theorem may_loop (l : List S63) (hl : l.length < 1000000000000000) : ∀ (d i : Nat), i + d = l.length → ∃ k, span_May.l0 k l l (l.length : Int) (i : Int) = some (goP l d i) := by
  intro d
  induction d with
  | zero =>
    intro i hi
    refine ⟨1, ?_⟩
    simp only [span_May.l0, goP]
    rw [if_neg (by omega), show decide ((l.length : Int) ≤ 200) = decide (l.length ≤ 200) from by rw [decide_eq_decide]; omega]
  | succ d ih =>
    intro i hi
    obtain ⟨k, hk⟩ := ih (i + 1) (by omega)
    refine ⟨k + 1, ?_⟩
    simp only [span_May.l0, goP]
    rw [if_pos (by omega), if_pos (by omega), if_pos (by omega), one_is, bsome]
    have hok : decide (0 ≤ (rd_T63 l (i : Int)).f0 ∧ (rd_T63 l (i : Int)).f0 < (rd_T63 l (i : Int)).f1 ∧ (rd_T63 l (i : Int)).f1 ≤ 1048576) = okR (rd_T63 l (i : Int)) := rfl
    rw [hok]
    cases ho : okR (rd_T63 l (i : Int)) with
    | false => simp
    | true =>
      rw [if_pos rfl, Bool.true_and]
      have hw : wrap64 ((i : Int) + 1) = ((i + 1 : Nat) : Int) := by rw [wrap_id (by omega) (by omega)]; omega
      by_cases h0 : i = 0
      · subst h0
        rw [if_neg (by omega), hw, hk]
        simp
      · have hw' : wrap64 ((i : Int) - 1) = ((i - 1 : Nat) : Int) := by rw [wrap_id (by omega) (by omega)]; omega
        rw [if_pos (by omega), hw', if_pos (by omega), if_pos (by omega), hw, hk]
        by_cases hc : (rd_T63 l ((i - 1 : Nat) : Int)).f1 < (rd_T63 l (i : Int)).f0
        · rw [if_neg (by omega)]; simp [hc]
        · rw [if_pos (by omega)]; simp [h0, hc]
theorem may_is (l : List S63) (hl : l.length < 1000000000000000) : ∃ k, span_May.f k l = some (mayB l) := by
  obtain ⟨k, hk⟩ := may_loop l hl l.length 0 (by omega)
  rw [goP_is] at hk
  exact ⟨k, hk⟩

theorem rmay_is (a b : Int) : quicksetref_RangeMay.f a b = some (decide (0 ≤ a ∧ a < b ∧ b ≤ 1048576)) := by
  unfold quicksetref_RangeMay.f
  repeat' split
  all_goals (congr 1; first | (rw [decide_eq_decide]; omega) | (symm; rw [decide_eq_false_iff_not]; omega))
theorem refmay_loop (l : List S63) (hl : l.length < 1000000000000000) : ∀ (d i : Nat), i + d = l.length → ∃ k, quicksetref_SpanMay.l0 k l (i : Int) = some (goR l d i) := by
  intro d
  induction d with
  | zero =>
    intro i hi
    refine ⟨1, ?_⟩
    simp only [quicksetref_SpanMay.l0, goR]
    rw [if_neg (by omega)]
  | succ d ih =>
    intro i hi
    obtain ⟨k, hk⟩ := ih (i + 1) (by omega)
    refine ⟨k + 1, ?_⟩
    simp only [quicksetref_SpanMay.l0, goR]
    rw [if_pos (by omega), if_pos (by omega), rmay_is, bsome]
    have hok : decide (0 ≤ (rd_T63 l (i : Int)).f0 ∧ (rd_T63 l (i : Int)).f0 < (rd_T63 l (i : Int)).f1 ∧ (rd_T63 l (i : Int)).f1 ≤ 1048576) = okR (rd_T63 l (i : Int)) := rfl
    rw [hok]
    cases ho : okR (rd_T63 l (i : Int)) with
    | false => simp
    | true =>
      rw [if_pos rfl, Bool.true_and]
      have hw : wrap64 ((i : Int) + 1) = ((i + 1 : Nat) : Int) := by rw [wrap_id (by omega) (by omega)]; omega
      rw [hw, hk]
      by_cases h0 : i + 1 < l.length
      · rw [if_pos (by omega), if_pos (by omega)]
        by_cases hc : (rd_T63 l (i : Int)).f1 < (rd_T63 l ((i + 1 : Nat) : Int)).f0
        · rw [if_neg (by omega), decide_eq_true hc]; simp
        · rw [if_pos (by omega), decide_eq_false hc, decide_eq_false (by omega)]; simp
      · rw [if_neg (by omega), decide_eq_true (show l.length ≤ i + 1 by omega)]
        simp
theorem refmay_is (l : List S63) (hl : l.length < 1000000000000000) : ∃ k, quicksetref_SpanMay.f k l = some (mayB l) := by
  obtain ⟨k, hk⟩ := refmay_loop l hl l.length 0 (by omega)
  refine ⟨k, ?_⟩
  unfold quicksetref_SpanMay.f mayB
  by_cases h : l.length ≤ 200
  · rw [if_neg (by omega), decide_eq_true h, Bool.true_and]; exact hk
  · rw [if_pos (by omega), decide_eq_false h, Bool.false_and]

/-! What a sorted list of ranges has -/
theorem T_get (l : List S63) (i : Nat) (h : i < l.length) : rd_T63 l (i : Int) = l[i] := by
  show l.getD ((i : Nat) : Int).toNat z63 = _
  rw [Int.toNat_natCast, List.getD_eq_getElem?_getD, List.getElem?_eq_getElem h]
  rfl
theorem mayB_mono {l : List S63} (h : mayB l = true) (i : Nat) : ∀ d, i + d < l.length → (rd_T63 l (i : Int)).f1 ≤ (rd_T63 l ((i + d : Nat) : Int)).f1
  | 0, _ => Int.le_refl _
  | d + 1, hd => by
    have h1 := mayB_mono h i d (by omega)
    have h2 := mayB_next h (i + d) (by omega)
    have h3 := mayB_at h (i + d + 1) (by omega)
    rw [show i + (d + 1) = i + d + 1 from rfl]
    omega
/-- The first range that ends behind n. -/
def firstT (l : List S63) (n : Int) : Nat → Nat → Nat
  | 0, i => i
  | d + 1, i => if (rd_T63 l (i : Int)).f1 > n then i else firstT l n d (i + 1)
theorem firstT_spec (l : List S63) (n : Int) : ∀ d i, i ≤ firstT l n d i ∧ firstT l n d i ≤ i + d ∧ (∀ j, i ≤ j → j < firstT l n d i → ¬ (rd_T63 l (j : Int)).f1 > n) ∧ (firstT l n d i < i + d → (rd_T63 l (firstT l n d i : Int)).f1 > n)
  | 0, i => ⟨Nat.le_refl _, Nat.le_refl _, fun j h1 h2 => by simp only [firstT] at h2; omega, fun h => by simp only [firstT] at h; omega⟩
  | d + 1, i => by
    by_cases h : (rd_T63 l (i : Int)).f1 > n
    · simp only [firstT, if_pos h]
      exact ⟨Nat.le_refl _, by omega, fun j h1 h2 => by omega, fun _ => h⟩
    · have ih := firstT_spec l n d (i + 1)
      simp only [firstT, if_neg h]
      refine ⟨by omega, by omega, fun j h1 h2 => ?_, fun h2 => ih.2.2.2 (by omega)⟩
      rcases Nat.eq_or_lt_of_le h1 with e | e
      · subst e; exact h
      · exact ih.2.2.1 j (by omega) h2
theorem search_is (l : List S63) (n : Int) (hm : mayB l = true) (t : Nat) (ht : t ≤ l.length) (hlo : ∀ j : Nat, j < t → ¬ (rd_T63 l (j : Int)).f1 > n) (hhi : t < l.length → (rd_T63 l (t : Int)).f1 > n) :
    ∀ (d i j : Nat), j - i ≤ d → i ≤ t → t ≤ j → j ≤ l.length → ∃ k, span_Has.s0 k l n (i : Int) (j : Int) = some (t : Int)
  | 0, i, j, hd, h1, h2, h3 => ⟨1, by rw [span_Has.s0, if_neg (by omega)]; congr 1; omega⟩
  | d + 1, i, j, hd, h1, h2, h3 => by
    by_cases hlt : i < j
    · have e : ((i : Int) + (j : Int)) / 2 = (((i + j) / 2 : Nat) : Int) := by omega
      by_cases c : (rd_T63 l (((i + j) / 2 : Nat) : Int)).f1 > n
      · have hle : t ≤ (i + j) / 2 := by
          rcases Nat.lt_or_ge ((i + j) / 2) t with h | h
          · exact absurd c (hlo _ h)
          · exact h
        obtain ⟨k, hk⟩ := search_is l n hm t ht hlo hhi d i ((i + j) / 2) (by omega) h1 hle (by omega)
        exact ⟨k + 1, by rw [span_Has.s0, if_pos (by omega), e, if_pos c]; exact hk⟩
      · have hge : (i + j) / 2 + 1 ≤ t := by
          rcases Nat.lt_or_ge ((i + j) / 2) t with h | h
          · omega
          · exfalso
            have hmo := mayB_mono hm t ((i + j) / 2 - t) (by omega)
            rw [show t + ((i + j) / 2 - t) = (i + j) / 2 from by omega] at hmo
            have := hhi (by omega)
            omega
        obtain ⟨k, hk⟩ := search_is l n hm t ht hlo hhi d ((i + j) / 2 + 1) j (by omega) hge h2 h3
        exact ⟨k + 1, by rw [span_Has.s0, if_pos (by omega), e, if_neg c]; exact hk⟩
    · exact ⟨1, by rw [span_Has.s0, if_neg (by omega)]; congr 1; omega⟩
def hasB (l : List S63) (n : Int) : Bool := decide (firstT l n l.length 0 < l.length) && decide ((rd_T63 l (firstT l n l.length 0 : Int)).f0 ≤ n)
theorem has_is (l : List S63) (n : Int) (hl : l.length < 1000000000000000) : ∃ k, span_Has.f k l n = some (mayB l && hasB l n) := by
  obtain ⟨k0, hk0⟩ := may_is l hl
  cases hm : mayB l with
  | false =>
    refine ⟨k0, ?_⟩
    unfold span_Has.f
    rw [hk0, bsome, hm]
    rfl
  | true =>
    have hs := firstT_spec l n l.length 0
    simp only [Nat.zero_add] at hs
    obtain ⟨k, hk1, hk2⟩ := together (fun k => span_May.mono l k) (fun k => span_Has.mono_s k l n _ _) ⟨k0, hk0⟩ (search_is l n hm (firstT l n l.length 0) hs.2.1 (fun j hj => hs.2.2.1 j (Nat.zero_le _) hj) hs.2.2.2 l.length 0 l.length (by omega) (Nat.zero_le _) hs.2.1 (Nat.le_refl _))
    refine ⟨k, ?_⟩
    unfold span_Has.f
    rw [hk1, bsome, hm, if_pos rfl, if_pos (by have := mayB_len hm; omega), show (0 : Int) = ((0 : Nat) : Int) from rfl, hk2, bsome, if_pos (by omega)]
    by_cases c : firstT l n l.length 0 < l.length
    · rw [if_pos (by omega)]; simp [hasB, c]
    · rw [if_neg (by omega)]; simp [hasB, c]
theorem refhas_loop (l : List S63) (n : Int) (hm : mayB l = true) (hl : l.length < 1000000000000000) : ∀ (d i : Nat), i + d = l.length → ∃ k, quicksetref_SpanHas.l0 k n l (l.length : Int) (i : Int) = some (decide (firstT l n d i < l.length) && decide ((rd_T63 l (firstT l n d i : Int)).f0 ≤ n))
  | 0, i, hi => ⟨1, by simp only [quicksetref_SpanHas.l0, firstT]; rw [if_neg (by omega)]; simp [show ¬ i < l.length from by omega]⟩
  | d + 1, i, hi => by
    obtain ⟨k, hk⟩ := refhas_loop l n hm hl d (i + 1) (by omega)
    refine ⟨k + 1, ?_⟩
    simp only [quicksetref_SpanHas.l0]
    rw [if_pos (by omega), if_pos (by omega), if_pos (by omega), show wrap64 ((i : Int) + 1) = ((i + 1 : Nat) : Int) from by rw [wrap_id (by omega) (by omega)]; omega, hk]
    by_cases c : (rd_T63 l (i : Int)).f1 > n
    · rw [show firstT l n (d + 1) i = i from by simp only [firstT]; rw [if_pos c]]
      by_cases c0 : (rd_T63 l (i : Int)).f0 ≤ n
      · rw [if_pos c0, if_pos (by omega)]; simp [c0, show i < l.length from by omega]
      · rw [if_neg c0]
        have hs := firstT_spec l n d (i + 1)
        have : ∀ j : Nat, i < j → j < l.length → ¬ (rd_T63 l (j : Int)).f0 ≤ n := fun j h1 h2 => by
          have h3 := mayB_next hm i (by omega)
          have h4 := mayB_mono hm i (j - 1 - i) (by omega)
          rw [show i + (j - 1 - i) = j - 1 from by omega] at h4
          have h5 := mayB_next hm (j - 1) (by omega)
          rw [show j - 1 + 1 = j from by omega] at h5
          omega
        by_cases c2 : firstT l n d (i + 1) < l.length
        · have := this _ (by omega) c2
          simp [c0, this]
        · simp [c0, c2]
    · rw [show firstT l n (d + 1) i = firstT l n d (i + 1) from by simp only [firstT]; rw [if_neg c]]
      by_cases c0 : (rd_T63 l (i : Int)).f0 ≤ n
      · rw [if_pos c0, if_neg (by omega)]
      · rw [if_neg c0]
theorem refhas_is (l : List S63) (n : Int) (hl : l.length < 1000000000000000) : ∃ k, quicksetref_SpanHas.f k l n = some (mayB l && hasB l n) := by
  obtain ⟨k0, hk0⟩ := refmay_is l hl
  cases hm : mayB l with
  | false =>
    refine ⟨k0, ?_⟩
    unfold quicksetref_SpanHas.f
    rw [hk0, bsome, hm]
    rfl
  | true =>
    obtain ⟨k, hk1, hk2⟩ := together (fun k => quicksetref_SpanMay.mono l k) (fun k => quicksetref_SpanHas.mono_l k n l _ _) ⟨k0, hk0⟩ (refhas_loop l n hm hl l.length 0 (by omega))
    refine ⟨k, ?_⟩
    unfold quicksetref_SpanHas.f
    rw [hk1, bsome, hm, if_pos rfl, show (0 : Int) = ((0 : Nat) : Int) from rfl, hk2]
    simp [hasB]
theorem SpanHases (l0 : List S63) (h0 : l0.length * 16 ≤ 140737488351232) (h1 : ∀ x ∈ l0, ((Lit.int .i64 x.f0).wf = true ∧ (Lit.int .i64 x.f1).wf = true)) (a1 : Int) (h2 : (Lit.int .i64 a1).wf = true) : ∃ k, quicksetlaw_SpanHases.f k l0 a1 = some true := by
  obtain ⟨k, h1, h2⟩ := together (fun k => span_Has.mono l0 a1 k) (fun k => quicksetref_SpanHas.mono l0 a1 k) (has_is l0 a1 (by omega)) (refhas_is l0 a1 (by omega))
  refine ⟨k, ?_⟩
  unfold quicksetlaw_SpanHases.f
  rw [h1, h2, bsome, bsome]
  simp

end Go.Proofs.Ytgibkbiofdmiaaa.Pure
