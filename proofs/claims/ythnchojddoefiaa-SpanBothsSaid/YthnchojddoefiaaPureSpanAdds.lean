/- SpanAdds, SpanCuts, SpanBoths: the two answers are one, over plain numbers and lists, for every argument; no conditions. -/
import Derived.Test.YthnchojddoefiaaQSpanAddsx7
import Derived.Test.YthnchojddoefiaaQSpanAddsx8
set_option linter.unusedVariables false
set_option linter.unusedSimpArgs false
namespace Go.Proofs.Ythnchojddoefiaa.Pure
open Go.Proofs.Ythnchojddoefiaa.QSpanAdds Go.RowKit Go.Proofs.YthnchojddoefiaaW.PrintWords Go.Proofs.YthnchojddoefiaaW.PrintLast Go.Proofs.YthnchojddoefiaaW.PrintMore
theorem bsome {α β : Type} (x : α) (f : α → Option β) : (some x).bind f = f x := by
  have h : ∀ o, o = some x → o.bind f = f x := by
    intro o ho
    subst ho
    rfl
  exact h _ rfl
theorem wf64 {a : Int} (h : (Lit.int .i64 a).wf = true) : -9223372036854775808 ≤ a ∧ a ≤ 9223372036854775807 := by
  simp only [Lit.wf, IntKind.min, IntKind.max, IntKind.signed, IntKind.bits, Bool.and_eq_true, decide_eq_true_eq, if_true] at h
  omega
theorem wrap_id {n : Int} (h0 : -9223372036854775808 ≤ n) (h1 : n ≤ 9223372036854775807) : wrap64 n = n := by unfold wrap64; omega
theorem wrap01 : wrap64 (0 + 1) = 1 := wrap_id (n := 0 + 1) (by decide) (by decide)
/-! What may be a list of ranges -/
def okR (x : S79) : Bool := decide (0 ≤ x.f0 ∧ x.f0 < x.f1 ∧ x.f1 ≤ 1048576)
def goP (l : List S79) : Nat → Nat → Bool
  | 0, _ => decide (l.length ≤ 200)
  | d + 1, i => okR (rd_T79 l i) && (decide (i = 0) || decide ((rd_T79 l ((i - 1 : Nat) : Int)).f1 < (rd_T79 l i).f0)) && goP l d (i + 1)
def goR (l : List S79) : Nat → Nat → Bool
  | 0, _ => true
  | d + 1, i => okR (rd_T79 l i) && (decide (l.length ≤ i + 1) || decide ((rd_T79 l i).f1 < (rd_T79 l ((i + 1 : Nat) : Int)).f0)) && goR l d (i + 1)
def mayB (l : List S79) : Bool := decide (l.length ≤ 200) && goR l l.length 0
theorem goP_iff (l : List S79) : ∀ d i, goP l d i = true ↔ l.length ≤ 200 ∧ ∀ j, i ≤ j → j < i + d → okR (rd_T79 l j) = true ∧ (j = 0 ∨ (rd_T79 l ((j - 1 : Nat) : Int)).f1 < (rd_T79 l j).f0)
  | 0, i => by
    simp only [goP, decide_eq_true_eq]
    exact ⟨fun h => ⟨h, fun j h1 h2 => by omega⟩, fun h => h.1⟩
  | d + 1, i => by
    simp only [goP, Bool.and_eq_true, Bool.or_eq_true, decide_eq_true_eq, goP_iff l d (i + 1)]
    constructor
    · rintro ⟨⟨h1, h2⟩, h3, h4⟩
      refine ⟨h3, fun j hj hk => ?_⟩
      rcases Nat.eq_or_lt_of_le hj with e | e
      · subst e; exact ⟨h1, h2⟩
      · exact h4 j (by omega) (by omega)
    · rintro ⟨h3, h4⟩
      exact ⟨h4 i (Nat.le_refl _) (by omega), h3, fun j hj hk => h4 j (by omega) (by omega)⟩
theorem goR_iff (l : List S79) : ∀ d i, goR l d i = true ↔ ∀ j, i ≤ j → j < i + d → okR (rd_T79 l j) = true ∧ (l.length ≤ j + 1 ∨ (rd_T79 l j).f1 < (rd_T79 l ((j + 1 : Nat) : Int)).f0)
  | 0, i => by
    simp only [goR, true_iff]
    exact fun j h1 h2 => by omega
  | d + 1, i => by
    simp only [goR, Bool.and_eq_true, Bool.or_eq_true, decide_eq_true_eq, goR_iff l d (i + 1)]
    constructor
    · rintro ⟨⟨h1, h2⟩, h4⟩
      refine fun j hj hk => ?_
      rcases Nat.eq_or_lt_of_le hj with e | e
      · subst e; exact ⟨h1, h2⟩
      · exact h4 j (by omega) (by omega)
    · intro h4
      exact ⟨h4 i (Nat.le_refl _) (by omega), fun j hj hk => h4 j (by omega) (by omega)⟩
theorem goP_is (l : List S79) : goP l l.length 0 = mayB l := by
  rw [Bool.eq_iff_iff, goP_iff]
  simp only [mayB, Bool.and_eq_true, decide_eq_true_eq, goR_iff]
  constructor
  · rintro ⟨h1, h2⟩
    refine ⟨h1, fun j _ hj => ⟨(h2 j (Nat.zero_le _) hj).1, ?_⟩⟩
    rcases Nat.lt_or_ge (j + 1) l.length with h | h
    · right
      have := (h2 (j + 1) (Nat.zero_le _) (by omega)).2
      rcases this with h' | h'
      · omega
      · simpa using h'
    · exact .inl h
  · rintro ⟨h1, h2⟩
    refine ⟨h1, fun j _ hj => ⟨(h2 j (Nat.zero_le _) hj).1, ?_⟩⟩
    rcases Nat.eq_zero_or_pos j with h | h
    · exact .inl h
    · right
      have := (h2 (j - 1) (Nat.zero_le _) (by omega)).2
      rcases this with h' | h'
      · omega
      · rw [show j - 1 + 1 = j from by omega] at h'
        exact h'
theorem mayB_len {l : List S79} (h : mayB l = true) : l.length ≤ 200 := by
  simp only [mayB, Bool.and_eq_true, decide_eq_true_eq] at h
  exact h.1
theorem mayB_at {l : List S79} (h : mayB l = true) (j : Nat) (hj : j < l.length) : 0 ≤ (rd_T79 l j).f0 ∧ (rd_T79 l j).f0 < (rd_T79 l j).f1 ∧ (rd_T79 l j).f1 ≤ 1048576 := by
  simp only [mayB, Bool.and_eq_true, goR_iff] at h
  have := (h.2 j (Nat.zero_le _) (by omega)).1
  simpa [okR] using this
theorem mayB_next {l : List S79} (h : mayB l = true) (j : Nat) (hj : j + 1 < l.length) : (rd_T79 l j).f1 < (rd_T79 l ((j + 1 : Nat) : Int)).f0 := by
  simp only [mayB, Bool.and_eq_true, goR_iff] at h
  rcases (h.2 j (Nat.zero_le _) (by omega)).2 with h' | h'
  · omega
  · exact h'
theorem one_is (a b : Int) : span_one.f a b = some (decide (0 ≤ a ∧ a < b ∧ b ≤ 1048576)) := by
  unfold span_one.f
  repeat' split
  all_goals (congr 1; first | (rw [decide_eq_decide]; omega) | (symm; rw [decide_eq_false_iff_not]; omega))
theorem may_loop (l : List S79) (hl : l.length < 1000000000000000) : ∀ (d i : Nat), i + d = l.length → ∃ k, span_May.l0 k l l (l.length : Int) (i : Int) = some (goP l d i) := by
  intro d
  induction d with
  | zero =>
    intro i hi
    refine ⟨1, ?_⟩
    simp only [span_May.l0, goP]
    rw [if_neg (by omega), show decide ((l.length : Int) ≤ 200) = decide (l.length ≤ 200) from by rw [decide_eq_decide]; omega]
  | succ d ih =>
    intro i hi
    obtain ⟨k, hk⟩ := ih (i + 1) (by omega)
    refine ⟨k + 1, ?_⟩
    simp only [span_May.l0, goP]
    rw [if_pos (by omega), if_pos (by omega), if_pos (by omega), one_is, bsome]
    have hok : decide (0 ≤ (rd_T79 l (i : Int)).f0 ∧ (rd_T79 l (i : Int)).f0 < (rd_T79 l (i : Int)).f1 ∧ (rd_T79 l (i : Int)).f1 ≤ 1048576) = okR (rd_T79 l (i : Int)) := rfl
    rw [hok]
    cases ho : okR (rd_T79 l (i : Int)) with
    | false => simp
    | true =>
      rw [if_pos rfl, Bool.true_and]
      have hw : wrap64 ((i : Int) + 1) = ((i + 1 : Nat) : Int) := by rw [wrap_id (by omega) (by omega)]; omega
      by_cases h0 : i = 0
      · subst h0
        rw [if_neg (by omega), hw, hk]
        simp
      · have hw' : wrap64 ((i : Int) - 1) = ((i - 1 : Nat) : Int) := by rw [wrap_id (by omega) (by omega)]; omega
        rw [if_pos (by omega), hw', if_pos (by omega), if_pos (by omega), hw, hk]
        by_cases hc : (rd_T79 l ((i - 1 : Nat) : Int)).f1 < (rd_T79 l (i : Int)).f0
        · rw [if_neg (by omega)]; simp [hc]
        · rw [if_pos (by omega)]; simp [h0, hc]
theorem may_is (l : List S79) (hl : l.length < 1000000000000000) : ∃ k, span_May.f k l = some (mayB l) := by
  obtain ⟨k, hk⟩ := may_loop l hl l.length 0 (by omega)
  rw [goP_is] at hk
  exact ⟨k, hk⟩
theorem rmay_is (a b : Int) : quicksetref_RangeMay.f a b = some (decide (0 ≤ a ∧ a < b ∧ b ≤ 1048576)) := by
  unfold quicksetref_RangeMay.f
  repeat' split
  all_goals (congr 1; first | (rw [decide_eq_decide]; omega) | (symm; rw [decide_eq_false_iff_not]; omega))
theorem refmay_loop (l : List S79) (hl : l.length < 1000000000000000) : ∀ (d i : Nat), i + d = l.length → ∃ k, quicksetref_SpanMay.l0 k l (i : Int) = some (goR l d i) := by
  intro d
  induction d with
  | zero =>
    intro i hi
    refine ⟨1, ?_⟩
    simp only [quicksetref_SpanMay.l0, goR]
    rw [if_neg (by omega)]
  | succ d ih =>
    intro i hi
    obtain ⟨k, hk⟩ := ih (i + 1) (by omega)
    refine ⟨k + 1, ?_⟩
    simp only [quicksetref_SpanMay.l0, goR]
    rw [if_pos (by omega), if_pos (by omega), rmay_is, bsome]
    have hok : decide (0 ≤ (rd_T79 l (i : Int)).f0 ∧ (rd_T79 l (i : Int)).f0 < (rd_T79 l (i : Int)).f1 ∧ (rd_T79 l (i : Int)).f1 ≤ 1048576) = okR (rd_T79 l (i : Int)) := rfl
    rw [hok]
    cases ho : okR (rd_T79 l (i : Int)) with
    | false => simp
    | true =>
      rw [if_pos rfl, Bool.true_and]
      have hw : wrap64 ((i : Int) + 1) = ((i + 1 : Nat) : Int) := by rw [wrap_id (by omega) (by omega)]; omega
      rw [hw, hk]
      by_cases h0 : i + 1 < l.length
      · rw [if_pos (by omega), if_pos (by omega)]
        by_cases hc : (rd_T79 l (i : Int)).f1 < (rd_T79 l ((i + 1 : Nat) : Int)).f0
        · rw [if_neg (by omega), decide_eq_true hc]; simp
        · rw [if_pos (by omega), decide_eq_false hc, decide_eq_false (by omega)]; simp
      · rw [if_neg (by omega), decide_eq_true (show l.length ≤ i + 1 by omega)]
        simp
theorem refmay_is (l : List S79) (hl : l.length < 1000000000000000) : ∃ k, quicksetref_SpanMay.f k l = some (mayB l) := by
  obtain ⟨k, hk⟩ := refmay_loop l hl l.length 0 (by omega)
  refine ⟨k, ?_⟩
  unfold quicksetref_SpanMay.f mayB
  by_cases h : l.length ≤ 200
  · rw [if_neg (by omega), decide_eq_true h, Bool.true_and]; exact hk
  · rw [if_pos (by omega), decide_eq_false h, Bool.false_and]
theorem T_get (l : List S79) (i : Nat) (h : i < l.length) : rd_T79 l (i : Int) = l[i] := by
  show l.getD ((i : Nat) : Int).toNat z79 = _
  rw [Int.toNat_natCast, List.getD_eq_getElem?_getD, List.getElem?_eq_getElem h]
  rfl
theorem mayB_mono {l : List S79} (h : mayB l = true) (i : Nat) : ∀ d, i + d < l.length → (rd_T79 l (i : Int)).f1 ≤ (rd_T79 l ((i + d : Nat) : Int)).f1
  | 0, _ => Int.le_refl _
  | d + 1, hd => by
    have h1 := mayB_mono h i d (by omega)
    have h2 := mayB_next h (i + d) (by omega)
    have h3 := mayB_at h (i + d + 1) (by omega)
    rw [show i + (d + 1) = i + d + 1 from rfl]
    omega
theorem fine_of_may {l : List S79} (h : mayB l = true) : Fine l := by
  refine ⟨fun r hr => ?_, List.pairwise_iff_getElem.2 (fun i j hi hj hij => ?_)⟩
  · obtain ⟨i, hi, rfl⟩ := List.getElem_of_mem hr
    have := mayB_at h i hi
    rw [T_get l i hi] at this
    exact ⟨this.1, this.2.1⟩
  · have h1 := mayB_mono h i (j - 1 - i) (by omega)
    have h2 := mayB_next h (j - 1) (by omega)
    rw [show i + (j - 1 - i) = j - 1 from by omega] at h1
    rw [show j - 1 + 1 = j from by omega] at h2
    rw [T_get l i hi] at h1
    rw [T_get l j hj] at h2
    omega
theorem tld_len (l : List S79) : (tld l).1.length ≤ 200 := by
  unfold tld
  split
  · simp
  · rename_i h
    show l.length ≤ 200
    omega
theorem same_is (l : List S79) (hl : l.length ≤ 5000) : ∀ (n : Nat) (i : Int), 0 ≤ i → i + n = (l.length : Int) → ∃ k, quicksetlaw_sameRanges.l0 k l l i = some true
  | 0, i, h0, h1 => ⟨1, by rw [quicksetlaw_sameRanges.l0, if_neg (by omega)]⟩
  | n + 1, i, h0, h1 => by
    obtain ⟨k, hk⟩ := same_is l hl n (i + 1) (by omega) (by omega)
    refine ⟨k + 1, ?_⟩
    rw [quicksetlaw_sameRanges.l0, if_pos (by omega), if_pos h0, if_pos (by omega), if_neg (by simp), wrap_id (by omega) (by omega)]
    exact hk
theorem finAdd (l0 : List S79) (a b : Int) (out : List S79) (e : Int) (hl : out.length ≤ 5000) (hp : ∃ k, span_Add.f k l0 a b = some (out, e)) (hr : ∃ k, quicksetref_SpanAdd.f k l0 a b = some (out, e)) : ∃ k, quicksetlaw_SpanAdds.f k l0 a b = some true := by
  obtain ⟨k1, h1⟩ := hp
  obtain ⟨k2, h2⟩ := hr
  obtain ⟨k3, h3⟩ := same_is out hl out.length 0 (by omega) (by omega)
  refine ⟨max k1 (max k2 k3), ?_⟩
  have g1 := at_rounds (fun k => span_Add.mono l0 a b k) (show k1 ≤ max k1 (max k2 k3) by omega) h1
  have g2 := at_rounds (fun k => quicksetref_SpanAdd.mono l0 a b k) (show k2 ≤ max k1 (max k2 k3) by omega) h2
  have g3 := at_rounds (fun k => quicksetlaw_sameRanges.mono_l k out out 0) (show k3 ≤ max k1 (max k2 k3) by omega) h3
  unfold quicksetlaw_SpanAdds.f
  rw [g1, g2, bsome, bsome]
  unfold quicksetlaw_sameRanges.f
  show ((if (out.length : Int) = (out.length : Int) then _ else _ : Option Bool)).bind _ = _
  rw [if_pos rfl, g3, bsome, if_pos rfl]
  simp
theorem SpanAdds (l0 : List S79) (h0 : l0.length * 16 ≤ 140737488351232) (h1 : ∀ x ∈ l0, ((Lit.int .i64 x.f0).wf = true ∧ (Lit.int .i64 x.f1).wf = true)) (a : Int) (w1 : (Lit.int .i64 a).wf = true) (b : Int) (w2 : (Lit.int .i64 b).wf = true) : ∃ k, quicksetlaw_SpanAdds.f k l0 a b = some true := by
  obtain ⟨k1, m1⟩ := may_is l0 (by omega)
  obtain ⟨k2, m2⟩ := refmay_is l0 (by omega)
  have r1 := one_is a b
  have r2 := rmay_is a b
  cases hm : mayB l0 with
  | false =>
    rw [hm] at m1 m2
    exact finAdd l0 a b [] 4 (by simp) ⟨k1, by unfold span_Add.f; rw [m1, bsome, if_neg (by simp)]⟩ ⟨k2, by unfold quicksetref_SpanAdd.f; rw [m2, bsome, if_neg (by simp)]⟩
  | true =>
    rw [hm] at m1 m2
    by_cases hr : 0 ≤ a ∧ a < b ∧ b ≤ 1048576
    · rw [decide_eq_true hr] at r1 r2
      have hlen := mayB_len hm
      have e := swp_is sAdd.want 1 (1) (.inl rfl) (.inl rfl) (sAdd.so l0 [⟨a, b⟩]) l0 [⟨a, b⟩] (fine_of_may hm) (fine_one ⟨a, b⟩ ⟨hr.1, hr.2.1⟩) (fun p => by
        unfold sAdd.want sAdd.so
        cases inB l0 p <;> cases inB [(⟨a, b⟩ : S79)] p <;> decide) (fun p q1 q2 => by unfold sAdd.so; rw [q1, q2]; rfl)
      exact finAdd l0 a b (tld (th (sAdd.so l0 [⟨a, b⟩]) (endsF [l0, [⟨a, b⟩]] []) [])).1 (tld (th (sAdd.so l0 [⟨a, b⟩]) (endsF [l0, [⟨a, b⟩]] []) [])).2 (Nat.le_trans (tld_len _) (by decide)) ⟨k1, by unfold span_Add.f; rw [m1, bsome, if_pos rfl, r1, bsome, if_pos rfl, if_pos hlen, e]⟩ ⟨k2, by unfold quicksetref_SpanAdd.f; rw [m2, bsome, if_pos rfl, r2, bsome, if_pos rfl]⟩
    · rw [decide_eq_false hr] at r1 r2
      exact finAdd l0 a b [] 4 (by simp) ⟨k1, by unfold span_Add.f; rw [m1, bsome, if_pos rfl, r1, bsome, if_neg (by simp)]⟩ ⟨k2, by unfold quicksetref_SpanAdd.f; rw [m2, bsome, if_pos rfl, r2, bsome, if_neg (by simp)]⟩
theorem finCut (l0 : List S79) (a b : Int) (out : List S79) (e : Int) (hl : out.length ≤ 5000) (hp : ∃ k, span_Cut.f k l0 a b = some (out, e)) (hr : ∃ k, quicksetref_SpanCut.f k l0 a b = some (out, e)) : ∃ k, quicksetlaw_SpanCuts.f k l0 a b = some true := by
  obtain ⟨k1, h1⟩ := hp
  obtain ⟨k2, h2⟩ := hr
  obtain ⟨k3, h3⟩ := same_is out hl out.length 0 (by omega) (by omega)
  refine ⟨max k1 (max k2 k3), ?_⟩
  have g1 := at_rounds (fun k => span_Cut.mono l0 a b k) (show k1 ≤ max k1 (max k2 k3) by omega) h1
  have g2 := at_rounds (fun k => quicksetref_SpanCut.mono l0 a b k) (show k2 ≤ max k1 (max k2 k3) by omega) h2
  have g3 := at_rounds (fun k => quicksetlaw_sameRanges.mono_l k out out 0) (show k3 ≤ max k1 (max k2 k3) by omega) h3
  unfold quicksetlaw_SpanCuts.f
  rw [g1, g2, bsome, bsome]
  unfold quicksetlaw_sameRanges.f
  show ((if (out.length : Int) = (out.length : Int) then _ else _ : Option Bool)).bind _ = _
  rw [if_pos rfl, g3, bsome, if_pos rfl]
  simp
theorem SpanCuts (l0 : List S79) (h0 : l0.length * 16 ≤ 140737488351232) (h1 : ∀ x ∈ l0, ((Lit.int .i64 x.f0).wf = true ∧ (Lit.int .i64 x.f1).wf = true)) (a : Int) (w1 : (Lit.int .i64 a).wf = true) (b : Int) (w2 : (Lit.int .i64 b).wf = true) : ∃ k, quicksetlaw_SpanCuts.f k l0 a b = some true := by
  obtain ⟨k1, m1⟩ := may_is l0 (by omega)
  obtain ⟨k2, m2⟩ := refmay_is l0 (by omega)
  have r1 := one_is a b
  have r2 := rmay_is a b
  cases hm : mayB l0 with
  | false =>
    rw [hm] at m1 m2
    exact finCut l0 a b [] 4 (by simp) ⟨k1, by unfold span_Cut.f; rw [m1, bsome, if_neg (by simp)]⟩ ⟨k2, by unfold quicksetref_SpanCut.f; rw [m2, bsome, if_neg (by simp)]⟩
  | true =>
    rw [hm] at m1 m2
    by_cases hr : 0 ≤ a ∧ a < b ∧ b ≤ 1048576
    · rw [decide_eq_true hr] at r1 r2
      have hlen := mayB_len hm
      have e := swp_is sCut.want 1 (-1) (.inl rfl) (.inr rfl) (sCut.so l0 [⟨a, b⟩]) l0 [⟨a, b⟩] (fine_of_may hm) (fine_one ⟨a, b⟩ ⟨hr.1, hr.2.1⟩) (fun p => by
        unfold sCut.want sCut.so
        cases inB l0 p <;> cases inB [(⟨a, b⟩ : S79)] p <;> decide) (fun p q1 q2 => by unfold sCut.so; rw [q1, q2]; rfl)
      exact finCut l0 a b (tld (th (sCut.so l0 [⟨a, b⟩]) (endsF [l0, [⟨a, b⟩]] []) [])).1 (tld (th (sCut.so l0 [⟨a, b⟩]) (endsF [l0, [⟨a, b⟩]] []) [])).2 (Nat.le_trans (tld_len _) (by decide)) ⟨k1, by unfold span_Cut.f; rw [m1, bsome, if_pos rfl, r1, bsome, if_pos rfl, if_pos hlen, e]⟩ ⟨k2, by unfold quicksetref_SpanCut.f; rw [m2, bsome, if_pos rfl, r2, bsome, if_pos rfl]⟩
    · rw [decide_eq_false hr] at r1 r2
      exact finCut l0 a b [] 4 (by simp) ⟨k1, by unfold span_Cut.f; rw [m1, bsome, if_pos rfl, r1, bsome, if_neg (by simp)]⟩ ⟨k2, by unfold quicksetref_SpanCut.f; rw [m2, bsome, if_pos rfl, r2, bsome, if_neg (by simp)]⟩
theorem finBoth (l0 : List S79) (l1 : List S79) (out : List S79) (e : Int) (hl : out.length ≤ 5000) (hp : ∃ k, span_Both.f k l0 l1 = some (out, e)) (hr : ∃ k, quicksetref_SpanBoth.f k l0 l1 = some (out, e)) : ∃ k, quicksetlaw_SpanBoths.f k l0 l1 = some true := by
  obtain ⟨k1, h1⟩ := hp
  obtain ⟨k2, h2⟩ := hr
  obtain ⟨k3, h3⟩ := same_is out hl out.length 0 (by omega) (by omega)
  refine ⟨max k1 (max k2 k3), ?_⟩
  have g1 := at_rounds (fun k => span_Both.mono l0 l1 k) (show k1 ≤ max k1 (max k2 k3) by omega) h1
  have g2 := at_rounds (fun k => quicksetref_SpanBoth.mono l0 l1 k) (show k2 ≤ max k1 (max k2 k3) by omega) h2
  have g3 := at_rounds (fun k => quicksetlaw_sameRanges.mono_l k out out 0) (show k3 ≤ max k1 (max k2 k3) by omega) h3
  unfold quicksetlaw_SpanBoths.f
  rw [g1, g2, bsome, bsome]
  unfold quicksetlaw_sameRanges.f
  show ((if (out.length : Int) = (out.length : Int) then _ else _ : Option Bool)).bind _ = _
  rw [if_pos rfl, g3, bsome, if_pos rfl]
  simp
theorem SpanBoths (l0 : List S79) (h0 : l0.length * 16 ≤ 140737488351232) (h1 : ∀ x ∈ l0, ((Lit.int .i64 x.f0).wf = true ∧ (Lit.int .i64 x.f1).wf = true)) (l1 : List S79) (h2 : l1.length * 16 ≤ 140737488351232) (h3 : ∀ x ∈ l1, ((Lit.int .i64 x.f0).wf = true ∧ (Lit.int .i64 x.f1).wf = true)) : ∃ k, quicksetlaw_SpanBoths.f k l0 l1 = some true := by
  obtain ⟨k1, m1⟩ := may_is l0 (by omega)
  obtain ⟨k2, m2⟩ := refmay_is l0 (by omega)
  obtain ⟨k3, m3⟩ := may_is l1 (by omega)
  obtain ⟨k4, m4⟩ := refmay_is l1 (by omega)
  have m1 := at_rounds (fun k => span_May.mono l0 k) (show k1 ≤ max k1 k3 by omega) m1
  have m3 := at_rounds (fun k => span_May.mono l1 k) (show k3 ≤ max k1 k3 by omega) m3
  have m2 := at_rounds (fun k => quicksetref_SpanMay.mono l0 k) (show k2 ≤ max k2 k4 by omega) m2
  have m4 := at_rounds (fun k => quicksetref_SpanMay.mono l1 k) (show k4 ≤ max k2 k4 by omega) m4
  generalize max k1 k3 = k at m1 m3
  generalize max k2 k4 = q at m2 m4
  cases hm : mayB l0 with
  | false =>
    rw [hm] at m1 m2
    exact finBoth l0 l1 [] 4 (by simp) ⟨k, by unfold span_Both.f; rw [m1, bsome, if_neg (by simp)]⟩ ⟨q, by unfold quicksetref_SpanBoth.f; rw [m2, bsome, if_neg (by simp)]⟩
  | true =>
    rw [hm] at m1 m2
    cases hn : mayB l1 with
    | false =>
      rw [hn] at m3 m4
      exact finBoth l0 l1 [] 4 (by simp) ⟨k, by unfold span_Both.f; rw [m1, bsome, if_pos rfl, m3, bsome, if_neg (by simp)]⟩ ⟨q, by unfold quicksetref_SpanBoth.f; rw [m2, bsome, if_pos rfl, m4, bsome, if_neg (by simp)]⟩
    | true =>
      rw [hn] at m3 m4
      have hlen := mayB_len hm
      have hlen1 := mayB_len hn
      have e := swp_is sBoth.want 1 1 (.inl rfl) (.inl rfl) (sBoth.so l0 l1) l0 l1 (fine_of_may hm) (fine_of_may hn) (fun p => by
        unfold sBoth.want sBoth.so
        cases inB l0 p <;> cases inB l1 p <;> decide) (fun p q1 q2 => by unfold sBoth.so; rw [q1, q2]; rfl)
      exact finBoth l0 l1 (tld (th (sBoth.so l0 l1) (endsF [l0, l1] []) [])).1 (tld (th (sBoth.so l0 l1) (endsF [l0, l1] []) [])).2 (Nat.le_trans (tld_len _) (by decide)) ⟨k, by unfold span_Both.f; rw [m1, bsome, if_pos rfl, m3, bsome, if_pos rfl, if_pos hlen, if_pos hlen1, e]⟩ ⟨q, by unfold quicksetref_SpanBoth.f; rw [m2, bsome, if_pos rfl, m4, bsome, if_pos rfl]⟩
end Go.Proofs.Ythnchojddoefiaa.Pure
