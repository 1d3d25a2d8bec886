/- The columns of a block: the two answers are one, and what they say, over plain numbers; no conditions. -/
import Derived.Test.YtpaenlplpaabjaaStripeR
set_option linter.unusedVariables false
set_option linter.unusedSimpArgs false
namespace Go.Proofs.Ytpaenlplpaabjaa.Geo
open Go.Proofs.Ytpaenlplpaabjaa.QStripeLays Go.RowKit Go.Proofs.YtpaenlplpaabjaaW.PrintWords Go.Proofs.YtpaenlplpaabjaaW.PrintLast Go.Proofs.YtpaenlplpaabjaaW.PrintMore
theorem wrap_id {n : Int} (h0 : -9223372036854775808 ≤ n) (h1 : n ≤ 9223372036854775807) : wrap64 n = n := by unfold wrap64; omega
theorem shape_is (d p : Int) : geom_shape_may.f d p = some (decide (2 ≤ d ∧ d ≤ 8 ∧ 1 ≤ p ∧ p ≤ 3 ∧ p < d)) := by
  unfold geom_shape_may.f
  repeat' split
  all_goals (congr 1; first | (rw [decide_eq_decide]; omega) | (symm; rw [decide_eq_false_iff_not]; omega))
theorem bad_is (d p : Int) : quicksetref_badShape.f d p = some (!decide (2 ≤ d ∧ d ≤ 8 ∧ 1 ≤ p ∧ p ≤ 3 ∧ p < d)) := by
  unfold quicksetref_badShape.f
  repeat' split
  all_goals (congr 1; rw [← decide_not]; first | (rw [decide_eq_decide]; omega) | (symm; rw [decide_eq_true_eq]; omega))
theorem counted_is (c : Int) : geom_counted.f c = some (decide (1 ≤ c ∧ c ≤ 32)) := by
  unfold geom_counted.f
  repeat' split
  all_goals (congr 1; first | (rw [decide_eq_decide]; omega) | (symm; rw [decide_eq_false_iff_not]; omega))
theorem addressed_is (a : Int) : geom_addressed.f a = some (decide (0 ≤ a ∧ a ≤ 65536)) := by
  unfold geom_addressed.f
  repeat' split
  all_goals (congr 1; first | (rw [decide_eq_decide]; omega) | (symm; rw [decide_eq_false_iff_not]; omega))

def col (d p a : Int) (c : Nat) (n : Int) : S87 := ⟨(a + c) % d, (a + c) / d, n, decide ((c : Int) < p)⟩
def cols (d p a : Int) (n : Nat) (g : Nat → Int) : List S87 := (List.range n).map fun c => col d p a c (g c)
theorem cols_length (d p a : Int) (n : Nat) (g : Nat → Int) : (cols d p a n g).length = n := by simp [cols]
theorem cols_snoc (d p a : Int) (n : Nat) (g : Nat → Int) : cols d p a n g ++ [col d p a n (g n)] = cols d p a (n + 1) g := by simp [cols, List.range_succ]
theorem cols_congr (d p a : Int) (n : Nat) {g g' : Nat → Int} (h : ∀ i, i < n → g i = g' i) : cols d p a n g = cols d p a n g' := by
  unfold cols
  apply List.map_congr_left
  intro i hi
  rw [h i (List.mem_range.1 hi)]
theorem rd_cols (d p a : Int) (n : Nat) (g : Nat → Int) (i : Nat) (h : i < n) : rd_T87 (cols d p a n g) (i : Int) = col d p a i (g i) := by
  simp [rd_T87, cols, h]
theorem set_cols (d p a : Int) (n : Nat) (g : Nat → Int) (i : Nat) (m : Int) : (cols d p a n g).set i (col d p a i m) = cols d p a n (fun j => if j = i then m else g j) := by
  apply List.ext_getElem
  · simp [cols]
  · intro j h1 h2
    simp only [cols, List.getElem_set, List.getElem_map, List.getElem_range]
    by_cases e : i = j
    · subst e; simp
    · rw [if_neg e, if_neg (fun h => e h.symm)]

section
variable {d p a : Int} (hs : 2 ≤ d ∧ d ≤ 8 ∧ 1 ≤ p ∧ p ≤ 3 ∧ p < d) (ha : 0 ≤ a ∧ a ≤ 65536)
include hs ha
theorem col_now (c : Nat) (hc : c < 100) (n : Int) : (⟨Int.tmod (wrap64 (a + c)) d, wrap64 (Int.tdiv (wrap64 (a + c)) d), n, decide ((c : Int) < p)⟩ : S87) = col d p a c n := by
  have q0 : 0 ≤ (a + c) / d := Int.ediv_nonneg (by omega) (by omega)
  have q1 : (a + c) / d ≤ a + c := Int.ediv_le_self d (by omega)
  rw [wrap_id (n := a + c) (by omega) (by omega), Int.tmod_eq_emod_of_nonneg (by omega), Int.tdiv_eq_ediv_of_nonneg (by omega), wrap_id (by omega) (by omega)]
  rfl
theorem prog_loop (q l : Int) (hq : 0 ≤ q ∧ q ≤ 32) (n : Nat) (hn : n ≤ 12) : ∀ (e c : Nat), c + e = n →
    ∃ k, geom_Columns.l0 k d p a q l (cols d p a c (fun i => if (i : Int) < l then q + 1 else q)) (n : Int) (c : Int) = some (cols d p a n (fun i => if (i : Int) < l then q + 1 else q), 0) := by
  intro e
  induction e with
  | zero =>
    intro c hc
    refine ⟨1, ?_⟩
    simp only [geom_Columns.l0]
    rw [if_neg (by omega), show c = n from by omega]
  | succ e ih =>
    intro c hc
    obtain ⟨k, hk⟩ := ih (c + 1) (by omega)
    refine ⟨k + 1, ?_⟩
    simp only [geom_Columns.l0]
    have hc2 : c < 100 := by omega
    have this := cols_snoc d p a c (fun i => if (i : Int) < l then q + 1 else q)
    rw [if_pos (by omega), if_neg (by omega)]
    by_cases hl : (c : Int) < l
    · simp only [if_pos hl] at this
      rw [if_pos hl, cols_length, if_pos (by omega), wrap_id (n := q + 1) (by omega) (by omega), col_now hs ha c hc2, wrap_id (n := (c : Int) + 1) (by omega) (by omega), show ((c : Int) + 1) = ((c + 1 : Nat) : Int) from by omega, this]
      exact hk
    · simp only [if_neg hl] at this
      rw [if_neg hl, cols_length, if_pos (by omega), col_now hs ha c hc2, wrap_id (n := (c : Int) + 1) (by omega) (by omega), show ((c : Int) + 1) = ((c + 1 : Nat) : Int) from by omega, this]
      exact hk
theorem ref_first (cnt : Int) (r : List S87 × Int) (n : Nat) (hn : n ≤ 12) (hk : ∃ k, quicksetref_GeomColumns.l0 k d p a cnt (cols d p a n fun _ => 1) 1 = some r) : ∀ (e c : Nat), c + e = n →
    ∃ k, quicksetref_GeomColumns.l1 k d p a cnt (cols d p a c fun _ => 1) 0 (n : Int) (c : Int) = some r := by
  intro e
  induction e with
  | zero =>
    intro c hc
    obtain ⟨k, hk⟩ := hk
    refine ⟨k + 1, ?_⟩
    simp only [quicksetref_GeomColumns.l1]
    rw [if_neg (by omega), show c = n from by omega, show wrap64 (0 + 1) = 1 from wrap_id (n := 0 + 1) (by decide) (by decide)]
    exact hk
  | succ e ih =>
    intro c hc
    obtain ⟨k, hk⟩ := ih (c + 1) (by omega)
    refine ⟨k + 1, ?_⟩
    simp only [quicksetref_GeomColumns.l1]
    rw [if_pos (by omega), if_pos trivial, if_neg (by omega), cols_length, if_pos (by omega), col_now hs ha c (by omega)]
    simp only [Option.bind_some]
    have e1 : cols d p a c (fun _ => 1) ++ [col d p a c 0] = cols d p a (c + 1) (fun i => if i = c then 0 else 1) := by
      rw [← cols_snoc d p a c (fun i => if i = c then 0 else 1), if_pos rfl]
      congr 1
      apply cols_congr
      intro i hi
      rw [if_neg (by omega)]
    have e2 : (cols d p a (c + 1) (fun i => if i = c then 0 else 1)).set c (col d p a c 1) = cols d p a (c + 1) (fun _ => 1) := by
      rw [set_cols]
      apply cols_congr
      intro i hi
      by_cases h : i = c <;> simp [h]
    rw [e1, cols_length, if_pos (by omega), if_pos (by omega), rd_cols _ _ _ _ _ c (by omega), if_pos rfl]
    simp only [col]
    rw [show wrap64 (0 + 1) = 1 from wrap_id (n := 0 + 1) (by decide) (by decide), wrap_id (n := (c : Int) + 1) (by omega) (by omega), show ((c : Int)).toNat = c from by omega, show ((c : Int) + 1) = ((c + 1 : Nat) : Int) from by omega]
    have e3 := e2
    simp only [col] at e3
    rw [e3]
    exact hk
omit hs ha in
theorem ref_later (cnt j : Int) (hj : 1 ≤ j ∧ j ≤ 32) (r : List S87 × Int) (n m : Nat) (hm : m ≤ n) (hn : n ≤ 12) (g : Nat → Int) (hg : ∀ i, 0 ≤ g i ∧ g i ≤ 100)
    (hk : ∃ k, quicksetref_GeomColumns.l0 k d p a cnt (cols d p a n fun i => if i < m then g i + 1 else g i) (j + 1) = some r) : ∀ (e c : Nat), c + e = m →
    ∃ k, quicksetref_GeomColumns.l1 k d p a cnt (cols d p a n fun i => if i < c then g i + 1 else g i) j (m : Int) (c : Int) = some r := by
  intro e
  induction e with
  | zero =>
    intro c hc
    obtain ⟨k, hk⟩ := hk
    refine ⟨k + 1, ?_⟩
    simp only [quicksetref_GeomColumns.l1]
    rw [if_neg (by omega), show c = m from by omega, wrap_id (n := j + 1) (by omega) (by omega)]
    exact hk
  | succ e ih =>
    intro c hc
    obtain ⟨k, hk⟩ := ih (c + 1) (by omega)
    refine ⟨k + 1, ?_⟩
    have hgc := hg c
    simp only [quicksetref_GeomColumns.l1]
    rw [if_pos (by omega), if_neg (by omega), if_pos (by omega), cols_length, if_pos (by omega), rd_cols _ _ _ _ _ c (by omega), if_neg (by omega)]
    have e2 : (cols d p a n (fun i => if i < c then g i + 1 else g i)).set c (col d p a c (g c + 1)) = cols d p a n (fun i => if i < c + 1 then g i + 1 else g i) := by
      rw [set_cols]
      apply cols_congr
      intro i hi
      by_cases h : i = c
      · subst h; simp
      · by_cases h2 : i < c
        · rw [if_neg h, if_pos h2, if_pos (by omega)]
        · rw [if_neg h, if_neg h2, if_neg (by omega)]
    simp only [col] at e2 ⊢
    rw [wrap_id (n := g c + 1) (by omega) (by omega), wrap_id (n := (c : Int) + 1) (by omega) (by omega), show ((c : Int)).toNat = c from by omega, show ((c : Int) + 1) = ((c + 1 : Nat) : Int) from by omega, e2]
    exact hk
end
theorem prog_is {d p a c : Int} (hs : 2 ≤ d ∧ d ≤ 8 ∧ 1 ≤ p ∧ p ≤ 3 ∧ p < d) (ha : 0 ≤ a ∧ a ≤ 65536) (hc : 1 ≤ c ∧ c ≤ 32) (n : Nat)
    (hn : (n : Int) = if c / (d - p) = 0 then (if c % (d - p) > 0 then c % (d - p) + p else 0) else d) :
    ∃ k, geom_Columns.f k d p a c = some (cols d p a n (fun i => if (i : Int) < (if c % (d - p) > 0 then c % (d - p) + p else 0) then c / (d - p) + 1 else c / (d - p)), 0) := by
  have hw : 1 ≤ d - p := by omega
  have q0 : 0 ≤ c / (d - p) := Int.ediv_nonneg (by omega) (by omega)
  have q1 : c / (d - p) ≤ c := Int.ediv_le_self _ (by omega)
  have r0 : 0 ≤ c % (d - p) := Int.emod_nonneg _ (by omega)
  have r1 : c % (d - p) < d - p := Int.emod_lt_of_pos _ (by omega)
  have hn12 : n ≤ 12 := by
    revert hn
    repeat' split
    all_goals omega
  obtain ⟨k, hk⟩ := prog_loop hs ha (c / (d - p)) (if c % (d - p) > 0 then c % (d - p) + p else 0) ⟨q0, by omega⟩ n hn12 n 0 (by omega)
  refine ⟨k + 3, ?_⟩
  unfold geom_Columns.f
  rw [shape_is, decide_eq_true hs, counted_is, decide_eq_true hc, addressed_is, decide_eq_true ha]
  simp only [Option.bind_some, if_true, Bool.not_true, geom_Columns.j0, Bool.false_eq_true, if_false]
  rw [wrap_id (n := d - p) (by omega) (by omega), if_neg (by omega), Int.tmod_eq_emod_of_nonneg (by omega), Int.tdiv_eq_ediv_of_nonneg (by omega), wrap_id (n := c / (d - p)) (by omega) (by omega), wrap_id (n := c % (d - p) + p) (by omega) (by omega)]
  have key : ∀ l : Int, (n : Int) = (if c / (d - p) = 0 then l else d) → geom_Columns.j1 (k + 2) d p a (c / (d - p)) l = geom_Columns.l0 k d p a (c / (d - p)) l ([] : List S87) (n : Int) 0 := by
    intro l hl
    simp only [geom_Columns.j1, geom_Columns.j2]
    by_cases hq : c / (d - p) = 0
    · rw [if_pos hq] at hl ⊢; rw [hl]
    · rw [if_neg hq] at hl ⊢; rw [hl]
  by_cases hr : c % (d - p) > 0
  · have hL : (if c % (d - p) > 0 then c % (d - p) + p else 0) = c % (d - p) + p := if_pos hr
    rw [hL] at hn hk ⊢
    rw [if_pos hr, key _ hn]
    exact hk
  · have hL : (if c % (d - p) > 0 then c % (d - p) + p else 0) = 0 := if_neg hr
    rw [hL] at hn hk ⊢
    rw [if_neg hr, key _ hn]
    exact hk
theorem ref_rows {d p a c : Int} (hs : 2 ≤ d ∧ d ≤ 8 ∧ 1 ≤ p ∧ p ≤ 3 ∧ p < d) (ha : 0 ≤ a ∧ a ≤ 65536) (hc : 1 ≤ c ∧ c ≤ 32) (n : Nat) (hn : (n : Int) = d) : ∀ (e : Nat) (j : Int), j + e = c / (d - p) → 1 ≤ j →
    ∃ k, quicksetref_GeomColumns.l0 k d p a c (cols d p a n fun _ => j) j = some (cols d p a n (fun i => if (i : Int) < (if c % (d - p) > 0 then c % (d - p) + p else 0) then c / (d - p) + 1 else c / (d - p)), 0) := by
  have hw : 1 ≤ d - p := by omega
  have q0 : 0 ≤ c / (d - p) := Int.ediv_nonneg (by omega) (by omega)
  have q1 : c / (d - p) ≤ c := Int.ediv_le_self _ (by omega)
  have r0 : 0 ≤ c % (d - p) := Int.emod_nonneg _ (by omega)
  have r1 : c % (d - p) < d - p := Int.emod_lt_of_pos _ (by omega)
  have hqr : c / (d - p) * (d - p) + c % (d - p) = c := by rw [Int.mul_comm]; exact Int.mul_ediv_add_emod c (d - p)
  have big : ∀ j : Int, 0 ≤ j → j ≤ 40 → 0 ≤ j * (d - p) ∧ j * (d - p) ≤ 400 := by
    intro j h0 h1
    have := Int.mul_le_mul h1 (show d - p ≤ 10 by omega) (by omega) (by omega)
    exact ⟨Int.mul_nonneg h0 (by omega), by omega⟩
  -- what stands behind all rows
  have over : ∀ (j : Int) (l : List S87), c / (d - p) < j ∨ (j = c / (d - p) ∧ c % (d - p) = 0) → 0 ≤ j → j ≤ 40 → quicksetref_GeomColumns.l0 1 d p a c l j = some (l, 0) := by
    intro j l hj h0 h1
    obtain ⟨b0, b1⟩ := big j h0 h1
    have hge : c ≤ j * (d - p) := by
      rcases hj with hj | ⟨rfl, hr⟩
      · have : (c / (d - p) + 1) * (d - p) ≤ j * (d - p) := Int.mul_le_mul_of_nonneg_right (by omega) (by omega)
        rw [Int.add_mul, Int.one_mul] at this
        omega
      · omega
    simp only [quicksetref_GeomColumns.l0]
    rw [wrap_id (n := d - p) (by omega) (by omega), wrap_id (n := j * (d - p)) (by omega) (by omega), if_neg (by omega)]
  intro e
  induction e with
  | zero =>
    intro j hj h1
    have hjq : j = c / (d - p) := by omega
    by_cases hr : c % (d - p) > 0
    · obtain ⟨b0, b1⟩ := big j (by omega) (by omega)
      have hjm : j * (d - p) = c - c % (d - p) := by rw [hjq]; omega
      obtain ⟨m, hm⟩ := Int.eq_ofNat_of_zero_le (show 0 ≤ c % (d - p) + p by omega)
      have ho := over (j + 1) (cols d p a n fun i => if i < m then j + 1 else j) (.inl (by omega)) (by omega) (by omega)
      obtain ⟨k, hk⟩ := ref_later c j ⟨h1, by omega⟩ _ n m (by omega) (by omega) (fun _ => j) (fun _ => ⟨by omega, by omega⟩) ⟨1, ho⟩ m 0 (by omega)
      refine ⟨k + 1, ?_⟩
      simp only [quicksetref_GeomColumns.l0]
      rw [wrap_id (n := d - p) (by omega) (by omega), wrap_id (n := j * (d - p)) (by omega) (by omega), if_pos (by omega), wrap_id (n := c - j * (d - p)) (by omega) (by omega)]
      have hmn : mn (d - p) (c - j * (d - p)) = c % (d - p) := by unfold mn; rw [if_pos (by omega)]; omega
      rw [hmn, wrap_id (n := p + c % (d - p)) (by omega) (by omega), show p + c % (d - p) = (m : Int) from by omega]
      simp only [Nat.not_lt_zero, if_false] at hk
      rw [if_pos hr, ← hjq]
      rw [show ((0 : Nat) : Int) = 0 from rfl] at hk
      refine hk.trans ?_
      congr 2
      apply cols_congr
      intro i hi
      by_cases h : i < m
      · rw [if_pos h, if_pos (by omega)]
      · rw [if_neg h, if_neg (by omega)]
    · refine ⟨1, ?_⟩
      rw [over j _ (.inr ⟨hjq, by omega⟩) (by omega) (by omega), if_neg hr]
      congr 2
      apply cols_congr
      intro i hi
      rw [if_neg (by omega)]
      exact hjq
  | succ e ih =>
    intro j hj h1
    obtain ⟨b0, b1⟩ := big j (by omega) (by omega)
    have hle : j * (d - p) + (d - p) ≤ c / (d - p) * (d - p) := by
      have : (j + 1) * (d - p) ≤ c / (d - p) * (d - p) := Int.mul_le_mul_of_nonneg_right (by omega) (by omega)
      rw [Int.add_mul, Int.one_mul] at this
      omega
    obtain ⟨k0, hk0⟩ := ih (j + 1) (by omega) (by omega)
    have hk1 : ∃ k, quicksetref_GeomColumns.l0 k d p a c (cols d p a n fun i => if i < n then j + 1 else j) (j + 1) = some (cols d p a n (fun i => if (i : Int) < (if c % (d - p) > 0 then c % (d - p) + p else 0) then c / (d - p) + 1 else c / (d - p)), 0) := by
      refine ⟨k0, ?_⟩
      rw [cols_congr d p a n (g' := fun _ => j + 1) (fun i hi => if_pos hi)]
      exact hk0
    obtain ⟨k, hk⟩ := ref_later c j ⟨h1, by omega⟩ _ n n (Nat.le_refl _) (by omega) (fun _ => j) (fun _ => ⟨by omega, by omega⟩) hk1 n 0 (by omega)
    refine ⟨k + 1, ?_⟩
    simp only [quicksetref_GeomColumns.l0]
    rw [wrap_id (n := d - p) (by omega) (by omega), wrap_id (n := j * (d - p)) (by omega) (by omega), if_pos (by omega), wrap_id (n := c - j * (d - p)) (by omega) (by omega)]
    have hmn : mn (d - p) (c - j * (d - p)) = d - p := by unfold mn; split <;> omega
    rw [hmn, wrap_id (n := p + (d - p)) (by omega) (by omega), show p + (d - p) = (n : Int) from by omega]
    simp only [Nat.not_lt_zero, if_false] at hk
    rw [show ((0 : Nat) : Int) = 0 from rfl] at hk
    exact hk
theorem ref_is {d p a c : Int} (hs : 2 ≤ d ∧ d ≤ 8 ∧ 1 ≤ p ∧ p ≤ 3 ∧ p < d) (ha : 0 ≤ a ∧ a ≤ 65536) (hc : 1 ≤ c ∧ c ≤ 32) (n : Nat)
    (hn : (n : Int) = if c / (d - p) = 0 then (if c % (d - p) > 0 then c % (d - p) + p else 0) else d) :
    ∃ k, quicksetref_GeomColumns.f k d p a c = some (cols d p a n (fun i => if (i : Int) < (if c % (d - p) > 0 then c % (d - p) + p else 0) then c / (d - p) + 1 else c / (d - p)), 0) := by
  have hw : 1 ≤ d - p := by omega
  have q0 : 0 ≤ c / (d - p) := Int.ediv_nonneg (by omega) (by omega)
  have q1 : c / (d - p) ≤ c := Int.ediv_le_self _ (by omega)
  have r0 : 0 ≤ c % (d - p) := Int.emod_nonneg _ (by omega)
  have r1 : c % (d - p) < d - p := Int.emod_lt_of_pos _ (by omega)
  have hqr : c / (d - p) * (d - p) + c % (d - p) = c := by rw [Int.mul_comm]; exact Int.mul_ediv_add_emod c (d - p)
  -- the first row
  have hfirst : ∃ k, quicksetref_GeomColumns.l0 k d p a c ([] : List S87) 0 = some (cols d p a n (fun i => if (i : Int) < (if c % (d - p) > 0 then c % (d - p) + p else 0) then c / (d - p) + 1 else c / (d - p)), 0) := by
    by_cases hq : c / (d - p) = 0
    · have hcr : c % (d - p) = c := by rw [hq, Int.zero_mul] at hqr; omega
      rw [if_pos hq, if_pos (by omega)] at hn
      have hend : quicksetref_GeomColumns.l0 1 d p a c (cols d p a n fun _ => 1) 1 = some (cols d p a n fun _ => 1, 0) := by
        simp only [quicksetref_GeomColumns.l0]
        rw [wrap_id (n := d - p) (by omega) (by omega), wrap_id (n := 1 * (d - p)) (by omega) (by omega), if_neg (by omega)]
      obtain ⟨k, hk⟩ := ref_first hs ha c _ n (by omega) ⟨1, hend⟩ n 0 (by omega)
      refine ⟨k + 1, ?_⟩
      simp only [quicksetref_GeomColumns.l0]
      rw [wrap_id (n := d - p) (by omega) (by omega), show wrap64 (0 * (d - p)) = 0 from by rw [Int.zero_mul]; exact wrap_id (n := 0) (by decide) (by decide), if_pos (by omega), wrap_id (n := c - 0) (by omega) (by omega)]
      have hmn : mn (d - p) (c - 0) = c := by unfold mn; rw [if_pos (by omega)]; omega
      rw [hmn, wrap_id (n := p + c) (by omega) (by omega), show p + c = (n : Int) from by omega]
      refine Eq.trans hk ?_
      congr 2
      apply cols_congr
      intro i hi
      rw [if_pos (show c % (d - p) > 0 by omega), if_pos (by omega), hq]
      rfl
    · rw [if_neg hq] at hn
      obtain ⟨e, he⟩ := Int.eq_ofNat_of_zero_le (show 0 ≤ c / (d - p) - 1 by omega)
      have hrows := ref_rows hs ha hc n hn e 1 (by omega) (by omega)
      obtain ⟨k, hk⟩ := ref_first hs ha c _ n (by omega) hrows n 0 (by omega)
      refine ⟨k + 1, ?_⟩
      have hle : d - p ≤ c := by
        have : 1 * (d - p) ≤ c / (d - p) * (d - p) := Int.mul_le_mul_of_nonneg_right (by omega) (by omega)
        omega
      simp only [quicksetref_GeomColumns.l0]
      rw [wrap_id (n := d - p) (by omega) (by omega), show wrap64 (0 * (d - p)) = 0 from by rw [Int.zero_mul]; exact wrap_id (n := 0) (by decide) (by decide), if_pos (by omega), wrap_id (n := c - 0) (by omega) (by omega)]
      have hmn : mn (d - p) (c - 0) = d - p := by unfold mn; split <;> omega
      rw [hmn, wrap_id (n := p + (d - p)) (by omega) (by omega), show p + (d - p) = (n : Int) from by omega]
      exact hk
  obtain ⟨k, hk⟩ := hfirst
  refine ⟨k + 1, ?_⟩
  unfold quicksetref_GeomColumns.f
  rw [bad_is, decide_eq_true hs]
  simp only [Option.bind_some, Bool.not_true, Bool.false_eq_true, if_false]
  rw [if_neg (by omega), if_neg (by omega), if_neg (by omega), decide_eq_false (by omega)]
  simp only [quicksetref_GeomColumns.j0, Bool.false_eq_true, if_false]
  exact hk
def gN (w p c i : Nat) : Nat := if i < (if 0 < c % w then c % w + p else 0) then c / w + 1 else c / w
def nN (d p c : Nat) : Nat := if c / (d - p) = 0 then (if 0 < c % (d - p) then c % (d - p) + p else 0) else d
def cntsN (d p c : Nat) : List Nat := (List.range (nN d p c)).map (gN (d - p) p c)
def okN (d p c : Nat) : Bool := Nat.blt d 2 || Nat.blt p 1 || Nat.ble d p || Nat.blt c 1 || (Nat.ble p (nN d p c) && Nat.blt 0 (nN d p c) && Nat.ble (nN d p c) 12 && (cntsN d p c).all (fun x => Nat.ble x 64) && ((cntsN d p c).drop p).all (fun x => Nat.blt 0 x && Nat.ble x (gN (d - p) p c 0)) && Nat.blt 0 (gN (d - p) p c 0) && Nat.ble (gN (d - p) p c 0) 32 && Nat.beq (sum ((cntsN d p c).drop p)) c && Nat.ble ((cntsN d p c).drop p).length 12)
def allB (p : Nat → Bool) : Nat → Bool
  | 0 => true
  | n + 1 => p n && allB p n
theorem allB_at {p : Nat → Bool} : ∀ {n : Nat}, allB p n = true → ∀ i, i < n → p i = true
  | 0, _, _, h => absurd h (Nat.not_lt_zero _)
  | n + 1, h, i, hi => by
    rw [allB, Bool.and_eq_true] at h
    rcases Nat.lt_succ_iff_lt_or_eq.1 hi with h1 | h1
    · exact allB_at h.2 i h1
    · rw [h1]; exact h.1
theorem all_ok : allB (fun d => allB (fun p => allB (fun c => okN d p c) 33) 4) 9 = true := by decide +kernel
theorem ok_at {d p c : Nat} (hd : 2 ≤ d) (hd8 : d ≤ 8) (hp : 1 ≤ p) (hp3 : p ≤ 3) (hpd : p < d) (hc : 1 ≤ c) (hc32 : c ≤ 32) :
    p ≤ nN d p c ∧ 0 < nN d p c ∧ nN d p c ≤ 12 ∧ (∀ x ∈ cntsN d p c, x ≤ 64) ∧ (∀ x ∈ (cntsN d p c).drop p, 0 < x ∧ x ≤ gN (d - p) p c 0) ∧ 0 < gN (d - p) p c 0 ∧ gN (d - p) p c 0 ≤ 32 ∧ sum ((cntsN d p c).drop p) = c := by
  have h := allB_at (allB_at (allB_at all_ok d (by omega)) p (by omega)) c (by omega)
  unfold okN at h
  have e1 : Nat.blt d 2 = false := by rw [← Bool.not_eq_true]; intro e; have := Nat.le_of_ble_eq_true e; omega
  have e2 : Nat.blt p 1 = false := by rw [← Bool.not_eq_true]; intro e; have := Nat.le_of_ble_eq_true e; omega
  have e3 : Nat.ble d p = false := by rw [← Bool.not_eq_true]; intro e; have := Nat.le_of_ble_eq_true e; omega
  have e4 : Nat.blt c 1 = false := by rw [← Bool.not_eq_true]; intro e; have := Nat.le_of_ble_eq_true e; omega
  rw [e1, e2, e3, e4] at h
  simp only [Bool.false_or, Bool.and_eq_true, List.all_eq_true] at h
  obtain ⟨⟨⟨⟨⟨⟨⟨⟨h1, h2⟩, h3⟩, h4⟩, h5⟩, h6⟩, h7⟩, h8⟩, _⟩ := h
  exact ⟨Nat.le_of_ble_eq_true h1, Nat.le_of_ble_eq_true h2, Nat.le_of_ble_eq_true h3, fun x hx => Nat.le_of_ble_eq_true (h4 x hx), fun x hx => ⟨Nat.le_of_ble_eq_true (h5 x hx).1, Nat.le_of_ble_eq_true (h5 x hx).2⟩, Nat.le_of_ble_eq_true h6, Nat.le_of_ble_eq_true h7, Nat.eq_of_beq_eq_true h8⟩
theorem geo_both (d p a c : Int) : (∃ k, geom_Columns.f k d p a c = some ([], 2) ∧ quicksetref_GeomColumns.f k d p a c = some ([], 2)) ∨
    (2 ≤ d ∧ d ≤ 8 ∧ 1 ≤ p ∧ p ≤ 3 ∧ p < d ∧ 1 ≤ c ∧ c ≤ 32 ∧ ∃ k, geom_Columns.f k d p a c = some (cols d p a (nN d.toNat p.toNat c.toNat) (fun i => ((gN (d.toNat - p.toNat) p.toNat c.toNat i : Nat) : Int)), 0) ∧ quicksetref_GeomColumns.f k d p a c = some (cols d p a (nN d.toNat p.toNat c.toNat) (fun i => ((gN (d.toNat - p.toNat) p.toNat c.toNat i : Nat) : Int)), 0)) := by
  have lift : ∀ (r : List S87 × Int), (∃ k, geom_Columns.f k d p a c = some r) → (∃ k, quicksetref_GeomColumns.f k d p a c = some r) → ∃ k, geom_Columns.f k d p a c = some r ∧ quicksetref_GeomColumns.f k d p a c = some r := by
    rintro r ⟨k1, h1⟩ ⟨k2, h2⟩
    exact ⟨max k1 k2, at_rounds (fun k => geom_Columns.mono d p a c k) (show k1 ≤ max k1 k2 by omega) h1, at_rounds (fun k => quicksetref_GeomColumns.mono d p a c k) (show k2 ≤ max k1 k2 by omega) h2⟩
  by_cases hs : 2 ≤ d ∧ d ≤ 8 ∧ 1 ≤ p ∧ p ≤ 3 ∧ p < d
  · by_cases hc : 1 ≤ c ∧ c ≤ 32
    · by_cases ha : 0 ≤ a ∧ a ≤ 65536
      · refine .inr ⟨hs.1, hs.2.1, hs.2.2.1, hs.2.2.2.1, hs.2.2.2.2, hc.1, hc.2, ?_⟩
        obtain ⟨d', rfl⟩ := Int.eq_ofNat_of_zero_le (show 0 ≤ d by omega)
        obtain ⟨p', rfl⟩ := Int.eq_ofNat_of_zero_le (show 0 ≤ p by omega)
        obtain ⟨c', rfl⟩ := Int.eq_ofNat_of_zero_le (show 0 ≤ c by omega)
        simp only [Int.ofNat_eq_natCast, Int.toNat_natCast] at hs hc ⊢
        obtain ⟨w, hw⟩ : ∃ w, w = d' - p' := ⟨_, rfl⟩
        have hw2 : (d' : Int) - (p' : Int) = (w : Int) := by omega
        have ediv : (c' : Int) / (w : Int) = ((c' / w : Nat) : Int) := rfl
        have emod : (c' : Int) % (w : Int) = ((c' % w : Nat) : Int) := rfl
        have hn : ((nN d' p' c' : Nat) : Int) = if (c' : Int) / ((d' : Int) - (p' : Int)) = 0 then (if (c' : Int) % ((d' : Int) - (p' : Int)) > 0 then (c' : Int) % ((d' : Int) - (p' : Int)) + (p' : Int) else 0) else (d' : Int) := by
          rw [hw2, ediv, emod]
          unfold nN
          rw [← hw]
          by_cases h0 : c' / w = 0
          · rw [if_pos h0, if_pos (show ((c' / w : Nat) : Int) = 0 by omega)]
            by_cases h1 : 0 < c' % w
            · rw [if_pos h1, if_pos (show ((c' % w : Nat) : Int) > 0 by omega)]; omega
            · rw [if_neg h1, if_neg (show ¬ ((c' % w : Nat) : Int) > 0 by omega)]; rfl
          · rw [if_neg h0, if_neg (show ¬ ((c' / w : Nat) : Int) = 0 by omega)]
        have hg : (fun i : Nat => if (i : Int) < (if (c' : Int) % ((d' : Int) - (p' : Int)) > 0 then (c' : Int) % ((d' : Int) - (p' : Int)) + (p' : Int) else 0) then (c' : Int) / ((d' : Int) - (p' : Int)) + 1 else (c' : Int) / ((d' : Int) - (p' : Int))) = fun i => ((gN (d' - p') p' c' i : Nat) : Int) := by
          funext i
          rw [hw2, ediv, emod]
          unfold gN
          rw [← hw]
          by_cases h1 : 0 < c' % w
          · rw [if_pos h1, if_pos (show ((c' % w : Nat) : Int) > 0 by omega)]
            by_cases h2 : i < c' % w + p'
            · rw [if_pos h2, if_pos (show (i : Int) < ((c' % w : Nat) : Int) + (p' : Int) by omega)]; omega
            · rw [if_neg h2, if_neg (show ¬ (i : Int) < ((c' % w : Nat) : Int) + (p' : Int) by omega)]
          · rw [if_neg h1, if_neg (show ¬ ((c' % w : Nat) : Int) > 0 by omega), if_neg (show ¬ (i : Int) < 0 by omega), if_neg (show ¬ i < 0 by omega)]
        have hA := prog_is hs ha hc (nN d' p' c') hn
        have hB := ref_is hs ha hc (nN d' p' c') hn
        rw [hg] at hA hB
        exact lift _ hA hB
      · refine .inl (lift _ ⟨1, ?_⟩ ⟨1, ?_⟩)
        · unfold geom_Columns.f
          rw [shape_is, decide_eq_true hs, counted_is, decide_eq_true hc, addressed_is, decide_eq_false ha]
          rfl
        · unfold quicksetref_GeomColumns.f
          rw [bad_is, decide_eq_true hs]
          simp only [Option.bind_some, Bool.not_true, Bool.false_eq_true, if_false]
          rw [if_neg (by omega), if_neg (by omega)]
          by_cases h : a < 0
          · rw [if_pos h]; rfl
          · rw [if_neg h, decide_eq_true (by omega)]; rfl
    · refine .inl (lift _ ⟨1, ?_⟩ ⟨1, ?_⟩)
      · unfold geom_Columns.f
        rw [shape_is, decide_eq_true hs, counted_is, decide_eq_false hc]
        rfl
      · unfold quicksetref_GeomColumns.f
        rw [bad_is, decide_eq_true hs]
        simp only [Option.bind_some, Bool.not_true, Bool.false_eq_true, if_false]
        by_cases h : c < 1
        · rw [if_pos h]; rfl
        · rw [if_neg h, if_pos (by omega)]; rfl
  · refine .inl (lift _ ⟨1, ?_⟩ ⟨1, ?_⟩)
    · unfold geom_Columns.f
      rw [shape_is, decide_eq_false hs]
      rfl
    · unfold quicksetref_GeomColumns.f
      rw [bad_is, decide_eq_false hs]
      rfl
theorem cols_ok (d p a : Int) (len : Nat) (hd : 2 ≤ d) (hd8 : d ≤ 8) (hp : 1 ≤ p) (hp3 : p ≤ 3) (hpd : p < d) (h1 : 1 ≤ len) (h4 : len ≤ 4096) (c : Nat) (hc : c = (len + 127) / 128) (L : List S87) (hL : L = cols d p a (nN d.toNat p.toNat c) (fun i => ((gN (d.toNat - p.toNat) p.toNat c i : Nat) : Int))) :
    okLay L p.toNat (longOf L) len ∧ L.length ≤ 12 ∧ longOf L ≤ 4096 ∧ wrap64 ((rd_T87 L 0).f2 * 128) = ((longOf L : Nat) : Int) := by
  obtain ⟨g1, g2, g3, g4, g5, g6, g7, g8⟩ := ok_at (d := d.toNat) (p := p.toNat) (c := c) (by omega) (by omega) (by omega) (by omega) (by omega) (by omega) (by omega)
  have hl : L.length = nN d.toNat p.toNat c := by rw [hL, cols_length]
  have hm : L.map (fun x => x.f2.toNat) = cntsN d.toNat p.toNat c := by
    rw [hL, cols, List.map_map]
    rfl
  have hcn : counts L p.toNat = (cntsN d.toNat p.toNat c).drop p.toNat := by unfold counts; rw [← hm, List.map_drop]
  have hf : ∀ x ∈ L, 0 ≤ x.f2 ∧ x.f2 ≤ 64 := by
    intro x hx
    have h2 : x.f2.toNat ∈ cntsN d.toNat p.toNat c := by rw [← hm]; exact List.mem_map.2 ⟨x, hx, rfl⟩
    have h3 := g4 _ h2
    rw [hL, cols] at hx
    obtain ⟨i, _, rfl⟩ := List.mem_map.1 hx
    have h5 : (col d p a i ((gN (d.toNat - p.toNat) p.toNat c i : Nat) : Int)).f2 = ((gN (d.toNat - p.toNat) p.toNat c i : Nat) : Int) := rfl
    rw [h5] at h3 ⊢
    rw [Int.toNat_natCast] at h3
    omega
  have h0 : (rd_T87 L 0).f2 = ((gN (d.toNat - p.toNat) p.toNat c 0 : Nat) : Int) := by
    rw [hL]
    exact congrArg (fun x : S87 => x.f2) (rd_cols d p a _ _ 0 g2)
  have hlo : longOf L = 128 * gN (d.toNat - p.toNat) p.toNat c 0 := by unfold longOf; rw [h0, Int.toNat_natCast]
  refine ⟨⟨by omega, by omega, by omega, h1, h4, by omega, by omega, hf, fun x hx => ?_, by rw [hcn, g8, hc]⟩, by omega, by omega, ?_⟩
  · rw [hcn] at hx
    have := g5 x hx
    rw [hlo]
    omega
  · rw [h0, hlo]
    unfold wrap64
    omega
end Go.Proofs.Ytpaenlplpaabjaa.Geo
