/- GeomColumns: the two answers are one, over plain numbers and lists, for every argument; no conditions. -/
import Derived.Test.YtdececbckohhgaaHGeomColumnsx4
set_option linter.unusedVariables false
set_option linter.unusedSimpArgs false
namespace Go.Proofs.Ytdececbckohhgaa.Pure
open Go.RowKit Go.Proofs.Ytdececbckohhgaa Go.Proofs.Ytdececbckohhgaa.PGeomColumns Go.Proofs.YtdececbckohhgaaW.PrintWords Go.Proofs.YtdececbckohhgaaW.PrintLast Go.Proofs.YtdececbckohhgaaW.PrintMore

theorem wrap_id {n : Int} (h0 : -9223372036854775808 ≤ n) (h1 : n ≤ 9223372036854775807) : wrap64 n = n := by unfold wrap64; omega
theorem shape_is (d p : Int) : geom_shape_may.f d p = some (decide (2 ≤ d ∧ d ≤ 8 ∧ 1 ≤ p ∧ p ≤ 3 ∧ p < d)) := by
  unfold geom_shape_may.f
  repeat' split
  all_goals (congr 1; first | (rw [decide_eq_decide]; omega) | (symm; rw [decide_eq_false_iff_not]; omega))
theorem bad_is (d p : Int) : quicksetref_badShape.f d p = some (!decide (2 ≤ d ∧ d ≤ 8 ∧ 1 ≤ p ∧ p ≤ 3 ∧ p < d)) := by
  unfold quicksetref_badShape.f
  repeat' split
  all_goals (congr 1; rw [← decide_not]; first | (rw [decide_eq_decide]; omega) | (symm; rw [decide_eq_true_eq]; omega))
theorem counted_is (c : Int) : geom_counted.f c = some (decide (1 ≤ c ∧ c ≤ 32)) := by
  unfold geom_counted.f
  repeat' split
  all_goals (congr 1; first | (rw [decide_eq_decide]; omega) | (symm; rw [decide_eq_false_iff_not]; omega))
theorem addressed_is (a : Int) : geom_addressed.f a = some (decide (0 ≤ a ∧ a ≤ 65536)) := by
  unfold geom_addressed.f
  repeat' split
  all_goals (congr 1; first | (rw [decide_eq_decide]; omega) | (symm; rw [decide_eq_false_iff_not]; omega))

def col (d p a : Int) (c : Nat) (n : Int) : S48 := ⟨(a + c) % d, (a + c) / d, n, decide ((c : Int) < p)⟩
def cols (d p a : Int) (n : Nat) (g : Nat → Int) : List S48 := (List.range n).map fun c => col d p a c (g c)
theorem cols_length (d p a : Int) (n : Nat) (g : Nat → Int) : (cols d p a n g).length = n := by simp [cols]
theorem cols_snoc (d p a : Int) (n : Nat) (g : Nat → Int) : cols d p a n g ++ [col d p a n (g n)] = cols d p a (n + 1) g := by simp [cols, List.range_succ]
theorem cols_congr (d p a : Int) (n : Nat) {g g' : Nat → Int} (h : ∀ i, i < n → g i = g' i) : cols d p a n g = cols d p a n g' := by
  unfold cols
  apply List.map_congr_left
  intro i hi
  rw [h i (List.mem_range.1 hi)]
theorem rd_cols (d p a : Int) (n : Nat) (g : Nat → Int) (i : Nat) (h : i < n) : rd_T48 (cols d p a n g) (i : Int) = col d p a i (g i) := by
  simp [rd_T48, cols, h]
theorem set_cols (d p a : Int) (n : Nat) (g : Nat → Int) (i : Nat) (m : Int) : (cols d p a n g).set i (col d p a i m) = cols d p a n (fun j => if j = i then m else g j) := by
  apply List.ext_getElem
  · simp [cols]
  · intro j h1 h2
    simp only [cols, List.getElem_set, List.getElem_map, List.getElem_range]
    by_cases e : i = j
    · subst e; simp
    · rw [if_neg e, if_neg (fun h => e h.symm)]

section
variable {d p a : Int} (hs : 2 ≤ d ∧ d ≤ 8 ∧ 1 ≤ p ∧ p ≤ 3 ∧ p < d) (ha : 0 ≤ a ∧ a ≤ 65536)
include hs ha
theorem col_now (c : Nat) (hc : c < 100) (n : Int) : (⟨Int.tmod (wrap64 (a + c)) d, wrap64 (Int.tdiv (wrap64 (a + c)) d), n, decide ((c : Int) < p)⟩ : S48) = col d p a c n := by
  have q0 : 0 ≤ (a + c) / d := Int.ediv_nonneg (by omega) (by omega)
  have q1 : (a + c) / d ≤ a + c := Int.ediv_le_self d (by omega)
  rw [wrap_id (n := a + c) (by omega) (by omega), Int.tmod_eq_emod_of_nonneg (by omega), Int.tdiv_eq_ediv_of_nonneg (by omega), wrap_id (by omega) (by omega)]
  rfl
theorem prog_loop (q l : Int) (hq : 0 ≤ q ∧ q ≤ 32) (n : Nat) (hn : n ≤ 12) : ∀ (e c : Nat), c + e = n →
    ∃ k, geom_Columns.l0 k d p a q l (cols d p a c (fun i => if (i : Int) < l then q + 1 else q)) (n : Int) (c : Int) = some (cols d p a n (fun i => if (i : Int) < l then q + 1 else q), 0) := by
  intro e
  induction e with
  | zero =>
    intro c hc
    refine ⟨1, ?_⟩
    simp only [geom_Columns.l0]
    rw [if_neg (by omega), show c = n from by omega]
  | succ e ih =>
    intro c hc
    obtain ⟨k, hk⟩ := ih (c + 1) (by omega)
    refine ⟨k + 1, ?_⟩
    simp only [geom_Columns.l0]
    have hc2 : c < 100 := by omega
    have this := cols_snoc d p a c (fun i => if (i : Int) < l then q + 1 else q)
    rw [if_pos (by omega), if_neg (by omega)]
    by_cases hl : (c : Int) < l
    · simp only [if_pos hl] at this
      rw [if_pos hl, cols_length, if_pos (by omega), wrap_id (n := q + 1) (by omega) (by omega), col_now hs ha c hc2, wrap_id (n := (c : Int) + 1) (by omega) (by omega), show ((c : Int) + 1) = ((c + 1 : Nat) : Int) from by omega, this]
      exact hk
    · simp only [if_neg hl] at this
      rw [if_neg hl, cols_length, if_pos (by omega), col_now hs ha c hc2, wrap_id (n := (c : Int) + 1) (by omega) (by omega), show ((c : Int) + 1) = ((c + 1 : Nat) : Int) from by omega, this]
      exact hk
theorem ref_first (cnt : Int) (r : List S48 × Int) (n : Nat) (hn : n ≤ 12) (hk : ∃ k, quicksetref_GeomColumns.l0 k d p a cnt (cols d p a n fun _ => 1) 1 = some r) : ∀ (e c : Nat), c + e = n →
    ∃ k, quicksetref_GeomColumns.l1 k d p a cnt (cols d p a c fun _ => 1) 0 (n : Int) (c : Int) = some r := by
  intro e
  induction e with
  | zero =>
    intro c hc
    obtain ⟨k, hk⟩ := hk
    refine ⟨k + 1, ?_⟩
    simp only [quicksetref_GeomColumns.l1]
    rw [if_neg (by omega), show c = n from by omega, show wrap64 (0 + 1) = 1 from wrap_id (n := 0 + 1) (by decide) (by decide)]
    exact hk
  | succ e ih =>
    intro c hc
    obtain ⟨k, hk⟩ := ih (c + 1) (by omega)
    refine ⟨k + 1, ?_⟩
    simp only [quicksetref_GeomColumns.l1]
    rw [if_pos (by omega), if_pos trivial, if_neg (by omega), cols_length, if_pos (by omega), col_now hs ha c (by omega)]
    simp only [Option.bind_some]
    have e1 : cols d p a c (fun _ => 1) ++ [col d p a c 0] = cols d p a (c + 1) (fun i => if i = c then 0 else 1) := by
      rw [← cols_snoc d p a c (fun i => if i = c then 0 else 1), if_pos rfl]
      congr 1
      apply cols_congr
      intro i hi
      rw [if_neg (by omega)]
    have e2 : (cols d p a (c + 1) (fun i => if i = c then 0 else 1)).set c (col d p a c 1) = cols d p a (c + 1) (fun _ => 1) := by
      rw [set_cols]
      apply cols_congr
      intro i hi
      by_cases h : i = c <;> simp [h]
    rw [e1, cols_length, if_pos (by omega), if_pos (by omega), rd_cols _ _ _ _ _ c (by omega), if_pos rfl]
    simp only [col]
    rw [show wrap64 (0 + 1) = 1 from wrap_id (n := 0 + 1) (by decide) (by decide), wrap_id (n := (c : Int) + 1) (by omega) (by omega), show ((c : Int)).toNat = c from by omega, show ((c : Int) + 1) = ((c + 1 : Nat) : Int) from by omega]
    have e3 := e2
    simp only [col] at e3
    rw [e3]
    exact hk
omit hs ha in
theorem ref_later (cnt j : Int) (hj : 1 ≤ j ∧ j ≤ 32) (r : List S48 × Int) (n m : Nat) (hm : m ≤ n) (hn : n ≤ 12) (g : Nat → Int) (hg : ∀ i, 0 ≤ g i ∧ g i ≤ 100)
    (hk : ∃ k, quicksetref_GeomColumns.l0 k d p a cnt (cols d p a n fun i => if i < m then g i + 1 else g i) (j + 1) = some r) : ∀ (e c : Nat), c + e = m →
    ∃ k, quicksetref_GeomColumns.l1 k d p a cnt (cols d p a n fun i => if i < c then g i + 1 else g i) j (m : Int) (c : Int) = some r := by
  intro e
  induction e with
  | zero =>
    intro c hc
    obtain ⟨k, hk⟩ := hk
    refine ⟨k + 1, ?_⟩
    simp only [quicksetref_GeomColumns.l1]
    rw [if_neg (by omega), show c = m from by omega, wrap_id (n := j + 1) (by omega) (by omega)]
    exact hk
  | succ e ih =>
    intro c hc
    obtain ⟨k, hk⟩ := ih (c + 1) (by omega)
    refine ⟨k + 1, ?_⟩
    have hgc := hg c
    simp only [quicksetref_GeomColumns.l1]
    rw [if_pos (by omega), if_neg (by omega), if_pos (by omega), cols_length, if_pos (by omega), rd_cols _ _ _ _ _ c (by omega), if_neg (by omega)]
    have e2 : (cols d p a n (fun i => if i < c then g i + 1 else g i)).set c (col d p a c (g c + 1)) = cols d p a n (fun i => if i < c + 1 then g i + 1 else g i) := by
      rw [set_cols]
      apply cols_congr
      intro i hi
      by_cases h : i = c
      · subst h; simp
      · by_cases h2 : i < c
        · rw [if_neg h, if_pos h2, if_pos (by omega)]
        · rw [if_neg h, if_neg h2, if_neg (by omega)]
    simp only [col] at e2 ⊢
    rw [wrap_id (n := g c + 1) (by omega) (by omega), wrap_id (n := (c : Int) + 1) (by omega) (by omega), show ((c : Int)).toNat = c from by omega, show ((c : Int) + 1) = ((c + 1 : Nat) : Int) from by omega, e2]
    exact hk
end
theorem same_cols (l : List S48) : ∀ (e i : Nat), i + e = l.length → l.length < 100 → ∃ k, quicksetlaw_sameColumns.l0 k l l (i : Int) = some true := by
  intro e
  induction e with
  | zero =>
    intro i hi hl
    refine ⟨1, ?_⟩
    simp only [quicksetlaw_sameColumns.l0]
    rw [if_neg (by omega)]
  | succ e ih =>
    intro i hi hl
    obtain ⟨k, hk⟩ := ih (i + 1) (by omega) hl
    refine ⟨k + 1, ?_⟩
    simp only [quicksetlaw_sameColumns.l0]
    rw [if_pos (by omega), if_pos (by omega), if_pos (by omega), if_neg (by simp), wrap_id (by omega) (by omega), show ((i : Int) + 1) = ((i + 1 : Nat) : Int) from by omega]
    exact hk
theorem prog_is {d p a c : Int} (hs : 2 ≤ d ∧ d ≤ 8 ∧ 1 ≤ p ∧ p ≤ 3 ∧ p < d) (ha : 0 ≤ a ∧ a ≤ 65536) (hc : 1 ≤ c ∧ c ≤ 32) (n : Nat)
    (hn : (n : Int) = if c / (d - p) = 0 then (if c % (d - p) > 0 then c % (d - p) + p else 0) else d) :
    ∃ k, geom_Columns.f k d p a c = some (cols d p a n (fun i => if (i : Int) < (if c % (d - p) > 0 then c % (d - p) + p else 0) then c / (d - p) + 1 else c / (d - p)), 0) := by
  have hw : 1 ≤ d - p := by omega
  have q0 : 0 ≤ c / (d - p) := Int.ediv_nonneg (by omega) (by omega)
  have q1 : c / (d - p) ≤ c := Int.ediv_le_self _ (by omega)
  have r0 : 0 ≤ c % (d - p) := Int.emod_nonneg _ (by omega)
  have r1 : c % (d - p) < d - p := Int.emod_lt_of_pos _ (by omega)
  have hn12 : n ≤ 12 := by
    revert hn
    repeat' split
    all_goals omega
  obtain ⟨k, hk⟩ := prog_loop hs ha (c / (d - p)) (if c % (d - p) > 0 then c % (d - p) + p else 0) ⟨q0, by omega⟩ n hn12 n 0 (by omega)
  refine ⟨k + 3, ?_⟩
  unfold geom_Columns.f
  rw [shape_is, decide_eq_true hs, counted_is, decide_eq_true hc, addressed_is, decide_eq_true ha]
  simp only [Option.bind_some, if_true, Bool.not_true, geom_Columns.j0, Bool.false_eq_true, if_false]
  rw [wrap_id (n := d - p) (by omega) (by omega), if_neg (by omega), Int.tmod_eq_emod_of_nonneg (by omega), Int.tdiv_eq_ediv_of_nonneg (by omega), wrap_id (n := c / (d - p)) (by omega) (by omega), wrap_id (n := c % (d - p) + p) (by omega) (by omega)]
  have key : ∀ l : Int, (n : Int) = (if c / (d - p) = 0 then l else d) → geom_Columns.j1 (k + 2) d p a (c / (d - p)) l = geom_Columns.l0 k d p a (c / (d - p)) l ([] : List S48) (n : Int) 0 := by
    intro l hl
    simp only [geom_Columns.j1, geom_Columns.j2]
    by_cases hq : c / (d - p) = 0
    · rw [if_pos hq] at hl ⊢; rw [hl]
    · rw [if_neg hq] at hl ⊢; rw [hl]
  by_cases hr : c % (d - p) > 0
  · have hL : (if c % (d - p) > 0 then c % (d - p) + p else 0) = c % (d - p) + p := if_pos hr
    rw [hL] at hn hk ⊢
    rw [if_pos hr, key _ hn]
    exact hk
  · have hL : (if c % (d - p) > 0 then c % (d - p) + p else 0) = 0 := if_neg hr
    rw [hL] at hn hk ⊢
    rw [if_neg hr, key _ hn]
    exact hk
theorem ref_rows {d p a c : Int} (hs : 2 ≤ d ∧ d ≤ 8 ∧ 1 ≤ p ∧ p ≤ 3 ∧ p < d) (ha : 0 ≤ a ∧ a ≤ 65536) (hc : 1 ≤ c ∧ c ≤ 32) (n : Nat) (hn : (n : Int) = d) : ∀ (e : Nat) (j : Int), j + e = c / (d - p) → 1 ≤ j →
    ∃ k, quicksetref_GeomColumns.l0 k d p a c (cols d p a n fun _ => j) j = some (cols d p a n (fun i => if (i : Int) < (if c % (d - p) > 0 then c % (d - p) + p else 0) then c / (d - p) + 1 else c / (d - p)), 0) := by
  have hw : 1 ≤ d - p := by omega
  have q0 : 0 ≤ c / (d - p) := Int.ediv_nonneg (by omega) (by omega)
  have q1 : c / (d - p) ≤ c := Int.ediv_le_self _ (by omega)
  have r0 : 0 ≤ c % (d - p) := Int.emod_nonneg _ (by omega)
  have r1 : c % (d - p) < d - p := Int.emod_lt_of_pos _ (by omega)
  have hqr : c / (d - p) * (d - p) + c % (d - p) = c := by rw [Int.mul_comm]; exact Int.mul_ediv_add_emod c (d - p)
  have big : ∀ j : Int, 0 ≤ j → j ≤ 40 → 0 ≤ j * (d - p) ∧ j * (d - p) ≤ 400 := by
    intro j h0 h1
    have := Int.mul_le_mul h1 (show d - p ≤ 10 by omega) (by omega) (by omega)
    exact ⟨Int.mul_nonneg h0 (by omega), by omega⟩
  -- what stands behind all rows
  have over : ∀ (j : Int) (l : List S48), c / (d - p) < j ∨ (j = c / (d - p) ∧ c % (d - p) = 0) → 0 ≤ j → j ≤ 40 → quicksetref_GeomColumns.l0 1 d p a c l j = some (l, 0) := by
    intro j l hj h0 h1
    obtain ⟨b0, b1⟩ := big j h0 h1
    have hge : c ≤ j * (d - p) := by
      rcases hj with hj | ⟨rfl, hr⟩
      · have : (c / (d - p) + 1) * (d - p) ≤ j * (d - p) := Int.mul_le_mul_of_nonneg_right (by omega) (by omega)
        rw [Int.add_mul, Int.one_mul] at this
        omega
      · omega
    simp only [quicksetref_GeomColumns.l0]
    rw [wrap_id (n := d - p) (by omega) (by omega), wrap_id (n := j * (d - p)) (by omega) (by omega), if_neg (by omega)]
  intro e
  induction e with
  | zero =>
    intro j hj h1
    have hjq : j = c / (d - p) := by omega
    by_cases hr : c % (d - p) > 0
    · obtain ⟨b0, b1⟩ := big j (by omega) (by omega)
      have hjm : j * (d - p) = c - c % (d - p) := by rw [hjq]; omega
      obtain ⟨m, hm⟩ := Int.eq_ofNat_of_zero_le (show 0 ≤ c % (d - p) + p by omega)
      have ho := over (j + 1) (cols d p a n fun i => if i < m then j + 1 else j) (.inl (by omega)) (by omega) (by omega)
      obtain ⟨k, hk⟩ := ref_later c j ⟨h1, by omega⟩ _ n m (by omega) (by omega) (fun _ => j) (fun _ => ⟨by omega, by omega⟩) ⟨1, ho⟩ m 0 (by omega)
      refine ⟨k + 1, ?_⟩
      simp only [quicksetref_GeomColumns.l0]
      rw [wrap_id (n := d - p) (by omega) (by omega), wrap_id (n := j * (d - p)) (by omega) (by omega), if_pos (by omega), wrap_id (n := c - j * (d - p)) (by omega) (by omega)]
      have hmn : mn (d - p) (c - j * (d - p)) = c % (d - p) := by unfold mn; rw [if_pos (by omega)]; omega
      rw [hmn, wrap_id (n := p + c % (d - p)) (by omega) (by omega), show p + c % (d - p) = (m : Int) from by omega]
      simp only [Nat.not_lt_zero, if_false] at hk
      rw [if_pos hr, ← hjq]
      rw [show ((0 : Nat) : Int) = 0 from rfl] at hk
      refine hk.trans ?_
      congr 2
      apply cols_congr
      intro i hi
      by_cases h : i < m
      · rw [if_pos h, if_pos (by omega)]
      · rw [if_neg h, if_neg (by omega)]
    · refine ⟨1, ?_⟩
      rw [over j _ (.inr ⟨hjq, by omega⟩) (by omega) (by omega), if_neg hr]
      congr 2
      apply cols_congr
      intro i hi
      rw [if_neg (by omega)]
      exact hjq
  | succ e ih =>
    intro j hj h1
    obtain ⟨b0, b1⟩ := big j (by omega) (by omega)
    have hle : j * (d - p) + (d - p) ≤ c / (d - p) * (d - p) := by
      have : (j + 1) * (d - p) ≤ c / (d - p) * (d - p) := Int.mul_le_mul_of_nonneg_right (by omega) (by omega)
      rw [Int.add_mul, Int.one_mul] at this
      omega
    obtain ⟨k0, hk0⟩ := ih (j + 1) (by omega) (by omega)
    have hk1 : ∃ k, quicksetref_GeomColumns.l0 k d p a c (cols d p a n fun i => if i < n then j + 1 else j) (j + 1) = some (cols d p a n (fun i => if (i : Int) < (if c % (d - p) > 0 then c % (d - p) + p else 0) then c / (d - p) + 1 else c / (d - p)), 0) := by
      refine ⟨k0, ?_⟩
      rw [cols_congr d p a n (g' := fun _ => j + 1) (fun i hi => if_pos hi)]
      exact hk0
    obtain ⟨k, hk⟩ := ref_later c j ⟨h1, by omega⟩ _ n n (Nat.le_refl _) (by omega) (fun _ => j) (fun _ => ⟨by omega, by omega⟩) hk1 n 0 (by omega)
    refine ⟨k + 1, ?_⟩
    simp only [quicksetref_GeomColumns.l0]
    rw [wrap_id (n := d - p) (by omega) (by omega), wrap_id (n := j * (d - p)) (by omega) (by omega), if_pos (by omega), wrap_id (n := c - j * (d - p)) (by omega) (by omega)]
    have hmn : mn (d - p) (c - j * (d - p)) = d - p := by unfold mn; split <;> omega
    rw [hmn, wrap_id (n := p + (d - p)) (by omega) (by omega), show p + (d - p) = (n : Int) from by omega]
    simp only [Nat.not_lt_zero, if_false] at hk
    rw [show ((0 : Nat) : Int) = 0 from rfl] at hk
    exact hk
theorem ref_is {d p a c : Int} (hs : 2 ≤ d ∧ d ≤ 8 ∧ 1 ≤ p ∧ p ≤ 3 ∧ p < d) (ha : 0 ≤ a ∧ a ≤ 65536) (hc : 1 ≤ c ∧ c ≤ 32) (n : Nat)
    (hn : (n : Int) = if c / (d - p) = 0 then (if c % (d - p) > 0 then c % (d - p) + p else 0) else d) :
    ∃ k, quicksetref_GeomColumns.f k d p a c = some (cols d p a n (fun i => if (i : Int) < (if c % (d - p) > 0 then c % (d - p) + p else 0) then c / (d - p) + 1 else c / (d - p)), 0) := by
  have hw : 1 ≤ d - p := by omega
  have q0 : 0 ≤ c / (d - p) := Int.ediv_nonneg (by omega) (by omega)
  have q1 : c / (d - p) ≤ c := Int.ediv_le_self _ (by omega)
  have r0 : 0 ≤ c % (d - p) := Int.emod_nonneg _ (by omega)
  have r1 : c % (d - p) < d - p := Int.emod_lt_of_pos _ (by omega)
  have hqr : c / (d - p) * (d - p) + c % (d - p) = c := by rw [Int.mul_comm]; exact Int.mul_ediv_add_emod c (d - p)
  -- the first row
  have hfirst : ∃ k, quicksetref_GeomColumns.l0 k d p a c ([] : List S48) 0 = some (cols d p a n (fun i => if (i : Int) < (if c % (d - p) > 0 then c % (d - p) + p else 0) then c / (d - p) + 1 else c / (d - p)), 0) := by
    by_cases hq : c / (d - p) = 0
    · have hcr : c % (d - p) = c := by rw [hq, Int.zero_mul] at hqr; omega
      rw [if_pos hq, if_pos (by omega)] at hn
      have hend : quicksetref_GeomColumns.l0 1 d p a c (cols d p a n fun _ => 1) 1 = some (cols d p a n fun _ => 1, 0) := by
        simp only [quicksetref_GeomColumns.l0]
        rw [wrap_id (n := d - p) (by omega) (by omega), wrap_id (n := 1 * (d - p)) (by omega) (by omega), if_neg (by omega)]
      obtain ⟨k, hk⟩ := ref_first hs ha c _ n (by omega) ⟨1, hend⟩ n 0 (by omega)
      refine ⟨k + 1, ?_⟩
      simp only [quicksetref_GeomColumns.l0]
      rw [wrap_id (n := d - p) (by omega) (by omega), show wrap64 (0 * (d - p)) = 0 from by rw [Int.zero_mul]; exact wrap_id (n := 0) (by decide) (by decide), if_pos (by omega), wrap_id (n := c - 0) (by omega) (by omega)]
      have hmn : mn (d - p) (c - 0) = c := by unfold mn; rw [if_pos (by omega)]; omega
      rw [hmn, wrap_id (n := p + c) (by omega) (by omega), show p + c = (n : Int) from by omega]
      refine Eq.trans hk ?_
      congr 2
      apply cols_congr
      intro i hi
      rw [if_pos (show c % (d - p) > 0 by omega), if_pos (by omega), hq]
      rfl
    · rw [if_neg hq] at hn
      obtain ⟨e, he⟩ := Int.eq_ofNat_of_zero_le (show 0 ≤ c / (d - p) - 1 by omega)
      have hrows := ref_rows hs ha hc n hn e 1 (by omega) (by omega)
      obtain ⟨k, hk⟩ := ref_first hs ha c _ n (by omega) hrows n 0 (by omega)
      refine ⟨k + 1, ?_⟩
      have hle : d - p ≤ c := by
        have : 1 * (d - p) ≤ c / (d - p) * (d - p) := Int.mul_le_mul_of_nonneg_right (by omega) (by omega)
        omega
      simp only [quicksetref_GeomColumns.l0]
      rw [wrap_id (n := d - p) (by omega) (by omega), show wrap64 (0 * (d - p)) = 0 from by rw [Int.zero_mul]; exact wrap_id (n := 0) (by decide) (by decide), if_pos (by omega), wrap_id (n := c - 0) (by omega) (by omega)]
      have hmn : mn (d - p) (c - 0) = d - p := by unfold mn; split <;> omega
      rw [hmn, wrap_id (n := p + (d - p)) (by omega) (by omega), show p + (d - p) = (n : Int) from by omega]
      exact hk
  obtain ⟨k, hk⟩ := hfirst
  refine ⟨k + 1, ?_⟩
  unfold quicksetref_GeomColumns.f
  rw [bad_is, decide_eq_true hs]
  simp only [Option.bind_some, Bool.not_true, Bool.false_eq_true, if_false]
  rw [if_neg (by omega), if_neg (by omega), if_neg (by omega), decide_eq_false (by omega)]
  simp only [quicksetref_GeomColumns.j0, Bool.false_eq_true, if_false]
  exact hk
theorem finish {d p a c : Int} (l : List S48) (e : Int) (hl : l.length < 100) (A : ∃ k, geom_Columns.f k d p a c = some (l, e)) (B : ∃ k, quicksetref_GeomColumns.f k d p a c = some (l, e)) : ∃ k, quicksetlaw_GeomColumns.f k d p a c = some true := by
  obtain ⟨k1, h1⟩ := A
  obtain ⟨k2, h2⟩ := B
  obtain ⟨k3, h3⟩ := same_cols l l.length 0 (by omega) hl
  refine ⟨max k1 (max k2 k3), ?_⟩
  have g1 := at_rounds (fun k => geom_Columns.mono d p a c k) (show k1 ≤ max k1 (max k2 k3) by omega) h1
  have g2 := at_rounds (fun k => quicksetref_GeomColumns.mono d p a c k) (show k2 ≤ max k1 (max k2 k3) by omega) h2
  have g3 := at_rounds (fun k => quicksetlaw_sameColumns.mono_l k l l ((0 : Nat) : Int)) (show k3 ≤ max k1 (max k2 k3) by omega) h3
  unfold quicksetlaw_GeomColumns.f quicksetlaw_sameColumns.f
  rw [g1, g2]
  simp only [Option.bind_some]
  rw [if_pos trivial]
  have g4 : quicksetlaw_sameColumns.l0 (max k1 (max k2 k3)) l l 0 = some true := g3
  rw [g4]
  simp
theorem GeomColumns : quicksetlaw_GeomColumns.Pure := by
  intro d p a c wd wp wa wc
  by_cases hs : 2 ≤ d ∧ d ≤ 8 ∧ 1 ≤ p ∧ p ≤ 3 ∧ p < d
  · by_cases hc : 1 ≤ c ∧ c ≤ 32
    · by_cases ha : 0 ≤ a ∧ a ≤ 65536
      · have hw : 1 ≤ d - p := by omega
        have r0 : 0 ≤ c % (d - p) := Int.emod_nonneg _ (by omega)
        have r1 : c % (d - p) < d - p := Int.emod_lt_of_pos _ (by omega)
        obtain ⟨n, hn⟩ := Int.eq_ofNat_of_zero_le (show 0 ≤ (if c / (d - p) = 0 then (if c % (d - p) > 0 then c % (d - p) + p else 0) else d) by repeat' split <;> omega)
        have hn12 : n ≤ 12 := by
          have : (n : Int) ≤ 12 := by
            rw [← hn]
            repeat' split
            all_goals omega
          omega
        exact finish _ 0 (by rw [cols_length]; omega) (prog_is hs ha hc n hn.symm) (ref_is hs ha hc n hn.symm)
      · refine finish [] 2 (by decide) ⟨1, ?_⟩ ⟨1, ?_⟩
        · unfold geom_Columns.f
          rw [shape_is, decide_eq_true hs, counted_is, decide_eq_true hc, addressed_is, decide_eq_false ha]
          rfl
        · unfold quicksetref_GeomColumns.f
          rw [bad_is, decide_eq_true hs]
          simp only [Option.bind_some, Bool.not_true, Bool.false_eq_true, if_false]
          rw [if_neg (by omega), if_neg (by omega)]
          by_cases h : a < 0
          · rw [if_pos h]; rfl
          · rw [if_neg h, decide_eq_true (by omega)]; rfl
    · refine finish [] 2 (by decide) ⟨1, ?_⟩ ⟨1, ?_⟩
      · unfold geom_Columns.f
        rw [shape_is, decide_eq_true hs, counted_is, decide_eq_false hc]
        rfl
      · unfold quicksetref_GeomColumns.f
        rw [bad_is, decide_eq_true hs]
        simp only [Option.bind_some, Bool.not_true, Bool.false_eq_true, if_false]
        by_cases h : c < 1
        · rw [if_pos h]; rfl
        · rw [if_neg h, if_pos (by omega)]; rfl
  · refine finish [] 2 (by decide) ⟨1, ?_⟩ ⟨1, ?_⟩
    · unfold geom_Columns.f
      rw [shape_is, decide_eq_false hs]
      rfl
    · unfold quicksetref_GeomColumns.f
      rw [bad_is, decide_eq_false hs]
      rfl

end Go.Proofs.Ytdececbckohhgaa.Pure
