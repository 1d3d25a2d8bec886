/- A matrix of the call's own whose rows get longer one by one. No conditions. -/
import Derived.Test.YtpaenlplpaabjaaPureInv3
import Derived.Test.YtpaenlplpaabjaaPureEli2
import Derived.Test.YtpaenlplpaabjaaSepCopy
set_option linter.unusedVariables false
set_option linter.unusedSimpArgs false
namespace Go.Proofs.Ytpaenlplpaabjaa.QMatInverts
open Go.RowKit Go.Proofs.YtpaenlplpaabjaaW.PrintWords Go.Proofs.YtpaenlplpaabjaaW.PrintLast Go.Proofs.YtpaenlplpaabjaaW.PrintMore
open Go.Proofs.Ytpaenlplpaabjaa.Sep Go.Proofs.Ytpaenlplpaabjaa.MatB
/-- A matrix of n rows, row i has ms i numbers; nothing is said of row t. -/
def matW (T E g n t : Nat) (ms hs cs : Nat → Nat) (rows : Nat → Nat → Int) : Asn where
  H := fun w B S => (S g ∧ B ≤ g) ∧ (∀ i, i < n → i ≠ t → S (hs i) ∧ B ≤ hs i ∧ hs i ≠ g ∧ ms i ≤ cs i ∧ cs i ≤ maxLen) ∧ (∀ i j, i < n → j < n → i ≠ t → j ≠ t → hs i = hs j → i = j) ∧
    (∃ cells, w.heap[g]? = some (.cells cells T (0, 0)) ∧ n ≤ cells.size ∧ ∀ i, i < n → i ≠ t → cells[i]? = some (.slice (some ⟨hs i, 0, none⟩) (ms i) (cs i))) ∧
    (∀ i, i < n → i ≠ t → ∃ cells, w.heap[hs i]? = some (.cells cells E (0, 0)) ∧ cells.size = cs i ∧ ∀ j, j < ms i → cells[j]? = some (.int .i64 (rows i j)))
  step := by
    rintro w w' B S hm ⟨⟨h1, h2⟩, h3, h4, ⟨cells, h5, h6⟩, h7⟩
    refine ⟨⟨h1, h2⟩, h3, h4, ⟨cells, (hm g h1 (blk_lt h5)).trans h5, h6⟩, fun i hi ht => ?_⟩
    obtain ⟨c, h8, h9⟩ := h7 i hi ht
    exact ⟨c, (hm _ (h3 i hi ht).1 (blk_lt h8)).trans h8, h9⟩
  mono := fun hs h => ⟨⟨hs _ h.1.1, h.1.2⟩, fun i hi ht => ⟨hs _ (h.2.1 i hi ht).1, (h.2.1 i hi ht).2⟩, h.2.2⟩
  bound := by
    rintro w B S ⟨⟨h1, h2⟩, h3, h4, ⟨cells, h5, h6⟩, h7⟩
    refine ⟨⟨⟨h1, h2, blk_lt h5⟩, h2⟩, fun i hi ht => ?_, h4, ⟨cells, h5, h6⟩, h7⟩
    obtain ⟨c, h8, h9⟩ := h7 i hi ht
    exact ⟨⟨(h3 i hi ht).1, (h3 i hi ht).2.1, blk_lt h8⟩, (h3 i hi ht).2⟩
  lower := fun hb h => ⟨⟨h.1.1, Nat.le_trans hb h.1.2⟩, fun i hi ht => ⟨(h.2.1 i hi ht).1, Nat.le_trans hb (h.2.1 i hi ht).2.1, (h.2.1 i hi ht).2.2⟩, h.2.2⟩
section
variable {T E g n t m : Nat} {ms hs cs : Nat → Nat} {rows : Nat → Nat → Int} {w0 w : World} {l : List Asn}
theorem matW_start (h : SL w0 w (matA T E g n m hs cs rows :: l)) : SL w0 w (matW T E g n n (fun _ => m) hs cs rows :: l) := by
  refine h.imp 0 rfl (fun S hA => ?_)
  obtain ⟨h1, h3, h4, ⟨cells, h5, h6⟩, h7⟩ := hA
  refine ⟨h1, fun i hi _ => h3 i hi, fun i j hi hj _ _ => h4 i j hi hj, ⟨cells, h5, ?_, fun i hi _ => h6 i hi⟩, fun i hi _ => h7 i hi⟩
  rcases Nat.eq_zero_or_pos n with h0 | h0
  · omega
  · have := (Array.getElem?_eq_some_iff.1 (h6 (n - 1) (by omega))).1
    omega
theorem matW_end (h : SL w0 w (matW T E g n n ms hs cs rows :: l)) (hm : ∀ i, i < n → ms i = m) : SL w0 w (matA T E g n m hs cs rows :: l) := by
  refine h.imp 0 rfl (fun S hA => ?_)
  obtain ⟨h1, h3, h4, ⟨cells, h5, _, h6⟩, h7⟩ := hA
  have hne : ∀ i, i < n → i ≠ n := fun i hi => Nat.ne_of_lt hi
  refine ⟨h1, fun i hi => ?_, fun i j hi hj => h4 i j hi hj (hne i hi) (hne j hj), ⟨cells, h5, fun i hi => ?_⟩, fun i hi => ?_⟩
  · rw [← hm i hi]; exact h3 i hi (hne i hi)
  · rw [← hm i hi]; exact h6 i hi (hne i hi)
  · rw [← hm i hi]; exact h7 i hi (hne i hi)
theorem matW_row (h : SL w0 w l) (k : Nat) (hk : l[k]? = some (matW T E g n t ms hs cs rows)) (i : Nat) (hi : i < n) (ht : i ≠ t) : w.cell? ⟨g, i, none⟩ = some (.slice (some ⟨hs i, 0, none⟩) (ms i) (cs i)) ∧ w.frozen? ⟨g, i, none⟩ = false ∧ g < w.heap.size := by
  obtain ⟨S, ⟨_, _, _, ⟨cells, h5, _, h6⟩, _⟩, _⟩ := h.nth k hk
  exact ⟨(blk_cell h5 i).trans (h6 i hi ht), blk_frozen h5 i, blk_lt h5⟩
theorem matW_any (h : SL w0 w l) (k : Nat) (hk : l[k]? = some (matW T E g n t ms hs cs rows)) (i : Nat) (hi : i < n) : ∃ u, w.cell? ⟨g, i, none⟩ = some u ∧ w.frozen? ⟨g, i, none⟩ = false := by
  obtain ⟨S, ⟨_, _, _, ⟨cells, h5, h6, _⟩, _⟩, _⟩ := h.nth k hk
  exact ⟨_, (blk_cell h5 i).trans (Array.getElem?_eq_getElem (show i < cells.size by omega)), blk_frozen h5 i⟩
/-- The row's numbers, as a list. -/
def rowL (rows : Nat → Nat → Int) (i m : Nat) : List Int := (List.range m).map (rows i)
theorem rowL_len (rows : Nat → Nat → Int) (i m : Nat) : (rowL rows i m).length = m := by unfold rowL; rw [List.length_map, List.length_range]
theorem rowL_at (rows : Nat → Nat → Int) (i m j : Nat) (h : j < m) : (rowL rows i m)[j]? = some (rows i j) := by
  unfold rowL
  rw [List.getElem?_map, List.getElem?_eq_getElem (by rw [List.length_range]; exact h), List.getElem_range]
  rfl
/-- A row taken out. -/
theorem matW_take (h : SL w0 w (matW T E g n n ms hs cs rows :: l)) (i : Nat) (hi : i < n) : SL w0 w (matW T E g n i ms hs cs rows :: rowA (Kd.int .i64) E (.slice (some ⟨hs i, 0, none⟩) (ms i) (cs i)) (rowL rows i (ms i)) :: l) := by
  refine SL.part (h.imp 0 rfl (fun S hA => ?_))
  obtain ⟨⟨h1, h2⟩, h3, h4, ⟨cells, h5, h5', h6⟩, h7⟩ := hA
  have hne : ∀ i, i < n → i ≠ n := fun i hi => Nat.ne_of_lt hi
  have hi3 := h3 i hi (hne i hi)
  obtain ⟨c, h8, h9, h10⟩ := h7 i hi (hne i hi)
  refine ⟨fun k => S k ∧ k ≠ hs i, fun k => k = hs i, fun k hk => hk.1, fun k hk => hk ▸ hi3.1, fun k hk e => hk.2 e, ⟨⟨⟨h1, fun e => hi3.2.2.1 e.symm⟩, h2⟩, fun j hj hji => ?_, fun a b ha hb _ _ => h4 a b ha hb (hne a ha) (hne b hb), ⟨cells, h5, h5', fun j hj _ => h6 j hj (hne j hj)⟩, fun j hj _ => h7 j hj (hne j hj)⟩, ?_⟩
  · have := h3 j hj (hne j hj)
    exact ⟨⟨this.1, fun e => hji (h4 j i hj hi (hne j hj) (hne i hi) e)⟩, this.2⟩
  · have := ints_of_cur (kk := .i64) (e := E) (g := hs i) (cap := cs i) (B := w0.heap.size) (w := w) (ok := fun k => k = hs i) (xs := rowL rows i (ms i)) (cur := c.toList) rfl hi3.2.1 (by rw [h8]) (by rw [rowL_len]; exact hi3.2.2.2.1) (by rw [Array.length_toList]; exact h9) hi3.2.2.2.2 (by
      rw [rowL_len]
      apply List.ext_getElem?
      intro j
      by_cases hj : j < ms i
      · rw [List.getElem?_take_of_lt hj, List.getElem?_map, rowL_at rows i (ms i) j hj, Array.getElem?_toList, h10 j hj]
        rfl
      · rw [List.getElem?_eq_none (by rw [List.length_take]; omega), List.getElem?_eq_none (by rw [List.length_map, rowL_len]; omega)])
    rw [rowL_len] at this
    exact this
/-- The row put back: its header is stored. -/
theorem matW_put {i gr cr q : Nat} {p : List Int} (h : SL w0 w (matW T E g n i ms hs cs rows :: rowA (Kd.int .i64) E (.slice (some ⟨gr, 0, none⟩) q cr) p :: l)) (hi : i < n) (hp : p.length = q) :
    SL w0 (w.setCell ⟨g, i, none⟩ (.slice (some ⟨gr, 0, none⟩) q cr)) (matW T E g n n (fun j => if j = i then q else ms j) (fun j => if j = i then gr else hs j) (fun j => if j = i then cr else cs j) (fun a b => if a = i then p.getD b 0 else rows a b) :: l) := by
  refine h.join.upd 0 rfl (fun S hS hA => ?_)
  obtain ⟨S1, S2, h1, h2, h3, ⟨⟨a1, a2⟩, a3, a4, ⟨cells, a5, a8, a6⟩, a7⟩, h5⟩ := hA
  obtain ⟨cur, c1, c2, c3, c4, c5, c6, c7, c8⟩ := ints_cur h5
  have hgr : gr ≠ g := fun e => h3 g a1 (e ▸ c7)
  refine ⟨Wrote.setCell (p := ⟨g, i, none⟩) (h1 g a1) _, ⟨.inl (h1 g a1), a2⟩, fun j hj _ => ?_, fun a b ha hb _ _ e => ?_, ⟨cells.setIfInBounds i (.slice (some ⟨gr, 0, none⟩) q cr), blk_set a5 i _, by rw [Array.size_setIfInBounds]; exact a8, fun j hj _ => ?_⟩, fun j hj _ => ?_⟩
  · by_cases e : j = i
    · simp only [if_pos e]
      exact ⟨.inl (h2 gr c7), c8, hgr, by omega, c5⟩
    · simp only [if_neg e]
      have := a3 j hj e
      exact ⟨.inl (h1 _ this.1), this.2⟩
  · simp only at e
    by_cases ea : a = i
    · by_cases eb : b = i
      · omega
      · rw [if_pos ea, if_neg eb] at e
        exact absurd (h3 _ (a3 b hb eb).1) (fun q => q (e ▸ c7))
    · by_cases eb : b = i
      · rw [if_neg ea, if_pos eb] at e
        exact absurd (h3 _ (a3 a ha ea).1) (fun q => q (e ▸ c7))
      · rw [if_neg ea, if_neg eb] at e
        exact a4 a b ha hb ea eb e
  · rw [Array.getElem?_setIfInBounds]
    by_cases e : i = j
    · subst e
      simp only [if_true]
      rw [if_pos (show i < cells.size by omega)]
    · rw [if_neg e]
      simp only [if_neg (Ne.symm e)]
      exact a6 j hj (Ne.symm e)
  · by_cases e : j = i
    · subst e
      simp only [if_true]
      refine ⟨cur.toArray, blk_far c1 (p := ⟨g, j, none⟩) hgr _, by rw [List.size_toArray]; exact c4, fun b hb => ?_⟩
      rw [List.getElem?_toArray]
      have h9 : (cur.take p.length)[b]? = some (.int .i64 (p.getD b 0)) := by
        rw [c6, List.getElem?_map, List.getElem?_eq_getElem (by omega), List.getD_eq_getElem?_getD, List.getElem?_eq_getElem (by omega)]
        rfl
      rw [List.getElem?_take_of_lt (by omega)] at h9
      exact h9
    · simp only [if_neg e]
      obtain ⟨c, d1, d2, d3⟩ := a7 j hj e
      exact ⟨c, blk_far d1 (p := ⟨g, i, none⟩) (a3 j hj e).2.2.1 _, d2, d3⟩
theorem matW_cong {ms' hs' cs' : Nat → Nat} {rows' : Nat → Nat → Int} (h : SL w0 w (matW T E g n n ms hs cs rows :: l)) (hm : ∀ i, i < n → ms i = ms' i) (hh : ∀ i, i < n → hs i = hs' i) (hc : ∀ i, i < n → cs i = cs' i) (hr : ∀ i j, i < n → j < ms i → rows i j = rows' i j) : SL w0 w (matW T E g n n ms' hs' cs' rows' :: l) := by
  refine h.imp 0 rfl (fun S hA => ?_)
  obtain ⟨h1, h3, h4, ⟨cells, h5, h5', h6⟩, h7⟩ := hA
  refine ⟨h1, fun i hi ht => ?_, fun i j hi hj hti htj e => h4 i j hi hj hti htj (by rw [hh i hi, hh j hj]; exact e), ⟨cells, h5, h5', fun i hi ht => ?_⟩, fun i hi ht => ?_⟩
  · rw [← hm i hi, ← hh i hi, ← hc i hi]; exact h3 i hi ht
  · rw [← hm i hi, ← hh i hi, ← hc i hi]; exact h6 i hi ht
  · obtain ⟨c, h8, h9, h10⟩ := h7 i hi ht
    rw [← hm i hi, ← hh i hi, ← hc i hi]
    exact ⟨c, h8, h9, fun j hj => by rw [h10 j hj, hr i j hi hj]⟩
end
open Go.Proofs.Ytpaenlplpaabjaa.Det
/-- The width of row j, where v stands beside the first i rows. -/
def widN (n i : Nat) : Nat → Nat := fun j => if j < i then n + 1 else n
theorem wid_next {T E g n gr cr i : Nat} {hs cs : Nat → Nat} {A : Mx} {v : Nat → Nat} {w0 w : World} {l : List Asn} (hi : i < n)
    (h : SL w0 w (matW T E g n i (widN n i) hs cs (fun a b => ((widM A n v i a b : Nat) : Int)) :: rowA (Kd.int .i64) E (.slice (some ⟨gr, 0, none⟩) (n + 1) cr) (rowL (fun a b => ((widM A n v i a b : Nat) : Int)) i n ++ [((v i : Nat) : Int)]) :: l)) :
    ∃ hs' cs', SL w0 (w.setCell ⟨g, i, none⟩ (.slice (some ⟨gr, 0, none⟩) (n + 1) cr)) (matW T E g n n (widN n (i + 1)) hs' cs' (fun a b => ((widM A n v (i + 1) a b : Nat) : Int)) :: l) := by
  refine ⟨_, _, matW_cong (matW_put h hi (by rw [List.length_append, rowL_len]; rfl)) (fun j hj => ?_) (fun _ _ => rfl) (fun _ _ => rfl) (fun a b ha hb => ?_)⟩
  · unfold widN
    by_cases e : j = i
    · simp only [if_pos e]
      rw [if_pos (by omega)]
    · simp only [if_neg e]
      by_cases h2 : j < i
      · rw [if_pos h2, if_pos (by omega)]
      · rw [if_neg h2, if_neg (by omega)]
  · by_cases e : a = i
    · subst e
      simp only [if_true] at hb ⊢
      rw [List.getD_eq_getElem?_getD]
      by_cases h2 : b < n
      · rw [List.getElem?_append_left (by rw [rowL_len]; exact h2), rowL_at _ _ _ _ h2]
        show ((widM A n v a a b : Nat) : Int) = _
        unfold widM
        rw [if_neg (by omega), if_neg (by omega)]
      · have hbn : b = n := by omega
        subst hbn
        rw [List.getElem?_append_right (by rw [rowL_len]; exact Nat.le_refl _), rowL_len, Nat.sub_self]
        show ((v a : Nat) : Int) = _
        unfold widM
        rw [if_pos ⟨by omega, rfl⟩]
    · simp only [if_neg e]
      unfold widM
      by_cases h2 : a < i ∧ b = n
      · rw [if_pos h2, if_pos ⟨by omega, h2.2⟩]
      · rw [if_neg h2, if_neg (fun h3 => h2 ⟨by omega, h3.2⟩)]
theorem wid_start {T E g n : Nat} {hs cs : Nat → Nat} {A : Mx} {v : Nat → Nat} {w0 w : World} {l : List Asn} (h : SL w0 w (matN T E g n n hs cs A :: l)) : SL w0 w (matW T E g n n (widN n 0) hs cs (fun a b => ((widM A n v 0 a b : Nat) : Int)) :: l) := by
  rw [wid_zero]
  exact matW_cong (matW_start h) (fun j _ => by unfold widN; rw [if_neg (by omega)]) (fun _ _ => rfl) (fun _ _ => rfl) (fun _ _ _ _ => rfl)
theorem wid_end {T E g n : Nat} {hs cs : Nat → Nat} {A : Mx} {v : Nat → Nat} {w0 w : World} {l : List Asn} (h : SL w0 w (matW T E g n n (widN n n) hs cs (fun a b => ((widM A n v n a b : Nat) : Int)) :: l)) : SL w0 w (matN T E g n (n + 1) hs cs (widM A n v n) :: l) :=
  matW_end h (fun j hj => by unfold widN; rw [if_pos hj])
theorem wid_at {T E g n i : Nat} {hs cs : Nat → Nat} {A : Mx} {v : Nat → Nat} {w0 w : World} {l : List Asn} (h : SL w0 w l) (k : Nat) (hk : l[k]? = some (matW T E g n n (widN n i) hs cs (fun a b => ((widM A n v i a b : Nat) : Int)))) (hi : i < n) : w.cell? ⟨g, i, none⟩ = some (.slice (some ⟨hs i, 0, none⟩) n (cs i)) ∧ w.frozen? ⟨g, i, none⟩ = false := by
  have h1 := matW_row h k hk i hi (Nat.ne_of_lt hi)
  have h2 : widN n i i = n := by unfold widN; rw [if_neg (Nat.lt_irrefl _)]
  rw [h2] at h1
  exact ⟨h1.1, h1.2.1⟩
theorem wid_take {T E g n i : Nat} {hs cs : Nat → Nat} {A : Mx} {v : Nat → Nat} {w0 w : World} {l : List Asn} (h : SL w0 w (matW T E g n n (widN n i) hs cs (fun a b => ((widM A n v i a b : Nat) : Int)) :: l)) (hi : i < n) :
    SL w0 w (matW T E g n i (widN n i) hs cs (fun a b => ((widM A n v i a b : Nat) : Int)) :: rowA (Kd.int .i64) E (.slice (some ⟨hs i, 0, none⟩) n (cs i)) (rowL (fun a b => ((widM A n v i a b : Nat) : Int)) i n) :: l) := by
  have h1 := matW_take h i hi
  have h2 : widN n i i = n := by unfold widN; rw [if_neg (Nat.lt_irrefl _)]
  rw [h2] at h1
  exact h1
theorem outE_cell {T c co e go : Nat} {R : Mx} {w0 w : World} {l : List Asn} (h : SL w0 w l) (k : Nat) (hk : l[k]? = some (rowA (Kd.int .i64) T (.slice (some ⟨go, 0, none⟩) c co) (outE R c e))) (j : Nat) (hj : j < c) (x : Nat) (hx : x = subX R c e j) : w.cell? ⟨go, j, none⟩ = some (.int .i64 (x : Int)) := by
  have h1 := (h.int k hk (j : Int) (Int.natCast_nonneg j) (by rw [outE_len]; exact Int.ofNat_lt.2 hj)).1
  rw [Int.toNat_natCast] at h1
  rw [h1, hx, ← outE_at R c e j hj]
  unfold rd
  rw [Int.toNat_natCast]
end Go.Proofs.Ytpaenlplpaabjaa.QMatInverts
