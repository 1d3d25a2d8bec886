/- A matrix whose rows are made one by one: its first rows, apart from each other. No conditions. -/
import Derived.Test.YtpaenlplpaabjaaPureInv3
set_option linter.unusedVariables false
set_option linter.unusedSimpArgs false
namespace Go.Proofs.Ytpaenlplpaabjaa.QMatInverts
open Go.RowKit Go.Proofs.YtpaenlplpaabjaaW.PrintWords Go.Proofs.YtpaenlplpaabjaaW.PrintLast Go.Proofs.YtpaenlplpaabjaaW.PrintMore
open Go.Proofs.Ytpaenlplpaabjaa.Sep Go.Proofs.Ytpaenlplpaabjaa.MatB
/-- The first i rows of a matrix of n headers. -/
def matP (T E g n m i : Nat) (hs cs : Nat → Nat) (rows : Nat → Nat → Int) : Asn where
  H := fun w B S => (matA T E g i m hs cs rows).H w B S ∧ ∃ cells, w.heap[g]? = some (.cells cells T (0, 0)) ∧ n ≤ cells.size
  step := fun hm ⟨h1, c, h2, h3⟩ => ⟨(matA T E g i m hs cs rows).step hm h1, c, (hm g h1.1.1 (blk_lt h2)).trans h2, h3⟩
  mono := fun hs' ⟨h1, h2⟩ => ⟨(matA T E g i m hs cs rows).mono hs' h1, h2⟩
  bound := fun ⟨h1, h2⟩ => ⟨(matA T E g i m hs cs rows).bound h1, h2⟩
  lower := fun hb ⟨h1, h2⟩ => ⟨(matA T E g i m hs cs rows).lower hb h1, h2⟩
theorem matP_start {T E E' g n m cap : Nat} {hs cs : Nat → Nat} {rows : Nat → Nat → Int} {w0 w : World} {l : List Asn} {xs : List (List Int)} (h : SL w0 w (rowA (Kd.slice E' (Kd.int .i64)) T (.slice (some ⟨g, 0, none⟩) n cap) xs :: l)) (hn : xs.length = n) : SL w0 w (matP T E g n m 0 hs cs rows :: l) := by
  refine h.imp 0 rfl (fun S hA => ?_)
  obtain ⟨h0, inner, ⟨_, ho⟩, _⟩ := hA
  have hSg : S g := h0 g (by simp [Value.ownBlock])
  rcases ho with ⟨ho, _⟩ | ⟨g', cap', cur, hv, hB, hh, h6, _, h7, _⟩
  · cases ho
  · have e1 : g = g' := by injection hv with a; injection a with a; injection a
    subst e1
    have hsz : cur.size = cap' := h7.trans (Nat.mul_one _)
    exact ⟨⟨⟨hSg, hB⟩, fun j hj => absurd hj (Nat.not_lt_zero _), fun i j hi => absurd hi (Nat.not_lt_zero _), ⟨cur, hh, fun j hj => absurd hj (Nat.not_lt_zero _)⟩, fun j hj => absurd hj (Nat.not_lt_zero _)⟩, cur, hh, by omega⟩
theorem matP_end {T E g n m : Nat} {hs cs : Nat → Nat} {rows : Nat → Nat → Int} {w0 w : World} {l : List Asn} (h : SL w0 w (matP T E g n m n hs cs rows :: l)) : SL w0 w (matA T E g n m hs cs rows :: l) := h.imp 0 rfl (fun S hA => hA.1)
theorem matP_cell {T E g n m i : Nat} {hs cs : Nat → Nat} {rows : Nat → Nat → Int} {w0 w : World} {l : List Asn} (h : SL w0 w l) (k : Nat) (hk : l[k]? = some (matP T E g n m i hs cs rows)) (j : Nat) (hj : j < n) : ∃ u, w.cell? ⟨g, j, none⟩ = some u ∧ w.frozen? ⟨g, j, none⟩ = false := by
  obtain ⟨S, ⟨_, cells, h2, h3⟩, _⟩ := h.nth k hk
  exact ⟨_, (blk_cell h2 j).trans (Array.getElem?_eq_getElem (show j < cells.size by omega)), blk_frozen h2 j⟩
/-- One more row: its header is stored. -/
theorem matP_add {T E g n m i gr cr : Nat} {hs cs : Nat → Nat} {rows : Nat → Nat → Int} {w0 w : World} {l : List Asn} {p : List Int} (hT : T ≠ E) (h : SL w0 w (matP T E g n m i hs cs rows :: rowA (Kd.int .i64) E (.slice (some ⟨gr, 0, none⟩) m cr) p :: l)) (hi : i < n) (hp : p.length = m) :
    SL w0 (w.setCell ⟨g, i, none⟩ (.slice (some ⟨gr, 0, none⟩) m cr)) (matP T E g n m (i + 1) (fun j => if j = i then gr else hs j) (fun j => if j = i then cr else cs j) (fun a b => if a = i then p.getD b 0 else rows a b) :: l) := by
  refine h.join.upd 0 rfl (fun S hS hA => ?_)
  obtain ⟨S1, S2, h1, h2, h3, ⟨⟨⟨a1, a2⟩, a3, a4, ⟨cells, a5, a6⟩, a7⟩, cells2, b1, b2⟩, h5⟩ := hA
  rw [a5] at b1
  have ec : cells = cells2 := by injection b1 with a; injection a
  subst ec
  obtain ⟨cur, c1, c2, c3, c4, c5, c6, c7, c8⟩ := ints_cur h5
  have hgr : gr ≠ g := fun e => h3 g a1 (e ▸ c7)
  refine ⟨Wrote.setCell (p := ⟨g, i, none⟩) (h1 g a1) _, ⟨⟨.inl (h1 g a1), a2⟩, fun j hj => ?_, fun a b ha hb e => ?_, ⟨cells.setIfInBounds i (.slice (some ⟨gr, 0, none⟩) m cr), blk_set a5 i _, fun j hj => ?_⟩, fun j hj => ?_⟩, cells.setIfInBounds i (.slice (some ⟨gr, 0, none⟩) m cr), blk_set a5 i _, by rw [Array.size_setIfInBounds]; exact b2⟩
  · by_cases e : j = i
    · simp only [if_pos e]
      exact ⟨.inl (h2 gr c7), c8, hgr, by omega, c5⟩
    · simp only [if_neg e]
      have := a3 j (by omega)
      exact ⟨.inl (h1 _ this.1), this.2⟩
  · simp only at e
    by_cases ea : a = i
    · by_cases eb : b = i
      · omega
      · rw [if_pos ea, if_neg eb] at e
        exact absurd (h3 _ (a3 b (by omega)).1) (fun q => q (e ▸ c7))
    · by_cases eb : b = i
      · rw [if_neg ea, if_pos eb] at e
        exact absurd (h3 _ (a3 a (by omega)).1) (fun q => q (e ▸ c7))
      · rw [if_neg ea, if_neg eb] at e
        exact a4 a b (by omega) (by omega) e
  · rw [Array.getElem?_setIfInBounds]
    by_cases e : i = j
    · subst e
      simp only [if_true]
      rw [if_pos (show i < cells.size by omega)]
    · rw [if_neg e]
      simp only [if_neg (Ne.symm e)]
      exact a6 j (by omega)
  · by_cases e : j = i
    · subst e
      simp only [if_true]
      refine ⟨cur.toArray, blk_far c1 (p := ⟨g, j, none⟩) hgr _, by rw [List.size_toArray]; exact c4, fun b hb => ?_⟩
      rw [List.getElem?_toArray]
      have h9 : (cur.take p.length)[b]? = some (.int .i64 (p.getD b 0)) := by
        rw [c6, List.getElem?_map, List.getElem?_eq_getElem (by omega), List.getD_eq_getElem?_getD, List.getElem?_eq_getElem (by omega)]
        rfl
      rw [List.getElem?_take_of_lt (by omega)] at h9
      exact h9
    · simp only [if_neg e]
      obtain ⟨c, d1, d2, d3⟩ := a7 j (by omega)
      exact ⟨c, blk_far d1 (p := ⟨g, i, none⟩) (a3 j (by omega)).2.2.1 _, d2, d3⟩
end Go.Proofs.Ytpaenlplpaabjaa.QMatInverts
