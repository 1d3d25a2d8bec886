/- Matrices of the call's own, rows apart from each other: sayings for a list of sayings, and what a step does to them. No conditions. -/
import Derived.Test.YtpaenlplpaabjaaSep
set_option linter.unusedVariables false
set_option linter.unusedSimpArgs false
namespace Go.Proofs.Ytpaenlplpaabjaa.MatB
open Go.RowKit Go.Proofs.YtpaenlplpaabjaaW.PrintWords Go.Proofs.Ytpaenlplpaabjaa.Sep
variable {P : Program} {ops : Array Oper} {rest : List Oper} {o : Oper} {a : Act} {Q : Exit → Act → World → Prop}
/-- A row of elements that lead to blocks of their own each. -/
def sA {α : Type} (d : Kd α) (e : Nat) (v : Value) (xs : List α) : Asn where
  H := fun w B S => Kd.S d e w B S v xs
  step := fun hm ⟨f, h⟩ => ⟨f, Kd.R_step h hm⟩
  mono := fun hs ⟨f, h⟩ => ⟨f, Kd.R_mono h hs⟩
  bound := fun ⟨f, h⟩ => ⟨f, Kd.R_mono (Kd.R_bound h) (fun k hk => ⟨hk.1, hk.2.1, hk.2.2.1⟩)⟩
  lower := fun hb ⟨f, h⟩ => ⟨f, Kd.R_lower h hb⟩
theorem sA_nil {α : Type} {w0 w : World} {l : List Asn} (h : SL w0 w l) (d : Kd α) (e : Nat) : SL w0 w (sA d e (.slice none 0 0) [] :: l) :=
  h.new (S := fun _ => True) (Below.refl _ _) ⟨fun _ => 0, Kd.R_nil _ _ _ _ _⟩
theorem sA_row {α : Type} {d : Kd α} {e : Nat} {v : Value} {xs : List α} {w0 w : World} {l : List Asn} (h : SL w0 w l) (k : Nat) (hk : l[k]? = some (sA d e v xs)) : d.R e w w0.heap.size (fun _ => True) v xs := by
  obtain ⟨S, hS, _⟩ := h.nth k hk
  exact Kd.R_mono (Kd.S_R hS) (fun _ _ => trivial)
theorem sA_slice {α : Type} {d : Kd α} {e : Nat} {v : Value} {xs : List α} {w0 w : World} {l : List Asn} (h : SL w0 w l) (k : Nat) (hk : l[k]? = some (sA d e v xs)) : ∃ A c, v = .slice A xs.length c := Kd.R_slice (sA_row h k hk)
/-- append of a row of the call's own to a row of such rows. -/
theorem append_srow {α : Type} (d : Kd α) (e' : Nat) {w0 W : World} {l : List Asn} {v vr : Value} {xs : List (List α)} {p : List α} (hgd : o.guard = none) (s x : Operand) (t e : TypeId) (z : Value) (bytes : Nat)
    (ho : o.op = .call { callee := .builtin .append, args := #[s, x], argTypes := #[t, t] })
    (ht : P.underlying t = some (.slice e)) (hinfo : (P.info? e).map (fun i => (i.zero, i.size, i.bytes)) = some (some z, 1, bytes)) (hz : z.cells.size = 1) (hb0 : 0 < bytes)
    (hSL : SL w0 W (sA (Kd.slice e' d) e v xs :: rowA d e' vr p :: l)) (hs : a.eval s = v) (hx : a.eval x = .slice (some ⟨W.heap.size, 0, none⟩) 1 1) (hl : (xs.length + 1) * bytes ≤ 140737488355328)
    (h : ∀ v1 w1, SL w0 w1 (sA (Kd.slice e' d) e v1 (xs ++ [p]) :: l) → wpList P ops Q rest (a.put o.dst v1) w1) :
    wpList P ops Q (o :: rest) a (W.alloc (.cells #[vr] e)) := by
  obtain ⟨hb, S, _, hA, S2, hS2, hM, hr⟩ := hSL
  have hA := Asn.bound (sA (Kd.slice e' d) e v xs) hA
  have hM := Asn.bound (rowA d e' vr p) hM
  have hr := hr.bound
  have hown : ∀ k, v.ownBlock = some k → S k := fun k hk => by
    obtain ⟨f, h0, _⟩ := hA
    exact (h0 k hk).1
  refine Kd.S_append (Kd.slice e' d) w0.heap.size hgd s x t e z bytes ho ht hinfo hz (show 0 < 1 from Nat.zero_lt_one) hb0 v xs p [vr] (fun k => (S k ∨ S2 k) ∧ w0.heap.size ≤ k ∧ k < W.heap.size ∨ W.heap.size ≤ k) (fun k => S2 k ∧ w0.heap.size ≤ k ∧ k < W.heap.size) hs hx ⟨vr, rfl, hM⟩ (fun k hk => ⟨.inl ⟨.inr hk.1, hk.2⟩, fun e => (hS2 k hk.1).2 (hown k e.symm)⟩) (fun k hk => .inr hk) ?_ hb hb.size hl ?_
  · obtain ⟨f, hf⟩ := hA
    exact ⟨f, Kd.R_mono hf (fun k hk => ⟨.inl ⟨.inl hk.1, hk.2⟩, fun h2 => (hS2 k h2.1).2 hk.1⟩)⟩
  intro v1 w1 hR hb1 hg hat
  refine h v1 w1 ⟨hb1, _, fun _ _ => trivial, hR, (hr.step (fun k hk hlt => hg.block k hlt (fun e => ?_))).mono (fun k hk => ⟨trivial, fun h2 => h2.elim (fun h3 => h3.1.elim hk.1.1.2 hk.1.2) (fun h3 => by have := hk.2.2; omega)⟩)⟩
  exact hk.1.1.2 (hown k e.symm)
/-! ### A matrix: block g holds the rows (n of them, m numbers each), row i lies in block hs i. -/
def matA (T E : TypeId) (g n m : Nat) (hs cs : Nat → Nat) (rows : Nat → Nat → Int) : Asn where
  H := fun w B S => (S g ∧ B ≤ g) ∧ (∀ i, i < n → S (hs i) ∧ B ≤ hs i ∧ hs i ≠ g ∧ m ≤ cs i ∧ cs i ≤ maxLen) ∧ (∀ i j, i < n → j < n → hs i = hs j → i = j) ∧
    (∃ cells, w.heap[g]? = some (.cells cells T (0, 0)) ∧ ∀ i, i < n → cells[i]? = some (.slice (some ⟨hs i, 0, none⟩) m (cs i))) ∧
    (∀ i, i < n → ∃ cells, w.heap[hs i]? = some (.cells cells E (0, 0)) ∧ cells.size = cs i ∧ ∀ j, j < m → cells[j]? = some (.int .i64 (rows i j)))
  step := by
    rintro w w' B S hm ⟨⟨h1, h2⟩, h3, h4, ⟨cells, h5, h6⟩, h7⟩
    refine ⟨⟨h1, h2⟩, h3, h4, ⟨cells, (hm g h1 (blk_lt h5)).trans h5, h6⟩, fun i hi => ?_⟩
    obtain ⟨c, h8, h9⟩ := h7 i hi
    exact ⟨c, (hm _ (h3 i hi).1 (blk_lt h8)).trans h8, h9⟩
  mono := fun hs h => ⟨⟨hs _ h.1.1, h.1.2⟩, fun i hi => ⟨hs _ (h.2.1 i hi).1, (h.2.1 i hi).2⟩, h.2.2⟩
  bound := by
    rintro w B S ⟨⟨h1, h2⟩, h3, h4, ⟨cells, h5, h6⟩, h7⟩
    refine ⟨⟨⟨h1, h2, blk_lt h5⟩, h2⟩, fun i hi => ?_, h4, ⟨cells, h5, h6⟩, h7⟩
    obtain ⟨c, h8, h9⟩ := h7 i hi
    exact ⟨⟨(h3 i hi).1, (h3 i hi).2.1, blk_lt h8⟩, (h3 i hi).2⟩
  lower := fun hb h => ⟨⟨h.1.1, Nat.le_trans hb h.1.2⟩, fun i hi => ⟨(h.2.1 i hi).1, Nat.le_trans hb (h.2.1 i hi).2.1, (h.2.1 i hi).2.2⟩, h.2.2⟩
section
variable {T E : TypeId} {g n m : Nat} {hs cs : Nat → Nat} {rows : Nat → Nat → Int} {w0 w : World} {l : List Asn}
theorem mat_row (h : SL w0 w l) (k : Nat) (hk : l[k]? = some (matA T E g n m hs cs rows)) (i : Nat) (hi : i < n) : w.cell? ⟨g, i, none⟩ = some (.slice (some ⟨hs i, 0, none⟩) m (cs i)) ∧ w.frozen? ⟨g, i, none⟩ = false ∧ g < w.heap.size := by
  obtain ⟨S, ⟨_, _, _, ⟨cells, h5, h6⟩, _⟩, _⟩ := h.nth k hk
  exact ⟨(blk_cell h5 i).trans (h6 i hi), blk_frozen h5 i, blk_lt h5⟩
theorem mat_cell (h : SL w0 w l) (k : Nat) (hk : l[k]? = some (matA T E g n m hs cs rows)) (i j : Nat) (hi : i < n) (hj : j < m) : w.cell? ⟨hs i, j, none⟩ = some (.int .i64 (rows i j)) ∧ w.frozen? ⟨hs i, j, none⟩ = false ∧ hs i < w.heap.size := by
  obtain ⟨S, ⟨_, _, _, _, h7⟩, _⟩ := h.nth k hk
  obtain ⟨c, h8, _, h9⟩ := h7 i hi
  exact ⟨(blk_cell h8 j).trans (h9 j hj), blk_frozen h8 j, blk_lt h8⟩
theorem mat_le (h : SL w0 w l) (k : Nat) (hk : l[k]? = some (matA T E g n m hs cs rows)) (i : Nat) (hi : i < n) : m ≤ cs i ∧ cs i ≤ maxLen := by
  obtain ⟨S, ⟨_, h3, _⟩, _⟩ := h.nth k hk
  exact (h3 i hi).2.2.2
theorem mat_ne (h : SL w0 w l) (k : Nat) (hk : l[k]? = some (matA T E g n m hs cs rows)) (i j : Nat) (hi : i < n) (hj : j < n) (hij : i ≠ j) : hs i ≠ hs j := by
  obtain ⟨S, ⟨_, _, h4, _⟩, _⟩ := h.nth k hk
  exact fun e => hij (h4 i j hi hj e)
def setM (rows : Nat → Nat → Int) (i j : Nat) (x : Int) : Nat → Nat → Int := fun a b => if a = i ∧ b = j then x else rows a b
def swp (a b i : Nat) : Nat := if i = a then b else if i = b then a else i
theorem swp_lt {a b i n : Nat} (ha : a < n) (hb : b < n) (hi : i < n) : swp a b i < n := by unfold swp; split; exact hb; split; exact ha; exact hi
theorem swp_swp (a b i : Nat) : swp a b (swp a b i) = i := by unfold swp; split <;> split <;> (try split) <;> omega
/-- A number of a row is written. -/
theorem mat_put (h : SL w0 w l) (k : Nat) (hk : l[k]? = some (matA T E g n m hs cs rows)) (i j : Nat) (hi : i < n) (x : Int) : SL w0 (w.setCell ⟨hs i, j, none⟩ (.int .i64 x)) (l.set k (matA T E g n m hs cs (setM rows i j x))) := by
  refine h.upd k hk (fun S hS hA => ?_)
  obtain ⟨⟨h1, h2⟩, h3, h4, ⟨cells, h5, h6⟩, h7⟩ := hA
  refine ⟨Wrote.setCell (p := ⟨hs i, j, none⟩) (h3 i hi).1 _, ⟨.inl h1, h2⟩, fun q hq => ⟨.inl (h3 q hq).1, (h3 q hq).2⟩, h4, ⟨cells, blk_far h5 (p := ⟨hs i, j, none⟩) (fun e => (h3 i hi).2.2.1 e.symm) _, h6⟩, fun q hq => ?_⟩
  obtain ⟨c, h8, h10, h9⟩ := h7 q hq
  by_cases e : q = i
  · subst e
    refine ⟨_, blk_set h8 j _, by simpa using h10, fun b hb => ?_⟩
    rw [Array.getElem?_setIfInBounds]
    unfold setM
    by_cases e2 : j = b
    · subst e2
      have hlt : j < c.size := (Array.getElem?_eq_some_iff.1 (h9 j hb)).1
      rw [if_pos rfl, if_pos hlt, if_pos ⟨rfl, rfl⟩]
    · rw [if_neg e2, if_neg (fun h => e2 h.2.symm)]
      exact h9 b hb
  · refine ⟨c, blk_far h8 (p := ⟨hs i, j, none⟩) (fun e2 => e (h4 q i hq hi e2)) _, h10, fun b hb => ?_⟩
    unfold setM
    rw [if_neg (fun h => e h.1)]
    exact h9 b hb
/-- Two rows change places. -/
theorem mat_swap (h : SL w0 w l) (k : Nat) (hk : l[k]? = some (matA T E g n m hs cs rows)) (a b : Nat) (ha : a < n) (hb : b < n) :
    SL w0 ((w.setCell ⟨g, a, none⟩ (.slice (some ⟨hs b, 0, none⟩) m (cs b))).setCell ⟨g, b, none⟩ (.slice (some ⟨hs a, 0, none⟩) m (cs a))) (l.set k (matA T E g n m (fun i => hs (swp a b i)) (fun i => cs (swp a b i)) (fun i => rows (swp a b i)))) := by
  refine h.upd k hk (fun S hS hA => ?_)
  obtain ⟨⟨h1, h2⟩, h3, h4, ⟨cells, h5, h6⟩, h7⟩ := hA
  refine ⟨Wrote.then_ (Wrote.setCell (p := ⟨g, a, none⟩) h1 _) (Wrote.setCell (S := S) (p := ⟨g, b, none⟩) h1 _) (fun j hj => .inl hj), ⟨.inl h1, h2⟩, fun q hq => ?_, fun i j hi hj e => ?_, ⟨_, blk_set (blk_set h5 a _) b _, fun i hi => ?_⟩, fun q hq => ?_⟩
  · have := h3 _ (swp_lt ha hb hq)
    exact ⟨.inl this.1, this.2⟩
  · have h10 := h4 _ _ (swp_lt ha hb hi) (swp_lt ha hb hj) e
    rw [← swp_swp a b i, h10, swp_swp]
  · rw [Array.getElem?_setIfInBounds, Array.getElem?_setIfInBounds, Array.size_setIfInBounds]
    have hla : a < cells.size := (Array.getElem?_eq_some_iff.1 (h6 a ha)).1
    have hlb : b < cells.size := (Array.getElem?_eq_some_iff.1 (h6 b hb)).1
    show _ = some (Value.slice (some ⟨hs (swp a b i), 0, none⟩) m (cs (swp a b i)))
    by_cases e1 : b = i
    · subst e1
      rw [if_pos rfl, if_pos hlb, show swp a b b = a from by unfold swp; split; exact (by assumption); rw [if_pos rfl]]
    · rw [if_neg e1]
      by_cases e2 : a = i
      · subst e2; rw [if_pos rfl, if_pos hla, show swp a b a = b from by unfold swp; rw [if_pos rfl]]
      · rw [if_neg e2, show swp a b i = i from by unfold swp; rw [if_neg (Ne.symm e2), if_neg (Ne.symm e1)]]
        exact h6 i hi
  · obtain ⟨c, h8, h9⟩ := h7 _ (swp_lt ha hb hq)
    have hne := (h3 _ (swp_lt ha hb hq)).2.2.1
    exact ⟨c, blk_far (blk_far h8 (p := ⟨g, a, none⟩) hne _) (p := ⟨g, b, none⟩) hne _, h9⟩
/-- Rows of the call's own, each in blocks of its own, are a matrix. -/
theorem to_mat {v : Value} {xs : List (List Int)} (h : SL w0 w (sA (Kd.slice E (Kd.int .i64)) T v xs :: l)) (hn : 0 < xs.length) (hm : 0 < m) (hrow : ∀ x ∈ xs, x.length = m) :
    ∃ g cap hs cs, v = .slice (some ⟨g, 0, none⟩) xs.length cap ∧ xs.length ≤ cap ∧ SL w0 w (matA T E g xs.length m hs cs (fun i j => (xs.getD i []).getD j 0) :: l) := by
  obtain ⟨hb, S, hS, hA, hr⟩ := h
  obtain ⟨f, hR⟩ := hA
  have hS0 : Kd.S (Kd.slice E (Kd.int .i64)) T w w0.heap.size S v xs := ⟨f, hR⟩
  obtain ⟨g, cap, e, hg1, hg2, cells, hg3⟩ := Kd.R_form (Kd.S_R hS0) hn
  subst e
  have hcap := (Kd.R_reads' (Kd.S_R hS0)).2.1
  have hSg : S g := hR.1 g (by simp [Value.ownBlock])
  have key : ∀ i, ∃ hc : Nat × Nat, i < xs.length → (S hc.1 ∧ w0.heap.size ≤ hc.1 ∧ hc.1 ≠ g ∧ m ≤ hc.2 ∧ hc.2 ≤ maxLen) ∧ f hc.1 = i ∧ w.cell? ⟨g, i, none⟩ = some (.slice (some ⟨hc.1, 0, none⟩) m hc.2) ∧
      ∃ c, w.heap[hc.1]? = some (.cells c E (0, 0)) ∧ c.size = hc.2 ∧ ∀ j, j < m → c[j]? = some (.int .i64 ((xs.getD i []).getD j 0)) := by
    intro i
    by_cases hi : i < xs.length
    · have hl : xs.zipIdx.length = xs.length := List.length_zipIdx
      have hR2 := hR
      obtain ⟨_, inner, ho, hrep⟩ := hR2
      obtain ⟨hx1, hx2⟩ := hrep
      have hz : xs.zipIdx[i]? = some (xs[i], i) := Kd.zip_at (List.getElem?_eq_getElem hi)
      have hMi := hx2 i (xs[i], i) hz
      obtain ⟨vi, hvi, hRi⟩ := hMi
      have hlen : xs[i].length = m := hrow _ (List.getElem_mem _)
      obtain ⟨h1, inn1, ho1, hr1⟩ := hRi
      rcases ho1.2 with ⟨_, hc0⟩ | ⟨gi, capi, cur, hvi2, hbi, hheap, hnc, hcl, hcs, htk⟩
      · have hc0' : xs[i].length = 0 := hc0
        omega
      · subst hvi2
        have hnc' : xs[i].length ≤ capi := hnc
        have hcs'' : cur.size = capi := hcs.trans (Nat.mul_one capi)
        have hgi := h1 gi (by simp [Value.ownBlock])
        refine ⟨(gi, capi), fun _ => ⟨⟨hgi.1.1, hbi, fun e => hgi.1.2 (by simp only [Value.ownBlock]; exact congrArg some e), by omega, hcl⟩, hgi.2, ?_, cur, hheap, hcs'', fun j hj => ?_⟩⟩
        · rcases ho.2 with ⟨hv0, _⟩ | ⟨g', cap', cur', hv', _, hheap', _, _, hcs', htk'⟩
          · cases hv0
          · injection hv' with e1 _ _
            injection e1 with e1
            injection e1 with e1 _ _
            subst e1
            rw [blk_cell hheap']
            have h20 : ((inner.drop (i * 1)).take 1)[0]? = some (Value.slice (some ⟨gi, 0, none⟩) xs[i].length capi) := by
              have h22 : (inner.drop (i * (Kd.tag f (Kd.slice E (Kd.int .i64))).sz)).take (Kd.tag f (Kd.slice E (Kd.int .i64))).sz = [Value.slice (some ⟨gi, 0, none⟩) xs[i].length capi] := hvi
              have h23 : (inner.drop (i * 1)).take 1 = [Value.slice (some ⟨gi, 0, none⟩) xs[i].length capi] := h22
              rw [h23]
              rfl
            rw [List.getElem?_take_of_lt (by decide), List.getElem?_drop, ← htk', Nat.mul_one, Nat.add_zero] at h20
            have hlt : i < xs.zipIdx.length * (Kd.tag f (Kd.slice E (Kd.int .i64))).sz := by show i < xs.zipIdx.length * 1; omega
            rw [List.getElem?_take_of_lt hlt] at h20
            rw [hlen] at h20
            simpa using h20
        · have h30 := hr1.2 j (xs[i].getD j 0) (by rw [List.getD_eq_getElem?_getD, List.getElem?_eq_getElem (show j < xs[i].length by omega)]; rfl)
          have h31 : (inn1.drop (j * 1)).take 1 = [Value.int .i64 (xs[i].getD j 0)] := h30
          have h32 : ((inn1.drop (j * 1)).take 1)[0]? = some (Value.int .i64 (xs[i].getD j 0)) := by rw [h31]; rfl
          rw [List.getElem?_take_of_lt (by decide), List.getElem?_drop, ← htk, Nat.mul_one, Nat.add_zero] at h32
          have h33 := (List.getElem?_eq_some_iff.1 h32).1
          rw [List.length_take] at h33
          rw [List.getElem?_take_of_lt (by omega)] at h32
          rw [List.getD_eq_getElem?_getD (l := xs), List.getElem?_eq_getElem hi]
          simpa using h32
    · exact ⟨(0, 0), fun h => absurd h hi⟩
  obtain ⟨F, hF⟩ := Classical.skolem.1 key
  refine ⟨g, cap, fun i => (F i).1, fun i => (F i).2, rfl, hcap, hb, S, hS, ⟨⟨hSg, hg1⟩, fun i hi => (hF i hi).1, fun i j hi hj e => ?_, ⟨cells, hg3, fun i hi => ?_⟩, fun i hi => (hF i hi).2.2.2⟩, hr⟩
  · have e' : (F i).1 = (F j).1 := e
    rw [← (hF i hi).2.1, ← (hF j hj).2.1, e']
  · rw [← blk_cell hg3]
    exact (hF i hi).2.2.1
end
end Go.Proofs.Ytpaenlplpaabjaa.MatB
