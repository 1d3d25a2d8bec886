/- A row of the call's own, as sort.Slice's contract tells one: the cells that it holds, and the row behind the sort. No conditions. -/
import Derived.Test.YthnchojddoefiaaSep
import Derived.Shelf.SlSortFuncK.WholeK
import Derived.Shelf.GgSortFunc.Tiny
set_option linter.unusedVariables false
set_option linter.unusedSimpArgs false
namespace Go.Proofs.Ythnchojddoefiaa.SortRow
open Go.RowKit Go.Proofs.YthnchojddoefiaaW.PrintWords Go.Proofs.Ythnchojddoefiaa.Sep Go.Sort

theorem div_lt (t n k : Nat) (h : t < n * k) : t / k < n := by
  have hk : 0 < k := by
    rcases Nat.eq_zero_or_pos k with h0 | h0
    · subst h0; omega
    · exact h0
  exact (Nat.div_lt_iff_lt_mul hk).2 h
theorem flat_len {α : Type} [Inhabited α] (enc : α → List Value) (k : Nat) (d : Array α) : (flatK enc k d).toList.length = d.size * k := (Array.length_toList).trans (size_flatK enc k d)
theorem flat_list {α : Type} [Inhabited α] (enc : α → List Value) (k : Nat) (hk : ∀ x, (enc x).length = k) (hk0 : 0 < k) (d : Array α) (j : Nat) (p : α) (hj : d.toList[j]? = some p) : ((flatK enc k d).toList.drop (j * k)).take k = enc p := by
  obtain ⟨hlt, he⟩ := List.getElem?_eq_some_iff.1 hj
  have hlt' : j < d.size := by simpa using hlt
  have hb : j * k + k ≤ d.size * k := by have := Nat.mul_le_mul_right k (show j + 1 ≤ d.size from hlt'); rwa [Nat.add_mul, Nat.one_mul] at this
  apply List.ext_getElem
  · rw [List.length_take, List.length_drop, Array.length_toList, size_flatK, hk]; omega
  · intro t h1 h2
    rw [hk] at h2
    have h3 : j * k + t < (flatK enc k d).size := by rw [size_flatK]; omega
    rw [List.getElem_take, List.getElem_drop, Array.getElem_toList]
    have h4 := get_flatK enc k d (j * k + t) (by omega)
    rw [getElem!_pos (flatK enc k d) _ h3] at h4
    rw [h4]
    have e1 : (j * k + t) / k = j := (blk_iff k j _ hk0).1 ⟨by omega, by omega⟩
    have e2 : (j * k + t) % k = t := by rw [Nat.mod_eq_sub_div_mul, e1]; omega
    rw [e1, e2]
    have e3 : d[j]! = p := by rw [getElem!_pos d j hlt', ← he, Array.getElem_toList]
    rw [e3, getElem!_pos (enc p) t (by rw [hk]; exact h2)]
theorem row_flat {α : Type} [Inhabited α] {d : Kd α} (enc : α → List Value) (hk : ∀ x, (enc x).length = d.sz) (hk0 : 0 < d.sz) {w : World} {B : Nat} {ok : Nat → Prop} (hopen : ∀ {x cs}, d.M w B ok x cs → cs = enc x) {xs : List α} {inner : List Value} (h : Reps (d.M w B ok) d.sz xs inner) : inner = (flatK enc d.sz xs.toArray).toList := by
  apply List.ext_getElem
  · rw [h.1, flat_len]; rfl
  · intro t h1 h2
    have hl : t < xs.length * d.sz := by rw [← h.1]; exact h1
    have hq : t / d.sz < xs.length := div_lt t _ _ hl
    have h5 := hopen (h.2 (t / d.sz) xs[t / d.sz] (List.getElem?_eq_getElem hq))
    have hm : t / d.sz * d.sz + t % d.sz = t := by rw [Nat.mul_comm]; exact Nat.div_add_mod t d.sz
    have hlt := Nat.mod_lt t hk0
    have h6 : inner[t] = (enc xs[t / d.sz])[t % d.sz]'(by rw [hk]; exact hlt) := by
      have : ((inner.drop (t / d.sz * d.sz)).take d.sz)[t % d.sz]? = (enc xs[t / d.sz])[t % d.sz]? := by rw [h5]
      rw [List.getElem?_take_of_lt hlt, List.getElem?_drop, hm, List.getElem?_eq_getElem h1, List.getElem?_eq_getElem (by rw [hk]; exact hlt)] at this
      exact Option.some.inj this
    rw [h6]
    have h7 := get_flatK enc d.sz xs.toArray t (by simpa using hl)
    rw [getElem!_pos (flatK enc d.sz xs.toArray) t (by simpa using h2), getElem!_pos xs.toArray (t / d.sz) (by simpa using hq), getElem!_pos (enc _) _ (by rw [hk]; exact hlt)] at h7
    exact h7.symm
theorem row_holds {α : Type} [Inhabited α] {d : Kd α} (enc : α → List Value) (hk : ∀ x, (enc x).length = d.sz) (hk0 : 0 < d.sz) {e g n cap B : Nat} {w : World} {ok : Nat → Prop} (hopen : ∀ {ok : Nat → Prop} {x cs}, d.M w B ok x cs → cs = enc x) {xs : List α} (h : d.R e w B ok (.slice (some ⟨g, 0, none⟩) n cap) xs) : HoldsK enc d.sz w g 0 xs.toArray := by
  obtain ⟨_, inner, ⟨hl, ho⟩, hr⟩ := h
  rcases ho with ⟨ho, _⟩ | ⟨g', cap', cur, hv, hg, hh, h1, h2, h3, h4⟩
  · cases ho
  · have e1 : g = g' := by injection hv with a; injection a with a; injection a
    subst e1
    have hf := row_flat enc hk hk0 hopen hr
    intro j hj
    rw [Nat.zero_add, blk_cell hh]
    refine ⟨?_, blk_frozen hh _⟩
    have h5 : j < inner.length := by rw [hf, flat_len, ← size_flatK enc]; exact hj
    have h6 : cur.toList[j]? = inner[j]? := by rw [← h4, List.getElem?_take_of_lt (by rw [← hl]; exact h5)]
    rw [Array.getElem?_toList] at h6
    rw [h6, List.getElem?_eq_getElem h5, getElem!_pos (flatK enc d.sz xs.toArray) j hj]
    congr 1
    simp only [hf, Array.getElem_toList]
    rfl
theorem row_put {α : Type} [Inhabited α] {d : Kd α} (enc : α → List Value) (hk : ∀ x, (enc x).length = d.sz) (hk0 : 0 < d.sz) {e g n cap B : Nat} {w : World} {ok : Nat → Prop} (hmk : ∀ (w : World) (ok : Nat → Prop) (x : α), d.M w B ok x (enc x)) {xs : List α} (h : d.R e w B ok (.slice (some ⟨g, 0, none⟩) n cap) xs) (ys : Array α) (hs : ys.size = xs.length) : d.R e (putRowK enc d.sz w g 0 ys) B ok (.slice (some ⟨g, 0, none⟩) n cap) ys.toList := by
  obtain ⟨h0, inner, ⟨hl, ho⟩, hr⟩ := h
  rcases ho with ⟨ho, _⟩ | ⟨g', cap', cur, hv, hg, hh, h1, h2, h3, h4⟩
  · cases ho
  · have e1 : g = g' := by injection hv with a; injection a with a; injection a
    have e2 : n = xs.length := by injection hv
    have e3 : cap = cap' := by injection hv
    subst e1 e2 e3
    have hcap : xs.length * d.sz ≤ cur.size := by rw [h3]; exact Nat.mul_le_mul_right _ h1
    have hheap : (putRowK enc d.sz w g 0 ys).heap[g]? = some (.cells (putCells id 0 (flatK enc d.sz ys) cur) e (0, 0)) := by
      show (w.heap.modify g _)[g]? = _
      rw [Array.getElem?_modify, if_pos rfl, hh]
      rfl
    refine ⟨h0, (flatK enc d.sz ys).toList, ⟨by rw [flat_len]; simp, .inr ⟨g, cap, _, by simp [hs], hg, hheap, by simpa [hs] using h1, h2, by simp [putCells, h3], ?_⟩⟩, ?_⟩
    · show List.take (ys.toList.length * d.sz) _ = _
      apply List.ext_getElem
      · rw [List.length_take, flat_len]
        simp only [putCells, Array.length_toList, Array.size_mapIdx]
        rw [hs]; omega
      · intro t ht1 ht2
        have ht : t < ys.size * d.sz := by simpa using ht2
        rw [List.getElem_take, Array.getElem_toList, Array.getElem_toList]
        simp only [putCells, Array.getElem_mapIdx]
        rw [if_pos ⟨by omega, by rw [size_flatK]; omega⟩, Nat.sub_zero, getElem!_pos (flatK enc d.sz ys) t (by rw [size_flatK]; exact ht)]
        rfl
    · refine ⟨by rw [flat_len]; simp, fun j p hj => ?_⟩
      rw [flat_list enc d.sz hk hk0 ys j p hj]
      exact hmk _ _ _
/-- What a sort writes: the row's block alone. -/
theorem wrote_sort {α : Type} [Inhabited α] (enc : α → List Value) (k : Nat) (w : World) (g n : Nat) (ys : Array α) (os : Array Obj) (S : Nat → Prop) (hg : S g) : Wrote w (grow (putRowK enc k (Sort.ahead w n) g 0 ys) os) S := by
  refine ⟨rfl, rfl, rfl, ?_, fun j hj hn => ?_⟩
  · rw [size_grow]
    show _ ≤ (w.heap.modify g _).size + _
    simp
  · have hsz : (putRowK enc k (Sort.ahead w n) g 0 ys).heap.size = w.heap.size := by show (w.heap.modify g _).size = _; simp
    rw [heap_grow_old _ _ (by rw [hsz]; exact hj)]
    show (w.heap.modify g _)[j]? = _
    rw [Array.getElem?_modify, if_neg (fun (e : g = j) => hn (e ▸ hg))]
end Go.Proofs.Ythnchojddoefiaa.SortRow
