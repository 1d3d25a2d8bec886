/- A block of bytes with room behind them, and append where there is room, as the separation list tells it. No conditions. -/
import Derived.Test.YthnchojddoefiaaSep
import Derived.ArgAppend
set_option linter.unusedVariables false
set_option linter.unusedSimpArgs false
namespace Go.Proofs.Ythnchojddoefiaa.Sep
open Go.RowKit Go.Proofs.YthnchojddoefiaaW.PrintWords
/-- The cells of bytes with noughts behind them. -/
def roomC (l : List Int) (cap : Nat) : List Value := (l ++ List.replicate (cap - l.length) 0).map (Value.int .u8)
/-- A block of bytes with room behind them: noughts. -/
def roomA (g : Nat) (l : List Int) (cap : Nat) (t : Nat) : Asn := blkA g (roomC l cap).toArray t
theorem roomC_length {l : List Int} {cap : Nat} (h : l.length ≤ cap) : (roomC l cap).length = cap := by
  unfold roomC
  rw [List.length_map, List.length_append, List.length_replicate]
  omega
theorem roomC_add {l : List Int} {cap : Nat} (h : l.length < cap) (b : Int) : (roomC l cap).toArray.setIfInBounds l.length (.int .u8 b) = (roomC (l ++ [b]) cap).toArray := by
  rw [List.setIfInBounds_toArray]
  unfold roomC
  congr 1
  obtain ⟨m, hm⟩ : ∃ m, cap - l.length = m + 1 := ⟨cap - l.length - 1, by omega⟩
  rw [hm, List.length_append, List.length_singleton, show cap - (l.length + 1) = m from by omega, List.replicate_succ]
  rw [List.map_append, List.set_append_right _ _ (by rw [List.length_map]; exact Nat.le_refl _), List.length_map, Nat.sub_self, List.map_append, List.map_append, List.append_assoc]
  rfl
section
variable {P : Program} {ops : Array Oper} {o : Oper} {a : Act} {w0 W : World} {Q : Exit → Act → World → Prop} {L : List Asn} {rest : List Oper}
/-- append of one byte where there is room: the block is written in place. -/
theorem append_room_u8 {g cap t' : Nat} {l : List Int} {b : Int} (hgd : o.guard = none) (s x : Operand) (t e : TypeId) (ho : o.op = .call { callee := .builtin .append, args := #[s, x], argTypes := #[t, t] }) (ht : P.underlying t = some (.slice e)) (hi : (P.info? e).map (·.size) = some 1)
    (hSL : SL w0 W L) (k : Nat) (hk : L[k]? = some (roomA g l cap t')) (hs : a.eval s = .slice (some ⟨g, 0, none⟩) l.length cap) (hx : a.eval x = .slice (some ⟨W.heap.size, 0, none⟩) 1 1) (hroom : l.length < cap)
    (h : ∀ w1, SL w0 w1 (L.set k (roomA g (l ++ [b]) cap t')) → wpList P ops Q rest (a.put o.dst (.slice (some ⟨g, 0, none⟩) (l.length + 1) cap)) w1) :
    wpList P ops Q (o :: rest) a (W.alloc (.cells #[.int .u8 b] e)) := by
  refine wpList_plain hgd fun K hK => ?_
  have hSL2 := hSL.alloc (.cells #[.int .u8 b] e)
  have hb := hSL2.blk k hk
  obtain ⟨i, hi1, hi2⟩ : ∃ i, P.info? e = some i ∧ i.size = 1 := by
    cases hq : P.info? e with
    | none => rw [hq] at hi; cases hi
    | some i => rw [hq] at hi; exact ⟨i, rfl, Option.some.inj hi⟩
  have hlen := roomC_length (l := l) (cap := cap) (by omega)
  have hrun := run_append_room_cells (P := P) (W.alloc (.cells #[.int .u8 b] e)) t o.type e i ht hi1 g 0 l.length cap ⟨W.heap.size, 0, none⟩ 1 1 [.int .u8 b] (by rw [hi2]; rfl) (fun j u hj => by
    have hj0 : j = 0 := by have := (List.getElem?_eq_some_iff.1 hj).1; simpa using this
    subst hj0
    have hu : Value.int .u8 b = u := by simpa using hj
    subst hu
    rw [add_plain, blk_cell (blk_new W _)]
    rfl) (fun u hu => by rw [List.mem_singleton.1 hu]; rfl) (by omega) (fun j hj => by
    have hj0 : j = 0 := by simpa using hj
    subst hj0
    rw [blk_cell hb, hi2, Nat.zero_add, Nat.mul_one, Nat.add_zero, List.getElem?_toArray, List.getElem?_eq_getElem (by omega)]
    rfl) (fun j hj => blk_frozen hb _)
  have hput := hSL2.put k hk l.length (.int .u8 b)
  rw [roomC_add hroom] at hput
  have hq := hK _ _ (h _ hput)
  rw [hi2, Nat.zero_add, Nat.mul_one] at hrun
  unfold Oper.wp
  simp [execOp, ho, resolve, invoke, builtin, hs, hx, hrun, Result.andThen]
  exact hq
end
end Go.Proofs.Ythnchojddoefiaa.Sep
