/- copy into a row of the call's own, as the separation list tells it (in order, and in a region of open order). No conditions. -/
import Derived.Test.YtpaenlplpaabjaaSep
import Derived.Laws.CopyOwn
set_option linter.unusedVariables false
set_option linter.unusedSimpArgs false
namespace Go.Proofs.Ytpaenlplpaabjaa.Sep
open Go.RowKit Go.Proofs.YtpaenlplpaabjaaW.PrintWords
/-- The block of a row of numbers: its cells. -/
theorem ints_cur {kk : IntKind} {e g n cap B : Nat} {w : World} {ok : Nat → Prop} {xs : List Int} (h : Kd.R (Kd.int kk) e w B ok (.slice (some ⟨g, 0, none⟩) n cap) xs) : ∃ cur : List Value, w.heap[g]? = some (.cells cur.toArray e (0, 0)) ∧ n = xs.length ∧ xs.length ≤ cap ∧ cur.length = cap ∧ cap ≤ maxLen ∧ cur.take xs.length = xs.map (Value.int kk) ∧ ok g ∧ B ≤ g := by
  obtain ⟨hok, inner, ⟨hl, ho⟩, hr⟩ := h
  rcases ho with ⟨ho, _⟩ | ⟨g', cap', cur, hv, hg, hh, h1, h2, h3, h4⟩
  · cases ho
  · have e1 : g = g' := by injection hv with a; injection a with a; injection a
    have e2 : n = xs.length := by injection hv
    have e3 : cap = cap' := by injection hv
    subst e1 e2 e3
    have hsz : (Kd.int kk).sz = 1 := rfl
    rw [hsz, Nat.mul_one] at hl h3 h4
    refine ⟨cur.toList, by rw [hh], rfl, h1, by rw [Array.length_toList]; exact h3, h2, ?_, hok g rfl, hg⟩
    rw [h4]
    apply List.ext_getElem?
    intro j
    by_cases hj : j < xs.length
    · have h5 := hr.2 j xs[j] (List.getElem?_eq_getElem hj)
      have h6 : (inner.drop (j * 1)).take 1 = [.int kk xs[j]] := h5
      rw [Nat.mul_one] at h6
      have h7 : ((inner.drop j).take 1)[0]? = some (.int kk xs[j]) := by rw [h6]; rfl
      rw [List.getElem?_take_of_lt (by omega), List.getElem?_drop, Nat.add_zero] at h7
      rw [h7, List.getElem?_map, List.getElem?_eq_getElem hj]
      rfl
    · rw [List.getElem?_eq_none (by omega), List.getElem?_eq_none (by rw [List.length_map]; omega)]
theorem ints_of_cur {kk : IntKind} {e g cap B : Nat} {w : World} {ok : Nat → Prop} {xs : List Int} {cur : List Value} (hok : ok g) (hB : B ≤ g) (hh : w.heap[g]? = some (.cells cur.toArray e (0, 0))) (h1 : xs.length ≤ cap) (h2 : cur.length = cap) (h3 : cap ≤ maxLen) (h4 : cur.take xs.length = xs.map (Value.int kk)) : Kd.R (Kd.int kk) e w B ok (.slice (some ⟨g, 0, none⟩) xs.length cap) xs := by
  have hsz : (Kd.int kk).sz = 1 := rfl
  refine ⟨fun k hk => by have : g = k := by simpa [Value.ownBlock] using hk
                         exact this ▸ hok, xs.map (Value.int kk), ⟨by rw [List.length_map, hsz, Nat.mul_one], .inr ⟨g, cap, cur.toArray, rfl, hB, hh, h1, h3, by rw [hsz, Nat.mul_one]; simpa using h2, by rw [hsz, Nat.mul_one]; simpa using h4⟩⟩, by rw [List.length_map, hsz, Nat.mul_one], fun j p hj => ?_⟩
  show ((xs.map (Value.int kk)).drop (j * 1)).take 1 = [Value.int kk p]
  obtain ⟨hlt, he⟩ := List.getElem?_eq_some_iff.1 hj
  rw [Nat.mul_one, List.drop_eq_getElem_cons (by rw [List.length_map]; exact hlt), List.take_succ_cons, List.take_zero, List.getElem_map, he]
theorem Wrote.setRow {w : World} {S : Nat → Prop} {g : Nat} (hg : S g) (cs : Array Value) : Wrote w (w.setRow g cs) S := ⟨rfl, rfl, rfl, by simp [World.setRow], fun k _ hn => setRow_other w g k cs (fun e => hn (e ▸ hg))⟩
/-- Where a row's cells are laid over. -/
theorem SL.rowSplice {kk : IntKind} {w0 w : World} {l : List Asn} {e g n cap : Nat} {xs : List Int} (h : SL w0 w l) (k : Nat) (hk : l[k]? = some (rowA (Kd.int kk) e (.slice (some ⟨g, 0, none⟩) n cap) xs)) {cur : List Value} (hcur : w.heap[g]? = some (.cells cur.toArray e (0, 0))) (p : Nat) (ys : List Int) (hp : p + ys.length ≤ xs.length) :
    SL w0 (w.setRow g (cur.take p ++ (ys.map (Value.int kk) ++ cur.drop (p + (ys.map (Value.int kk)).length))).toArray) (l.set k (rowA (Kd.int kk) e (.slice (some ⟨g, 0, none⟩) n cap) (xs.take p ++ (ys ++ xs.drop (p + ys.length))))) := by
  refine h.upd k hk (fun S hS hA => ?_)
  obtain ⟨cur', hcur', hn, h1, h2, h3, h4, h5, h6⟩ := ints_cur hA
  have ee : cur = cur' := by
    rw [hcur] at hcur'
    injection hcur' with a
    injection a with a
    simpa using congrArg Array.toList a
  subst ee
  refine ⟨Wrote.setRow h5 _, ?_⟩
  have hlen : (xs.take p ++ (ys ++ xs.drop (p + ys.length))).length = xs.length := by simp only [List.length_append, List.length_take, List.length_drop]; omega
  rw [hn, ← hlen]
  refine ints_of_cur (.inl h5) h6 (setRow_heap w g _ _ e _ hcur) (by rw [hlen]; exact h1) ?_ h3 ?_
  · simp only [List.length_append, List.length_take, List.length_drop, List.length_map]; omega
  · rw [hlen, List.length_map]
    have hx : xs.map (Value.int kk) = cur.take xs.length := h4.symm
    rw [List.map_append, List.map_append, List.map_take, List.map_drop, hx, List.take_take, List.drop_take, Nat.min_eq_left (by omega)]
    rw [List.take_append, List.take_append, List.length_take, List.length_map, Nat.min_eq_left (by omega), List.take_take, Nat.min_eq_right (by omega), List.take_of_length_le (l := ys.map _) (by rw [List.length_map]; omega)]
    rw [show xs.length - p - ys.length = xs.length - (p + ys.length) from by omega]
section
variable {P : Program} {ops : Array Oper} {o : Oper} {a : Act} {w0 W : World} {Kc : Act → World → Prop} {Q : Exit → Act → World → Prop} {l : List Asn} {rest : List Oper}
/-- copy over part of a row of numbers, one step of a region of open order: ys are the numbers that are read. -/
theorem copy_ints_step {kk : IntKind} {E : Prop} {e g n cap : Nat} {xs : List Int} (hgd : o.guard = none) (d s : Operand) (dT sT elem : TypeId)
    (ho : o.op = .call { callee := .builtin .copy, args := #[d, s], argTypes := #[dT, sT] }) (hu : P.underlying dT = some (.slice elem)) (hsz : (P.info? elem).map (·.size) = some 1)
    (hSL : SL w0 W l) (k : Nat) (hk : l[k]? = some (rowA (Kd.int kk) e (.slice (some ⟨g, 0, none⟩) n cap) xs)) (dp sp : Option Addr) (dLen dCap sLen sCap : Nat) (hd : a.eval d = .slice dp dLen dCap) (hs : a.eval s = .slice sp sLen sCap)
    (p : Nat) (ys : List Int) (hn : ys.length = Nat.min sLen dLen) (hp : p + ys.length ≤ xs.length)
    (hpos : 0 < ys.length → dp = some ⟨g, p, none⟩ ∧ ∃ ad, sp = some ad ∧ ∀ j y, ys[j]? = some y → W.cell? (ad.add j) = some (.int kk y))
    (h : ∀ w1, SL w0 w1 (l.set k (rowA (Kd.int kk) e (.slice (some ⟨g, 0, none⟩) n cap) (xs.take p ++ (ys ++ xs.drop (p + ys.length))))) → Kc (a.put o.dst (goInt ys.length)) w1) :
    if Region.wanted o (yielded ops a.tmps) = true then Oper.wp P o a W Kc Q else E := by
  have hw : Region.wanted o (yielded ops a.tmps) = true := by simp [Region.wanted, hgd]
  rw [if_pos hw]
  by_cases h0 : ys.length = 0
  · have hrun := run_copy_none (P := P) W dT sT o.type elem dp sp dLen dCap sLen sCap hu hsz (by omega)
    unfold Oper.wp
    simp [execOp, ho, resolve, invoke, builtin, hd, hs, hrun, Result.andThen]
    have := h W (by
      have e0 : ys = [] := List.eq_nil_of_length_eq_zero h0
      subst e0
      refine hSL.imp k hk (fun S hA => ?_)
      rw [List.nil_append, List.length_nil, Nat.add_zero, List.take_append_drop]
      exact hA)
    rw [h0] at this
    exact this
  · obtain ⟨rfl, ad, rfl, hsrc⟩ := hpos (by omega)
    obtain ⟨S, hA, _⟩ := hSL.nth k hk
    obtain ⟨cur, hcur, hn2, h1, h2, h3, h4, h5, h6⟩ := ints_cur hA
    have hml : (ys.map (Value.int kk)).length = ys.length := List.length_map _
    have hrun := run_copy_row (P := P) W dT sT o.type elem g p dLen dCap ad sLen sCap cur.toArray e (ys.map (Value.int kk)) hu hsz hcur (by rw [hml]; exact hn) (fun j v hj => by
      rw [List.getElem?_map] at hj
      obtain ⟨y, hy, rfl⟩ := Option.map_eq_some_iff.1 hj
      exact hsrc j y hy) (by rw [hml]; simp only [List.size_toArray]; omega) (fun v hv => by
      obtain ⟨y, _, rfl⟩ := List.mem_map.1 hv
      rfl)
    have hq := h _ (hSL.rowSplice k hk hcur p ys hp)
    unfold Oper.wp
    simp [execOp, ho, resolve, invoke, builtin, hd, hs, hrun, Result.andThen]
    rw [List.length_map] at hq
    exact hq
/-- The same, in order. -/
theorem copy_ints {kk : IntKind} {e g n cap : Nat} {xs : List Int} (hgd : o.guard = none) (d s : Operand) (dT sT elem : TypeId)
    (ho : o.op = .call { callee := .builtin .copy, args := #[d, s], argTypes := #[dT, sT] }) (hu : P.underlying dT = some (.slice elem)) (hsz : (P.info? elem).map (·.size) = some 1)
    (hSL : SL w0 W l) (k : Nat) (hk : l[k]? = some (rowA (Kd.int kk) e (.slice (some ⟨g, 0, none⟩) n cap) xs)) (dp sp : Option Addr) (dLen dCap sLen sCap : Nat) (hd : a.eval d = .slice dp dLen dCap) (hs : a.eval s = .slice sp sLen sCap)
    (p : Nat) (ys : List Int) (hn : ys.length = Nat.min sLen dLen) (hp : p + ys.length ≤ xs.length)
    (hpos : 0 < ys.length → dp = some ⟨g, p, none⟩ ∧ ∃ ad, sp = some ad ∧ ∀ j y, ys[j]? = some y → W.cell? (ad.add j) = some (.int kk y))
    (h : ∀ w1, SL w0 w1 (l.set k (rowA (Kd.int kk) e (.slice (some ⟨g, 0, none⟩) n cap) (xs.take p ++ (ys ++ xs.drop (p + ys.length))))) → wpList P ops Q rest (a.put o.dst (goInt ys.length)) w1) :
    wpList P ops Q (o :: rest) a W := by
  refine wpList_plain hgd fun K hK => ?_
  have hh : ∀ a' w', wpList P ops Q rest a' w' → K a' w' := fun a' w' hq => hK _ _ hq
  have := copy_ints_step (ops := #[]) (a := a) (Kc := K) (Q := Q) (E := True) hgd d s dT sT elem ho hu hsz hSL k hk dp sp dLen dCap sLen sCap hd hs p ys hn hp hpos (fun w1 hs1 => hh _ _ (h w1 hs1))
  rw [if_pos (by simp [Region.wanted, hgd])] at this
  exact this
end
end Go.Proofs.Ytpaenlplpaabjaa.Sep
