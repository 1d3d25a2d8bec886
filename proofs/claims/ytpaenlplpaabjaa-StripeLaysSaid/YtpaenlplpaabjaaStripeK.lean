/- Rows of rows whose headers are written, and the small functions of package stripe, walked; no conditions. -/
import Derived.Test.YtpaenlplpaabjaaQStripeLaysx7
import Derived.Test.YtpaenlplpaabjaaSep
import Derived.Test.YtpaenlplpaabjaaSepCopy
import Derived.Test.YtpaenlplpaabjaaMatB
import Derived.Deep.RegionLaw
import Derived.WalkSpells
import Derived.Laws.Rows
import Derived.Laws.Tables
import Derived.Deep.WholeRow
set_option linter.unusedVariables false
set_option linter.unusedSimpArgs false
namespace Go.Proofs.Ytpaenlplpaabjaa.QStripeLays
open Go.RowKit Go.Proofs.YtpaenlplpaabjaaW.PrintWords Go.Proofs.YtpaenlplpaabjaaW.PrintLast Go.Proofs.YtpaenlplpaabjaaW.PrintMore
open Go.Proofs.Ytpaenlplpaabjaa.Sep Go.Proofs.Ytpaenlplpaabjaa.MatB
/-! ### A row of rows, some of whose headers were written -/
theorem R_recell {α : Type} {d : Kd α} {E T g n cap B : Nat} {w w' : World} {ok ok' : Nat → Prop} {xs ys : List (List α)} (h : Kd.R (Kd.slice E d) T w B ok (.slice (some ⟨g, 0, none⟩) n cap) xs) (hother : ∀ k, k ≠ g → w'.heap[k]? = w.heap[k]?) (cells' : Array Value)
    (hg : w'.heap[g]? = some (.cells cells' T (0, 0))) (hsz : cells'.size = cap) (hlen : ys.length = xs.length) (hok : ∀ k, ok k → ok' k)
    (hys : ∀ cells, w.heap[g]? = some (.cells cells T (0, 0)) → ∀ (i : Nat) (y : List α), ys[i]? = some y → (xs[i]? = some y ∧ cells'[i]? = cells[i]?) ∨ ∃ v, cells'[i]? = some v ∧ Kd.R d E w B (fun k => ok' k ∧ k ≠ g) v y) :
    Kd.R (Kd.slice E d) T w' B ok' (.slice (some ⟨g, 0, none⟩) n cap) ys := by
  obtain ⟨h0, inner, ⟨hl, ho⟩, hlr, hx⟩ := h
  have h0g : ok g := h0 g (by simp [Value.ownBlock])
  rcases ho with ⟨ho, _⟩ | ⟨g', cap', cur, hv, hB, hh, h1, h2, h3, h4⟩
  · cases ho
  · have e1 : g = g' := by injection hv with a; injection a with a; injection a
    have e2 : n = xs.length := by injection hv
    have e3 : cap = cap' := by injection hv
    subst e1 e2 e3
    have hs1 : (Kd.slice E d).sz = 1 := rfl
    rw [hs1, Nat.mul_one] at h3 h4 hl
    have hct : cells'.toList.length = cells'.size := Array.length_toList
    refine ⟨fun k hk => by have : g = k := by simpa [Value.ownBlock] using hk
                           exact this ▸ hok g h0g, cells'.toList.take ys.length, ⟨by rw [hs1, Nat.mul_one, List.length_take]; omega, .inr ⟨g, cap, cells', by rw [hlen], hB, hg, by omega, h2, by rw [hs1, Nat.mul_one]; exact hsz, by rw [hs1, Nat.mul_one]⟩⟩, by rw [hs1, Nat.mul_one, List.length_take]; omega, fun q p hq => ?_⟩
    have hq1 : q < ys.length := (List.getElem?_eq_some_iff.1 hq).1
    have hcell : ∀ u, cells'[q]? = some u → ((cells'.toList.take ys.length).drop (q * (Kd.slice E d).sz)).take (Kd.slice E d).sz = [u] := by
      intro u hu
      rw [hs1, Nat.mul_one]
      have hlt : q < (cells'.toList.take ys.length).length := by rw [List.length_take]; omega
      rw [List.drop_eq_getElem_cons hlt, List.take_succ_cons, List.take_zero]
      congr 1
      rw [List.getElem_take, Array.getElem_toList]
      exact (Array.getElem?_eq_some_iff.1 hu).2
    rcases hys cur hh q p hq with ⟨hx1, hx2⟩ | ⟨v, hv1, hv2⟩
    · have hM := hx q p hx1
      obtain ⟨v, hv1, hv2⟩ := hM
      have hcq : cells'[q]? = some v := by
        rw [hx2]
        have h5 : ((inner.drop (q * (Kd.slice E d).sz)).take (Kd.slice E d).sz)[0]? = some v := by rw [hv1]; rfl
        rw [hs1, Nat.mul_one, List.getElem?_take_of_lt (by decide), List.getElem?_drop, Nat.add_zero, ← h4, List.getElem?_take_of_lt (by omega)] at h5
        simpa using h5
      refine ⟨v, hcell v hcq, Kd.R_step (Kd.R_mono hv2 (fun k hk => ⟨hok k hk.1, hk.2⟩)) (fun k hk _ => hother k (fun e => hk.2 (by rw [e]; simp [Value.ownBlock])))⟩
    · refine ⟨v, hcell v hv1, Kd.R_step (Kd.R_mono hv2 (fun k hk => ⟨hk.1, fun e => hk.2 (by simpa [Value.ownBlock] using e)⟩)) (fun k hk _ => hother k (fun e => hk.2 (by rw [e]; simp [Value.ownBlock])))⟩
section
variable {α : Type} {d : Kd α} {E T g n cap : Nat} {w0 w : World} {xs : List (List α)} {l : List Asn} {v : Value} {p : List α}
/-- A row's header is written into a row of rows. -/
theorem SL.rowStore (h : SL w0 w (rowA (Kd.slice E d) T (.slice (some ⟨g, 0, none⟩) n cap) xs :: rowA d E v p :: l)) (i : Nat) (hi : i < xs.length) :
    SL w0 (w.setCell ⟨g, i, none⟩ v) (rowA (Kd.slice E d) T (.slice (some ⟨g, 0, none⟩) n cap) (xs.set i p) :: l) := by
  refine h.join.upd 0 rfl (fun S hS hA => ?_)
  obtain ⟨S1, S2, h1, h2, h3, h4, h5⟩ := hA
  have hg1 : S1 g := h4.1 g (by simp [Value.ownBlock])
  refine ⟨Wrote.setCell (p := ⟨g, i, none⟩) (h1 g hg1) _, ?_⟩
  obtain ⟨cells, hcells⟩ : ∃ cells, w.heap[g]? = some (.cells cells T (0, 0)) := by
    obtain ⟨_, inner, ⟨_, ho⟩, _⟩ := h4
    rcases ho with ⟨ho, _⟩ | ⟨g', cap', cur, hv, _, hh, _⟩
    · cases ho
    · have e1 : g = g' := by injection hv with a; injection a with a; injection a
      subst e1
      exact ⟨_, hh⟩
  have hsz : cells.size = cap ∧ xs.length ≤ cap := by
    obtain ⟨_, inner, ⟨_, ho⟩, _⟩ := h4
    rcases ho with ⟨ho, _⟩ | ⟨g', cap', cur, hv, _, hh, h6, _, h7, _⟩
    · cases ho
    · have e1 : g = g' := by injection hv with a; injection a with a; injection a
      have e3 : cap = cap' := by injection hv
      subst e1 e3
      rw [hcells] at hh
      have e4 : cells = cur := by injection hh with a; injection a
      subst e4
      exact ⟨h7.trans (Nat.mul_one _), h6⟩
  refine R_recell h4 (fun k hk => Below.heap_setCell w ⟨g, i, none⟩ v k hk) (cells.setIfInBounds i v) (blk_set hcells i v) (by rw [Array.size_setIfInBounds]; exact hsz.1) (List.length_set ..) (fun k hk => .inl (h1 k hk)) (fun cells2 hc2 j y hj => ?_)
  rw [hcells] at hc2
  have e4 : cells = cells2 := by injection hc2 with a; injection a
  subst e4
  rw [List.getElem?_set] at hj
  by_cases hij : i = j
  · subst hij
    rw [if_pos rfl, if_pos hi] at hj
    obtain rfl := Option.some.inj hj
    refine .inr ⟨v, by rw [Array.getElem?_setIfInBounds, if_pos rfl, if_pos (by omega)], Kd.R_mono h5 (fun k hk => ⟨.inl (h2 k hk), fun e => h3 g hg1 (e ▸ hk)⟩)⟩
  · rw [if_neg hij] at hj
    exact .inl ⟨hj, by rw [Array.getElem?_setIfInBounds, if_neg hij]⟩
end
theorem yields_row {P : Program} {ops : Array Oper} {S : World → Prop} {o : Oper} {a : Act} (hwt : Region.wanted o (yielded ops a.tmps) = true) (ty : TypeId) (x : Operand) (ho : o.op = .load ty x) (g : Nat) (hx : a.eval x = .pointer (some ⟨g, 0, none⟩)) (t : TypeId) (cs : Array Value) (fr : Nat × Nat) (d : TypeDesc)
    (hg : ∀ w, S w → w.heap[g]? = some (.cells cs t fr)) (hu : P.underlying ty = some d) (hd : (match d with | .struct _ | .array _ _ => true | _ => false) = true) (hi : (P.info? ty).map (·.size) = some cs.size) : YieldsIf P ops S o (.agg cs) a := by
  refine Or.inl ⟨hwt, fun w hS => ?_⟩
  unfold execOp
  simp only [ho, hx, Instr.loadAt, Instr.sureAddr, Sem.run_bind, Sem.run_pure, Result.andThen_ok, run_loadVar_row w g t ty cs fr d (hg w hS) hu hd hi]
/-- A row's header can be written. -/
theorem rows_cell {α : Type} {d : Kd α} {E T g n cap : Nat} {w0 w : World} {xs : List (List α)} {l : List Asn} (h : SL w0 w l) (k : Nat) (hk : l[k]? = some (rowA (Kd.slice E d) T (.slice (some ⟨g, 0, none⟩) n cap) xs)) (i : Nat) (hi : i < xs.length) :
    ∃ u, w.cell? ⟨g, i, none⟩ = some u ∧ w.frozen? ⟨g, i, none⟩ = false := by
  obtain ⟨_, inner, ⟨_, ho⟩, _⟩ := h.row k hk
  rcases ho with ⟨ho, _⟩ | ⟨g', cap', cur, hv, _, hh, h6, _, h7, _⟩
  · cases ho
  · have e1 : g = g' := by injection hv with a; injection a with a; injection a
    subst e1
    have hlt : i < cur.size := by rw [h7]; show i < cap' * 1; omega
    exact ⟨_, (blk_cell hh i).trans (Array.getElem?_eq_getElem hlt), blk_frozen hh i⟩
variable {P : Program} {ops : Array Oper} {o : Oper} {a : Act} {Q : Exit → Act → World → Prop} {Kc : Act → World → Prop}
/-- append of a row of the call's own to a row of such rows, one step of a region of open order. -/
theorem append_srow_step {α : Type} {E0 : Prop} (d : Kd α) (e' : Nat) {w0 W : World} {l : List Asn} {v vr : Value} {xs : List (List α)} {p : List α} (hgd : o.guard = none) (s x : Operand) (t e : TypeId) (z : Value) (bytes : Nat)
    (ho : o.op = .call { callee := .builtin .append, args := #[s, x], argTypes := #[t, t] })
    (ht : P.underlying t = some (.slice e)) (hinfo : (P.info? e).map (fun i => (i.zero, i.size, i.bytes)) = some (some z, 1, bytes)) (hz : z.cells.size = 1) (hb0 : 0 < bytes)
    (hSL : SL w0 W (sA (Kd.slice e' d) e v xs :: rowA d e' vr p :: l)) (hs : a.eval s = v) (hx : a.eval x = .slice (some ⟨W.heap.size, 0, none⟩) 1 1) (hl : (xs.length + 1) * bytes ≤ 140737488355328)
    (h : ∀ v1 w1, SL w0 w1 (sA (Kd.slice e' d) e v1 (xs ++ [p]) :: l) → Kc (a.put o.dst v1) w1) :
    if Region.wanted o (yielded ops a.tmps) = true then Oper.wp P o a (W.alloc (.cells #[vr] e)) Kc Q else E0 := by
  have hw : Region.wanted o (yielded ops a.tmps) = true := by simp [Region.wanted, hgd]
  rw [if_pos hw]
  obtain ⟨hb, S, _, hA, S2, hS2, hM, hr⟩ := hSL
  have hA := Asn.bound (sA (Kd.slice e' d) e v xs) hA
  have hM := Asn.bound (rowA d e' vr p) hM
  have hr := hr.bound
  have hown : ∀ k, v.ownBlock = some k → S k := fun k hk => by
    obtain ⟨f, h0, _⟩ := hA
    exact (h0 k hk).1
  have key : if Region.wanted o (yielded ops a.tmps) = true then Oper.wp P o a (W.alloc (.cells #[vr] e)) Kc Q else Kc (a.put o.dst undef) (W.alloc (.cells #[vr] e)) := by
   refine Kd.S_append_step (Kd.slice e' d) w0.heap.size hw s x t e z bytes ho ht hinfo hz (show 0 < 1 from Nat.zero_lt_one) hb0 v xs p [vr] (fun k => (S k ∨ S2 k) ∧ w0.heap.size ≤ k ∧ k < W.heap.size ∨ W.heap.size ≤ k) (fun k => S2 k ∧ w0.heap.size ≤ k ∧ k < W.heap.size) hs hx ⟨vr, rfl, hM⟩ (fun k hk => ⟨.inl ⟨.inr hk.1, hk.2⟩, fun e => (hS2 k hk.1).2 (hown k e.symm)⟩) (fun k hk => .inr hk) ?_ hb hb.size hl ?_
   · obtain ⟨f, hf⟩ := hA
     exact ⟨f, Kd.R_mono hf (fun k hk => ⟨.inl ⟨.inl hk.1, hk.2⟩, fun h2 => (hS2 k h2.1).2 hk.1⟩)⟩
   intro v1 w1 hR hb1 hg hat
   refine h v1 w1 ⟨hb1, _, fun _ _ => trivial, hR, (hr.step (fun k hk hlt => hg.block k hlt (fun e => ?_))).mono (fun k hk => ⟨trivial, fun h2 => h2.elim (fun h3 => h3.1.elim hk.1.1.2 hk.1.2) (fun h3 => by have := hk.2.2; omega)⟩)⟩
   exact hk.1.1.2 (hown k e.symm)
  rw [if_pos hw] at key
  exact key
theorem rows_open {α : Type} {d : Kd α} {E T n cap B : Nat} {w : World} {ok : Nat → Prop} {A : Option Addr} {xs : List (List α)} (h : Kd.R (Kd.slice E d) T w B ok (.slice A n cap) xs) (hp : 0 < xs.length) :
    ∃ (g : Nat) (cur : Array Value), A = some ⟨g, 0, none⟩ ∧ n = xs.length ∧ ok g ∧ w.heap[g]? = some (.cells cur T (0, 0)) ∧ cur.size = cap ∧ xs.length ≤ cap ∧ ∀ (i : Nat) (x : List α), xs[i]? = some x → ∃ v, cur[i]? = some v ∧ Kd.R d E w B (fun k => ok k ∧ k ≠ g) v x := by
  obtain ⟨h0, inner, ⟨hl, ho⟩, hlr, hx⟩ := h
  have hs1 : (Kd.slice E d).sz = 1 := rfl
  rcases ho with ⟨_, hc0⟩ | ⟨g, cap', cur, hv, hB, hh, h1, h2, h3, h4⟩
  · omega
  · injection hv with e1 e2 e3
    subst e1 e2 e3
    rw [hs1, Nat.mul_one] at h3 h4 hl
    refine ⟨g, cur, rfl, rfl, h0 g (by simp [Value.ownBlock]), hh, h3, h1, fun i x hi => ?_⟩
    obtain ⟨v, hv1, hv2⟩ := hx i x hi
    have hq1 : i < xs.length := (List.getElem?_eq_some_iff.1 hi).1
    refine ⟨v, ?_, Kd.R_mono hv2 (fun k hk => ⟨hk.1, fun e => hk.2 (by rw [e]; simp [Value.ownBlock])⟩)⟩
    have h5 : ((inner.drop (i * (Kd.slice E d).sz)).take (Kd.slice E d).sz)[0]? = some v := by rw [hv1]; rfl
    rw [hs1, Nat.mul_one, List.getElem?_take_of_lt (by decide), List.getElem?_drop, Nat.add_zero, ← h4, List.getElem?_take_of_lt (by omega)] at h5
    simpa using h5
/-- copy of a row's headers over those of another. -/
theorem copy_rows {α : Type} (d : Kd α) {E T : Nat} {w0 W : World} {l : List Asn} {g n cap m c : Nat} {A : Option Addr} {xs ps : List (List α)} {rest : List Oper} (hgd : o.guard = none) (ds ss : Operand) (dT : TypeId)
    (ho : o.op = .call { callee := .builtin .copy, args := #[ds, ss], argTypes := #[dT, dT] }) (hu : P.underlying dT = some (.slice T)) (hsz : (P.info? T).map (·.size) = some 1)
    (hSL : SL w0 W (rowA (Kd.slice E d) T (.slice (some ⟨g, 0, none⟩) n cap) xs :: rowA (Kd.slice E d) T (.slice A m c) ps :: l)) (hd : a.eval ds = .slice (some ⟨g, 0, none⟩) n cap) (hs : a.eval ss = .slice A m c) (hl : ps.length ≤ xs.length)
    (h : ∀ w1, SL w0 w1 (rowA (Kd.slice E d) T (.slice (some ⟨g, 0, none⟩) n cap) (ps ++ xs.drop ps.length) :: l) → wpList P ops Q rest (a.put o.dst (goInt ps.length)) w1) :
    wpList P ops Q (o :: rest) a W := by
  refine wpList_plain hgd fun K hK => ?_
  by_cases hp : 0 < ps.length
  · obtain ⟨S, hS, ⟨S1, S2, h1, h2, h3, h4, h5⟩, hr⟩ := (hSL.join).2
    obtain ⟨g2, cur2, e1, e2, hok2, hh2, hsz2, hle2, hx2⟩ := rows_open h5 hp
    obtain ⟨g1, cur1, f1, f2, hok1, hh1, hsz1, hle1, hx1⟩ := rows_open h4 (by omega)
    subst e1
    injection f1 with f1
    injection f1 with f1
    subst f1
    have hlen2 : (cur2.toList.take ps.length).length = ps.length := by rw [List.length_take]; have := Array.length_toList (xs := cur2); omega
    have hcs : ∀ j v, (cur2.toList.take ps.length)[j]? = some v → cur2[j]? = some v ∧ j < ps.length := fun j v hj => by
      have hlt := (List.getElem?_eq_some_iff.1 hj).1
      rw [List.getElem?_take_of_lt (by omega)] at hj
      exact ⟨by simpa using hj, by omega⟩
    have hrun := run_copy_row (P := P) W dT dT o.type T g 0 n cap ⟨g2, 0, none⟩ m c cur1 T (cur2.toList.take ps.length) hu hsz hh1 (by rw [hlen2, e2, f2]; exact (Nat.min_eq_left hl).symm)
      (fun j v hj => by
        have e3 : (⟨g2, 0, none⟩ : Addr).add j = ⟨g2, j, none⟩ := (add_at g2 0 j).trans (by rw [Nat.zero_add])
        rw [e3, blk_cell hh2]
        exact (hcs j v hj).1) (by rw [hlen2]; omega)
      (fun v hv => by
        obtain ⟨j, hj⟩ := List.getElem?_of_mem hv
        obtain ⟨q1, q2⟩ := hcs j v hj
        obtain ⟨u, hu1, hu2⟩ := hx2 j ps[j] (List.getElem?_eq_getElem q2)
        rw [q1] at hu1
        obtain rfl := Option.some.inj hu1
        obtain ⟨A', c', rfl⟩ := Kd.R_slice hu2
        rfl)
    have hq := h (W.setRow g (cur1.toList.take 0 ++ cur2.toList.take ps.length ++ cur1.toList.drop (0 + (cur2.toList.take ps.length).length)).toArray) (by
      refine hSL.join.upd 0 rfl (fun T1 hT hA => ?_)
      obtain ⟨S1, S2, h1, h2, h3, h4, h5⟩ := hA
      obtain ⟨g3, cur3, e1, e2, hok2, hh3, hsz2, hle2, hx2⟩ := rows_open h5 hp
      obtain ⟨g4, cur4, f1, f2, hok1, hh4, hsz1, hle1, hx1⟩ := rows_open h4 (by omega)
      injection e1 with e1
      injection e1 with e1
      injection f1 with f1
      injection f1 with f1
      subst e1 f1
      rw [hh2] at hh3
      rw [hh1] at hh4
      have q3 : cur2 = cur3 := by injection hh3 with a; injection a
      have q4 : cur1 = cur4 := by injection hh4 with a; injection a
      subst q3 q4
      have hlc : cur1.toList.length = cur1.size := Array.length_toList
      refine ⟨Wrote.setRow (h1 _ hok1) _, R_recell h4 (fun k hk => setRow_other W g k _ hk) _ (setRow_heap W g _ _ T _ hh1) ?_ ?_ (fun k hk => .inl (h1 k hk)) (fun cells hc i y hi => ?_)⟩
      · rw [List.size_toArray, List.length_append, List.length_append, List.take_zero, List.length_nil, List.length_drop, hlen2]; omega
      · rw [List.length_append, List.length_drop]; omega
      · rw [hh1] at hc
        have q5 : cur1 = cells := by injection hc with a; injection a
        subst q5
        rw [List.getElem?_toArray, List.take_zero, List.nil_append]
        by_cases hi2 : i < ps.length
        · rw [List.getElem?_append_left hi2] at hi
          obtain ⟨v, hv1, hv2⟩ := hx2 i y hi
          refine .inr ⟨v, ?_, Kd.R_mono hv2 (fun k hk => ⟨.inl (h2 k hk.1), fun e => h3 k (e ▸ hok1) hk.1⟩)⟩
          rw [List.getElem?_append_left (by rw [hlen2]; exact hi2), List.getElem?_take_of_lt hi2]
          simpa using hv1
        · rw [List.getElem?_append_right (by omega), List.getElem?_drop, show ps.length + (i - ps.length) = i from by omega] at hi
          refine .inl ⟨hi, ?_⟩
          rw [List.getElem?_append_right (by rw [hlen2]; omega), List.getElem?_drop, hlen2, show 0 + ps.length + (i - ps.length) = i from by omega]
          simp)
    unfold Oper.wp
    simp [execOp, ho, resolve, invoke, builtin, hd, hs, hrun, Result.andThen]
    rw [hlen2] at hq
    simp only [List.take_zero, List.nil_append, Nat.zero_add] at hq
    have hfin := hK _ _ hq
    rw [show min ps.length cur2.size = ps.length from Nat.min_eq_left (by omega)]
    exact hfin
  · have e0 : ps = [] := List.eq_nil_of_length_eq_zero (by omega)
    subst e0
    obtain ⟨S2, _, hA2⟩ := hSL.2.mem (A := rowA (Kd.slice E d) T (.slice A m c) []) (by simp)
    have hm : m = 0 := by
      obtain ⟨A', c', e, _⟩ := Kd.R_reads hA2
      injection e
    have hrun := run_copy_none (P := P) W dT dT o.type T (some ⟨g, 0, none⟩) A n cap m c hu hsz (by rw [hm]; exact Nat.zero_min n)
    unfold Oper.wp
    simp [execOp, ho, resolve, invoke, builtin, hd, hs, hrun, Result.andThen]
    exact hK _ _ (h W hSL.swap.drop)
/-! ### A row of no bytes, laid anew -/
theorem R_build0 {kk : IntKind} (E : Nat) {w : World} (B : Nat) (hB : B ≤ w.heap.size) : Kd.R (Kd.int kk) E (w.alloc (.cells #[] E (0, 0))) B (fun _ => True) (.slice (some ⟨w.heap.size, 0, none⟩) 0 0) [] :=
  ints_of_cur (cur := []) (xs := []) trivial hB (blk_new w _) (Nat.le_refl _) rfl (Nat.zero_le _) rfl
theorem infoU : (Try.prog.info? 5).map (fun i => (i.zero, i.size, i.bytes)) = some (some (.int .u8 0), 1, 1) := by kernel_rfl
set_option maxHeartbeats 1000000 in
set_option maxRecDepth 100000 in
theorem clone_calls (ad : Addr) (n c : Nat) (l : List Int) (w : World) (hn : l.length = n) (hC : Kd.C (Kd.int .u8) w (some ad) n l) (hl : n ≤ 1048576) :
    Calls Try.prog 65 #[.slice (some ad) n c] w fun e w' => ∃ v : Value, e = .returned v ∧ Kd.R (Kd.int .u8) 5 w' w.heap.size (fun _ => True) v l ∧ Below w.heap.size w w' := by
  subst hn
  have HC := Aside0.mk hC
  have HL := Aside0.mk hl
  clear hC hl
  have hu := fun (W : World) => Lib.run_eql_slice_nil (P := Try.prog) W 45 5 (some ad) l.length c 0 0 Try.underlying45
  go_enter Try.func65, Try.ntmps65
  go_wp2_with ((with_reducible refine gate_builtin (b := .append) (xs := #[.tmp 5, .tmp 6]) rfl ?_); at_builtin; (with_reducible apply Kd.R_append_rows (Kd.int .u8) (Rr := (Kd.int .u8).K w) (w0 := w) (base := w.heap.size) (s := .tmp 5) (x := .tmp 6) (t := 45) (e := 5) (v := .slice (some ⟨w.heap.size, 0, none⟩) 0 0) (xs := []) (ys := l) (m := l.length) (ok := fun _ => True) (okp := fun _ => False)); (case hgd => exact rfl); (case ho => exact rfl); (case ht => exact Try.underlying45); (case hinfo => exact infoU); (case hz => exact rfl); (case hs0 => decide); (case hb0 => decide); (case hs => exact rfl); (case hx => exact rfl); (case HO => exact R_build0 _ _ (Nat.le_refl _)); (case HR => exact Kd.C_below HC.out (below_alloc (Below.refl _ _) _)); (case hKM => exact fun _ _ h_ => h_); (case hokp => exact fun _ h => h.elim); (case hfresh => exact fun _ _ => trivial); (case HB => exact below_alloc (Below.refl _ _) _); (case hbase => simp [World.size_alloc]); (case hl => have := HL.out; simp; omega); intro v1_ w1_ ho_ hb_ hg_ hat_; rw [List.nil_append] at ho_; have HO_ := Aside0.mk ho_; have HB_ := Aside0.mk hb_; clear ho_ hb_ hg_ hat_)
  go_ret
  exact ⟨_, rfl, HO_.out, HB_.out⟩
theorem cat_fill (l : List Int) (long : Nat) (h : l.length ≤ long) : (List.replicate long (0 : Int)).take 0 ++ (l ++ (List.replicate long (0 : Int)).drop (0 + l.length)) = l ++ List.replicate (long - l.length) 0 := by
  rw [List.take_zero, List.nil_append, List.drop_replicate, Nat.zero_add]
theorem src_bytes {w W : World} {A : Option Addr} {n : Nat} {l : List Int} (hn : l.length = n) (h : Kd.C (Kd.int .u8) w A n l) (hb : Below w.heap.size w W) (hp : 0 < l.length) : ∃ ad, A = some ad ∧ ∀ j y, l[j]? = some y → W.cell? (ad.add j) = some (.int .u8 y) := by
  subst hn
  obtain ⟨ad, e, _⟩ := Kd.at_int h 0 (Int.le_refl 0) (by omega)
  refine ⟨ad, e, fun j y hj => ?_⟩
  obtain ⟨hlt, hy⟩ := List.getElem?_eq_some_iff.1 hj
  obtain ⟨ad2, e2, hx⟩ := Kd.at_int h (j : Int) (by omega) (by omega)
  obtain rfl : ad = ad2 := by rw [e] at e2; injection e2
  have hx2 := (hb.cell (World.block_lt_of_cell? w _ hx)).trans hx
  have e3 : rd l (j : Int) = y := by
    show l.getD ((j : Nat) : Int).toNat 0 = y
    rw [Int.toNat_natCast, List.getD_eq_getElem?_getD, List.getElem?_eq_getElem hlt, hy]
    rfl
  rw [Int.toNat_natCast, e3] at hx2
  exact hx2
set_option maxHeartbeats 1000000 in
set_option maxRecDepth 100000 in
theorem fill_calls (v0 : Value) (h0 : v0.oneCell' = true) (par : Int) (long : Nat) (A : Option Addr) (n c : Nat) (l : List Int) (w : World) (hn : l.length = n) (hC : Kd.C (Kd.int .u8) w A n l) (hl : n ≤ long) (h1 : 0 < long) (h2 : long ≤ 1048576) :
    Calls Try.prog 67 #[.agg #[v0, .int .i64 par, .int .i64 (long : Int)], .slice A n c] w fun e w' => ∃ v : Value, e = .returned v ∧ Kd.R (Kd.int .u8) 5 w' w.heap.size (fun _ => True) v (l ++ List.replicate (long - n) 0) ∧ Below w.heap.size w w' := by
  subst hn
  have hu := Try.underlying81
  have HC := Aside0.mk hC
  have HL := Aside0.mk hl
  have HH1 := Aside0.mk h1
  have HH2 := Aside0.mk h2
  have HS := Aside0.mk (SL.start w)
  clear hC hl h1 h2
  go_enter Try.func67, Try.ntmps67
  go_upto_region 1 with ((with_reducible refine gate_dst (N := 2) rfl ?_); refine box_event ?hg (N := 2) ?hd (cs := #[v0, .int .i64 par, .int .i64 (long : Int)]) (t := 81) ?hr ?_; (case hd => exact rfl); (case hg => exact rfl); (case hr => first | (go_simp; done) | (go_simp; rfl)); intro gb hgb_ w1 hbox_ hb_; have n1_ := Aside0.mk (Sep.SL.newBlk (by repeat (first | (with_reducible first | exact HS.out | apply Sep.SL.drewN | apply Sep.SL.drew | apply Sep.SL.alloc | apply below_drew1) | exact HS.out)) hb_ hgb_ hbox_); clear HS hgb_ hbox_ hb_; have HS := n1_; clear n1_)
  obtain ⟨hz, hzf, hzl⟩ := HS.out.c2 0 rfl
  have h2 := HH2.out
  go_upto_region 2 with ((with_reducible refine gate_dst (N := 8) rfl ?_); (with_reducible apply Sep.make_row (d := (Kd.int .u8)) (t := 45) (e := 5) (n := (long : Int)) (z0 := 0)); (case hSL => exact (by repeat (first | (with_reducible first | exact HS.out | apply Sep.SL.drewN | apply Sep.SL.drew | apply Sep.SL.alloc | apply below_drew1) | exact HS.out))); (case hgd => exact rfl); (case hd => exact rfl); (case ho => exact rfl); (case hx => exact rfl); (case hy => exact rfl); (case ht => exact Try.underlying45); (case hinfo => exact info5); (case hz => exact rfl); (case hs0 => decide); (case hb0 => omega); (case hzero => exact (fun _ _ => rfl)); (case h0 => omega); (case hl => omega); intro v1_ w1_ hs_; have n1_ := Aside0.mk hs_; clear HS hs_; have HS := n1_; clear n1_; obtain ⟨gr, cr, e1_⟩ := Sep.SL.form HS.out 0 rfl (by rw [List.length_replicate, Int.toNat_natCast]; exact HH1.out); rw [Int.toNat_natCast] at e1_ HS; rw [List.length_replicate] at e1_; subst e1_)
  clear h2 hz hzf hzl
  have HSRC := Aside0.mk (fun W (hb : Below w.heap.size w W) => src_bytes rfl HC.out hb)
  go_upto_region 3 with (((with_reducible refine gate_builtin (b := .copy) (xs := #[.tmp 9, .tmp 10]) rfl ?_); ((with_reducible apply copy_ints (kk := .u8) (d := .tmp 9) (s := .tmp 10) (dT := 45) (sT := 45) (elem := 5) (p := 0) (ys := l) (k := 0)); (case hSL => exact (by repeat (first | (with_reducible first | exact HS.out | apply Sep.SL.drewN | apply Sep.SL.drew | apply Sep.SL.alloc | apply below_drew1) | exact HS.out))); (case hk => exact rfl); (case hgd => exact rfl); (case ho => exact rfl); (case hu => exact Try.underlying45); (case hsz => kernel_rfl); (case hd => exact rfl); (case hs => exact rfl); (case hn => exact (Nat.min_eq_left HL.out).symm); (case hp => exact (by rw [List.length_replicate, Nat.zero_add]; exact HL.out)); (case hpos => exact (fun h_ => ⟨rfl, HSRC.out _ HS.out.below h_⟩)); intro w1_ hs_; have n1_ := Aside0.mk hs_; clear HS hs_; have HS := n1_; clear n1_)))
  have hbs := HS.out
  rw [cat_fill l long HL.out] at hbs
  have HP : Aside0 (SL w _ [rowA (Kd.int .u8) 5 (.slice (some ⟨gr, 0, none⟩) long cr) (l ++ List.replicate (long - l.length) 0), blkA gb #[v0, .int .i64 par, .int .i64 (long : Int)] 81]) := ⟨hbs⟩
  clear hbs HS HSRC
  go_wp2_with (fail)
  go_ret
  exact ⟨_, rfl, HP.out.row 0 rfl, HP.out.below⟩
end Go.Proofs.Ytpaenlplpaabjaa.QStripeLays
