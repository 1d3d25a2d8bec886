/- append to fresh rows of numbers, and of noughts, as a list of sayings tells it; no conditions. -/
import Derived.Test.YtpaenlplpaabjaaStripeL
set_option linter.unusedVariables false
set_option linter.unusedSimpArgs false
namespace Go.Proofs.Ytpaenlplpaabjaa.QStripeLays
open Go.RowKit Go.Proofs.YtpaenlplpaabjaaW.PrintWords Go.Proofs.YtpaenlplpaabjaaW.PrintLast Go.Proofs.YtpaenlplpaabjaaW.PrintMore
open Go.Proofs.Ytpaenlplpaabjaa.Sep Go.Proofs.Ytpaenlplpaabjaa.MatB
variable {P : Program} {ops : Array Oper} {rest : List Oper} {o : Oper} {a : Act} {Q : Exit → Act → World → Prop} {Kc : Act → World → Prop}
/-- append([]T{}, x...), one step of a region of open order. -/
theorem append_new_step {E0 : Prop} {kk : IntKind} {w0 W : World} {l : List Asn} (hgd : o.guard = none) (s x : Operand) (t e : TypeId) (z : Value) (bytes : Nat)
    (ho : o.op = .call { callee := .builtin .append, args := #[s, x], argTypes := #[t, t] })
    (ht : P.underlying t = some (.slice e)) (hinfo : (P.info? e).map (fun i => (i.zero, i.size, i.bytes)) = some (some z, 1, bytes)) (hz : z.cells.size = 1) (hb0 : 0 < bytes)
    (hSL : SL w0 W l) (ys : List Int) (A : Option Addr) (m c : Nat) (hC : Kd.C (Kd.int kk) W A m ys) (hs : a.eval s = .slice (some ⟨W.heap.size, 0, none⟩) 0 0) (hx : a.eval x = .slice A m c) (hl : m * bytes ≤ 140737488355328)
    (h : ∀ v1 w1, SL w0 w1 (rowA (Kd.int kk) e v1 ys :: l) → Kc (a.put o.dst v1) w1) :
    if Region.wanted o (yielded ops a.tmps) = true then Oper.wp P o a (W.alloc (.cells #[] e (0, 0))) Kc Q else E0 := by
  have hw : Region.wanted o (yielded ops a.tmps) = true := by simp [Region.wanted, hgd]
  rw [if_pos hw]
  have key : if Region.wanted o (yielded ops a.tmps) = true then Oper.wp P o a (W.alloc (.cells #[] e (0, 0))) Kc Q else Kc (a.put o.dst undef) (W.alloc (.cells #[] e (0, 0))) := by
    refine Kd.R_append_rows_step (Kd.int kk) (Rr := (Kd.int kk).K W) (w0 := W) W.heap.size hw s x t e z bytes ho ht hinfo hz (show 0 < 1 from Nat.zero_lt_one) hb0 (.slice (some ⟨W.heap.size, 0, none⟩) 0 0) [] ys A m c (fun _ => True) (fun _ => False) hs hx (R_build0 e _ (Nat.le_refl _)) (Kd.C_below hC (below_alloc (Below.refl _ _) _)) (fun _ _ h_ => h_) (fun _ h => h.elim) (fun _ _ => trivial) (below_alloc (Below.refl _ _) _) (by simp [World.size_alloc]) (by rw [List.length_nil, Nat.zero_add]; exact hl) ?_
    intro v1 w1 hr hb hg hat
    rw [List.nil_append] at hr
    exact h v1 w1 (hSL.newRow hb hr)
  rw [if_pos hw] at key
  exact key
/-- .. in order. -/
theorem append_new {kk : IntKind} {w0 W : World} {l : List Asn} (hgd : o.guard = none) (s x : Operand) (t e : TypeId) (z : Value) (bytes : Nat)
    (ho : o.op = .call { callee := .builtin .append, args := #[s, x], argTypes := #[t, t] })
    (ht : P.underlying t = some (.slice e)) (hinfo : (P.info? e).map (fun i => (i.zero, i.size, i.bytes)) = some (some z, 1, bytes)) (hz : z.cells.size = 1) (hb0 : 0 < bytes)
    (hSL : SL w0 W l) (ys : List Int) (A : Option Addr) (m c : Nat) (hC : Kd.C (Kd.int kk) W A m ys) (hs : a.eval s = .slice (some ⟨W.heap.size, 0, none⟩) 0 0) (hx : a.eval x = .slice A m c) (hl : m * bytes ≤ 140737488355328)
    (h : ∀ v1 w1, SL w0 w1 (rowA (Kd.int kk) e v1 ys :: l) → wpList P ops Q rest (a.put o.dst v1) w1) :
    wpList P ops Q (o :: rest) a (W.alloc (.cells #[] e (0, 0))) := by
  refine wpList_plain hgd fun K hK => ?_
  have := append_new_step (ops := #[]) (a := a) (Kc := K) (Q := Q) (E0 := True) hgd s x t e z bytes ho ht hinfo hz hb0 hSL ys A m c hC hs hx hl (fun v1 w1 hs1 => hK _ _ (h v1 w1 hs1))
  rw [if_pos (by simp [Region.wanted, hgd])] at this
  exact this
/-- append(v, make([]T, n)...), one step of a region of open order. -/
theorem append_noughts_step {E0 : Prop} {kk : IntKind} {w0 W : World} {l : List Asn} {v : Value} {xs : List Int} (hgd : o.guard = none) (s x : Operand) (t ti e : TypeId) (bytes : Nat)
    (ho : o.op = .call { callee := .builtin .append, args := #[s, x], argTypes := #[t, ti] })
    (ht : P.underlying t = some (.slice e)) (hti : P.underlying ti = some (.int .i64)) (hinfo : (P.info? e).map (fun i => (i.zero, i.size, i.bytes)) = some (some (.int kk 0), 1, bytes)) (hb0 : 0 < bytes)
    (hSL : SL w0 W (rowA (Kd.int kk) e v xs :: l)) (n : Nat) (hs : a.eval s = v) (hx : a.eval x = .int .i64 (n : Int)) (hl : (xs.length + n) * bytes ≤ 140737488355328)
    (h : ∀ v1 w1, SL w0 w1 (rowA (Kd.int kk) e v1 (xs ++ List.replicate n 0) :: l) → Kc (a.put o.dst v1) w1) :
    if Region.wanted o (yielded ops a.tmps) = true then Oper.wp P o a W Kc Q else E0 := by
  have hw : Region.wanted o (yielded ops a.tmps) = true := by simp [Region.wanted, hgd]
  rw [if_pos hw]
  obtain ⟨hb, S, _, hA, hr⟩ := hSL
  have hA := Asn.bound (rowA (Kd.int kk) e v xs) hA
  have hr := hr.bound
  have key : if Region.wanted o (yielded ops a.tmps) = true then Oper.wp P o a W Kc Q else Kc (a.put o.dst undef) W := by
    refine Kd.R_append_zeros_step (Kd.int kk) w0.heap.size hw s x t ti e (.int kk 0) bytes ho ht hti hinfo rfl (show 0 < 1 from Nat.zero_lt_one) hb0 v xs 0 (n : Int) (fun k => S k ∧ w0.heap.size ≤ k ∧ k < W.heap.size ∨ W.heap.size ≤ k) hs hx rfl (fun k hk => .inr hk) (Kd.R_mono hA (fun k hk => .inl hk)) (Int.natCast_nonneg _) hb hb.size (by rw [Int.toNat_natCast]; exact hl) ?_
    intro v1 w1 hR hb1 hg hat
    rw [Int.toNat_natCast] at hR
    refine h v1 w1 ⟨hb1, _, fun _ _ => trivial, hR, (hr.step (fun k hk hlt => hg.block k hlt (fun e => ?_))).mono (fun k hk => ⟨trivial, fun h2 => h2.elim (fun h3 => hk.1.2 h3.1) (fun h3 => by have := hk.2.2; omega)⟩)⟩
    exact hk.1.2 (hA.1 k e.symm).1
  rw [if_pos hw] at key
  exact key
theorem append_noughts {kk : IntKind} {w0 W : World} {l : List Asn} {v : Value} {xs : List Int} (hgd : o.guard = none) (s x : Operand) (t ti e : TypeId) (bytes : Nat)
    (ho : o.op = .call { callee := .builtin .append, args := #[s, x], argTypes := #[t, ti] })
    (ht : P.underlying t = some (.slice e)) (hti : P.underlying ti = some (.int .i64)) (hinfo : (P.info? e).map (fun i => (i.zero, i.size, i.bytes)) = some (some (.int kk 0), 1, bytes)) (hb0 : 0 < bytes)
    (hSL : SL w0 W (rowA (Kd.int kk) e v xs :: l)) (n : Nat) (hs : a.eval s = v) (hx : a.eval x = .int .i64 (n : Int)) (hl : (xs.length + n) * bytes ≤ 140737488355328)
    (h : ∀ v1 w1, SL w0 w1 (rowA (Kd.int kk) e v1 (xs ++ List.replicate n 0) :: l) → wpList P ops Q rest (a.put o.dst v1) w1) :
    wpList P ops Q (o :: rest) a W := by
  refine wpList_plain hgd fun K hK => ?_
  have := append_noughts_step (ops := #[]) (a := a) (Kc := K) (Q := Q) (E0 := True) hgd s x t ti e bytes ho ht hti hinfo hb0 hSL n hs hx hl (fun v1 w1 hs1 => hK _ _ (h v1 w1 hs1))
  rw [if_pos (by simp [Region.wanted, hgd])] at this
  exact this
end Go.Proofs.Ytpaenlplpaabjaa.QStripeLays
