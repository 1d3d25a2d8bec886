/- The reference of the span laws in plain words: the walk between the places, and that the sweep comes to the same; no conditions. -/
import Derived.Test.YthnchojddoefiaaQSpanAddsx3
import Derived.Test.YthnchojddoefiaaQSpanAddsx4
import Derived.Test.YthnchojddoefiaaQSpanAddsx6
import Derived.Test.YthnchojddoefiaaSep
import Derived.Test.YthnchojddoefiaaSepCopy
import Derived.Test.YthnchojddoefiaaSortRow
import Derived.Test.YthnchojddoefiaaSortLay
import Derived.Deep.RegionLaw
import Derived.StillTailTactics
import Derived.IntWalk
set_option linter.unusedVariables false
set_option linter.unusedSimpArgs false
namespace Go.Proofs.Ythnchojddoefiaa.QSpanAdds
open Go.RowKit Go.Proofs.YthnchojddoefiaaW.PrintWords Go.Proofs.YthnchojddoefiaaW.PrintLast Go.Proofs.YthnchojddoefiaaW.PrintMore
open Go.Proofs.Ythnchojddoefiaa.Sep Go.Proofs.Ythnchojddoefiaa.SortRow Go.Proofs.Ythnchojddoefiaa.SortLay Go.Sort
/-- The ranges between places that are so, those that touch in one. -/
def th_put (out : List S79) (p q : Int) : List S79 := match out.getLast? with
  | some x => if x.f1 = p then out.dropLast ++ [⟨x.f0, q⟩] else out ++ [⟨p, q⟩]
  | none => [⟨p, q⟩]
def th (so : Int → Bool) : List Int → List S79 → List S79
  | [], out => out
  | [_], out => out
  | p :: q :: ps, out => if so p = true then th so (q :: ps) (th_put out p q) else th so (q :: ps) out
theorem C_num {w : World} {A : Option Addr} {n : Nat} {xs : List Int} (h : Kd.C (Kd.int .i64) w A n xs) (i : Int) (h0 : 0 ≤ i) (h1 : i < n) : ∃ ad, A = some ad ∧ w.cell? (ad.add i.toNat) = some (.int .i64 (rd xs i)) := by
  obtain ⟨ad, c, e, _, hK, hc⟩ := Kd.C_get h (0 : Int) i h0 h1
  have hc1 : c = [.int .i64 (rd xs i)] := hK
  subst hc1
  have := hc 0 _ rfl
  exact ⟨ad, e, by rw [show i.toNat * (Kd.int .i64).sz + 0 = i.toNat from by show i.toNat * 1 + 0 = _; omega] at this; exact this⟩
theorem rowFz {α : Type} {d : Kd α} {e g n cap : Nat} {xs : List α} {w0 w : World} {l : List Asn} (h : SL w0 w l) (k : Nat) (hk : l[k]? = some (rowA d e (.slice (some ⟨g, 0, none⟩) n cap) xs)) (i : Nat) : w.frozen? ⟨g, i, none⟩ = false ∧ g < w.heap.size := by
  obtain ⟨cells, hc⟩ := Kd.R_typed (h.row k hk) g rfl
  exact ⟨blk_frozen hc i, blk_lt hc⟩
def encR (x : S79) : List Value := [.int .i64 x.f0, .int .i64 x.f1]
def inB (l : List S79) (n : Int) : Bool := l.any (fun r => decide (r.f0 ≤ n ∧ n < r.f1))
theorem has_go (n : Int) (l : List S79) (hl : l.length ≤ 1000) : ∀ (d : Nat) (i : Int), 0 ≤ i → i + d = (l.length : Int) → ∃ k, quicksetref_SpanHas.l0 k n l (l.length : Int) i = some (inB (l.drop i.toNat) n)
  | 0, i, h0, h1 => ⟨1, by rw [quicksetref_SpanHas.l0, if_neg (by omega), List.drop_eq_nil_of_le (by omega)]; rfl⟩
  | d + 1, i, h0, h1 => by
    obtain ⟨hdr, _⟩ := rd_drop_ z79 l i h0 (by omega)
    obtain ⟨k, hk⟩ := has_go n l hl d (i + 1) (by omega) (by omega)
    refine ⟨k + 1, ?_⟩
    rw [quicksetref_SpanHas.l0, if_pos (by omega), if_pos h0, if_pos (by omega), wrap_id (by omega) (by omega), hk, hdr]
    change _ = some (decide ((rd_T79 l i).f0 ≤ n ∧ n < (rd_T79 l i).f1) || inB (l.drop (i + 1).toNat) n)
    by_cases c1 : (rd_T79 l i).f0 ≤ n
    · by_cases c2 : n < (rd_T79 l i).f1
      · rw [if_pos c1, if_pos c2, decide_eq_true ⟨c1, c2⟩]; rfl
      · rw [if_pos c1, if_neg c2, decide_eq_false (fun h => c2 h.2)]; rfl
    · rw [if_neg c1, decide_eq_false (fun h => c1 h.1)]; rfl
theorem may_le {k : Nat} {l : List S79} (h : quicksetref_SpanMay.f k l = some true) : l.length ≤ 200 := by
  unfold quicksetref_SpanMay.f at h
  split at h
  · cases h
  · omega
theorem has_is {k : Nat} {l : List S79} (h : quicksetref_SpanMay.f k l = some true) (n : Int) : ∃ k, quicksetref_SpanHas.f k l n = some (inB l n) := by
  have hl := may_le h
  obtain ⟨k2, h2⟩ := has_go n l (by omega) l.length 0 (by omega) (by omega)
  refine ⟨max k k2, ?_⟩
  have g1 := at_rounds (fun k => quicksetref_SpanMay.mono l k) (show k ≤ max k k2 by omega) h
  have g2 := at_rounds (fun k => quicksetref_SpanHas.mono_l k n l (l.length : Int) 0) (show k2 ≤ max k k2 by omega) h2
  unfold quicksetref_SpanHas.f
  rw [g1]
  simp only [Option.bind_some]
  rw [if_pos trivial]
  exact g2
theorem one_may (a b : Int) (h : quicksetref_RangeMay.f a b = some true) : ∃ k, quicksetref_SpanMay.f k [(⟨a, b⟩ : S79)] = some true := by
  refine ⟨2, ?_⟩
  unfold quicksetref_SpanMay.f
  rw [if_neg (by simp), quicksetref_SpanMay.l0, if_pos (by simp), if_pos (by omega)]
  change (quicksetref_RangeMay.f a b).bind _ = _
  rw [h]
  simp only [Option.bind_some]
  rw [if_pos trivial, if_neg (by rw [wrap_id (by omega) (by omega)]; simp), quicksetref_SpanMay.l0, if_neg (by rw [wrap_id (by omega) (by omega)]; simp)]
theorem C_two (W : World) (l m : List S79) (A0 A1 : Option Addr) (c0 c1 bs : Nat) (h0 : Kd.C k79 W A0 l.length l) (h1 : Kd.C k79 W A1 m.length m) (hc0 : l.length ≤ c0) (hc1 : m.length ≤ c1) (hb : W.heap[bs]? = some (.cells #[.slice A0 l.length c0, .slice A1 m.length c1] 64 (0, 0))) : Kd.C (Kd.slice 79 k79) W (some ⟨bs, 0, none⟩) [l, m].length [l, m] := by
  refine ⟨rfl, by simp, fun _ => ⟨_, rfl, fun j p hj => ?_⟩⟩
  have hj2 : j = 0 ∨ j = 1 := by have := (List.getElem?_eq_some_iff.1 hj).1; simp at this; omega
  rcases hj2 with rfl | rfl
  · have hp : l = p := by simpa using hj
    subst hp
    refine ⟨[.slice A0 l.length c0], rfl, ⟨A0, c0, rfl, hc0, h0⟩, fun i u hu => ?_⟩
    have hi : i = 0 := by have := (List.getElem?_eq_some_iff.1 hu).1; simp at this; exact this
    subst hi
    rw [add_plain, blk_cell hb]
    simpa using hu
  · have hp : m = p := by simpa using hj
    subst hp
    refine ⟨[.slice A1 m.length c1], rfl, ⟨A1, c1, rfl, hc1, h1⟩, fun i u hu => ?_⟩
    have hi : i = 0 := by have := (List.getElem?_eq_some_iff.1 hu).1; simp at this; exact this
    subst hi
    rw [add_plain, blk_cell hb]
    have hu2 : some (Value.slice A1 m.length c1) = some u := by simpa using hu
    exact hu2
theorem ins_len_ (n : Int) : ∀ l : List Int, (ins n l).length ≤ l.length + 1
  | [] => by simp [ins]
  | y :: l => by
    have := ins_len_ n l
    rw [ins]
    split
    · rw [List.length_cons, List.length_cons]; omega
    · split <;> simp
theorem ends1_len : ∀ (l : List S79) (out : List Int), (ends1 l out).length ≤ out.length + 2 * l.length
  | [], out => by simp [ends1]
  | r :: l, out => by
    have h1 := ends1_len l (ins r.f1 (ins r.f0 out))
    have h2 := ins_len_ r.f1 (ins r.f0 out)
    have h3 := ins_len_ r.f0 out
    rw [ends1, List.length_cons]
    omega
theorem C_blk {w0 w : World} {l : List Asn} {g : Nat} {a b : Int} (h : SL w0 w l) (k : Nat) (hk : l[k]? = some (blkA g #[.int .i64 a, .int .i64 b] 79)) : Kd.C k79 w (some ⟨g, 0, none⟩) [(⟨a, b⟩ : S79)].length [(⟨a, b⟩ : S79)] := by
  refine ⟨rfl, by simp, fun _ => ⟨_, rfl, fun j p hj => ?_⟩⟩
  have hj0 : j = 0 := by have := (List.getElem?_eq_some_iff.1 hj).1; simp at this; exact this
  subst hj0
  have hp : (⟨a, b⟩ : S79) = p := by simpa using hj
  subst hp
  refine ⟨[.int .i64 a, .int .i64 b], rfl, k79_mk _ ⟨a, b⟩, fun i u hu => ?_⟩
  rw [add_plain, blk_cell (h.blk k hk)]
  simpa using hu
/-! the sweep and the walk between the places come to the same (plain) -/
theorem th_put_new (out : List S79) (p q : Int) (h : ∀ x, out.getLast? = some x → x.f1 ≠ p) : th_put out p q = out ++ [⟨p, q⟩] := by
  unfold th_put
  cases hx : out.getLast? with
  | none => rw [List.getLast?_eq_none_iff.1 hx]; rfl
  | some x => show (if x.f1 = p then _ else _) = _; rw [if_neg (h x hx)]
theorem th_put_more (out : List S79) (f p q : Int) : th_put (out ++ [⟨f, p⟩]) p q = out ++ [⟨f, q⟩] := by
  unfold th_put
  rw [show (out ++ [(⟨f, p⟩ : S79)]).getLast? = some ⟨f, p⟩ from by simp]
  show (if p = p then _ else _) = _
  rw [if_pos rfl, List.dropLast_concat]
theorem swp_th (want : Int → Bool) (D : Int → Int) (so : Int → Bool) : ∀ (ps : List Int) (out : List S79), (∀ p ∈ ps, 0 ≤ p) → ps.Pairwise (· < ·) → (∀ p ∈ ps, want (D p) = so p) → (∀ p, ps.getLast? = some p → so p = false) →
    ((∀ x, out.getLast? = some x → ∀ p ∈ ps, x.f1 < p) → swp want D ps (-1) out = th so ps out) ∧ (∀ fr p ps', ps = p :: ps' → 0 ≤ fr → swp want D ps fr out = th so ps (out ++ [⟨fr, p⟩]))
  | [], out, _, _, _, _ => ⟨fun _ => rfl, fun fr p ps' h => by cases h⟩
  | [p], out, h0, _, hw, hl => by
    have hso : so p = false := hl p rfl
    have hwp : want (D p) = false := (hw p List.mem_cons_self).trans hso
    refine ⟨fun _ => ?_, fun fr q ps' h hfr => ?_⟩
    · rw [swp, hwp, if_neg (by simp), if_neg (by omega), swp, th]
    · injection h with h1 h2
      subst h1
      rw [swp, hwp, if_neg (by simp), if_pos (by omega), swp, th]
  | p :: q :: ps, out, h0, hs, hw, hl => by
    have hp0 := h0 p List.mem_cons_self
    have hs' := hs
    rw [List.pairwise_cons] at hs
    have ih := fun out => swp_th want D so (q :: ps) out (fun x hx => h0 x (List.mem_cons_of_mem _ hx)) hs.2 (fun x hx => hw x (List.mem_cons_of_mem _ hx)) (fun x hx => hl x (by rw [List.getLast?_cons_cons]; exact hx))
    have hwp := hw p List.mem_cons_self
    refine ⟨fun hx => ?_, fun fr p' ps' h hfr => ?_⟩
    · cases hso : so p with
      | true =>
        rw [swp, hwp, hso, if_pos rfl, if_pos (by omega), th, if_pos hso, th_put_new out p q (fun x hlx => by have := hx x hlx p List.mem_cons_self; omega)]
        exact (ih out).2 p q ps rfl hp0
      | false =>
        rw [swp, hwp, hso, if_neg (by simp), if_neg (by omega), th, hso, if_neg (by simp)]
        exact (ih out).1 (fun x hlx y hy => hx x hlx y (List.mem_cons_of_mem _ hy))
    · injection h with h1 h2
      subst h1 h2
      cases hso : so p with
      | true =>
        rw [swp, hwp, hso, if_pos rfl, if_neg (by omega), th, if_pos hso, th_put_more]
        exact (ih out).2 fr q ps rfl hfr
      | false =>
        rw [swp, hwp, hso, if_neg (by simp), if_pos (by omega), th, hso, if_neg (by simp)]
        refine (ih _).1 (fun x hlx y hy => ?_)
        rw [show (out ++ [(⟨fr, p⟩ : S79)]).getLast? = some ⟨fr, p⟩ from by simp] at hlx
        have hxe : (⟨fr, p⟩ : S79) = x := Option.some.inj hlx
        subst hxe
        exact hs.1 y hy
/-- How many ranges have it. -/
def cnt : List S79 → Int → Int
  | [], _ => 0
  | r :: l, p => (if r.f0 ≤ p ∧ p < r.f1 then 1 else 0) + cnt l p
theorem dsum_edl (b p : Int) (hb : b = 1 ∨ b = -1) : ∀ l : List S79, (∀ r ∈ l, r.f0 < r.f1) → dsum p (edl b l) = b * cnt l p
  | [], _ => by simp [edl, dsum, cnt]
  | r :: l, h => by
    have hr := h r List.mem_cons_self
    rw [edl, dsum, dsum, dsum_edl b p hb l (fun x hx => h x (List.mem_cons_of_mem _ hx)), cnt]
    show (if r.f0 ≤ p then b else 0) + ((if r.f1 ≤ p then -b else 0) + b * cnt l p) = _
    generalize cnt l p = c
    rcases hb with rfl | rfl
    · split <;> split <;> split <;> omega
    · split <;> split <;> split <;> omega
theorem dsum_append (p : Int) : ∀ (xs ys : List S194), dsum p (xs ++ ys) = dsum p xs + dsum p ys
  | [], ys => by simp [dsum]
  | e :: xs, ys => by rw [List.cons_append, dsum, dsum, dsum_append p xs ys]; omega
theorem inB_iff (l : List S79) (n : Int) : inB l n = true ↔ ∃ r ∈ l, r.f0 ≤ n ∧ n < r.f1 := by
  unfold inB
  rw [List.any_eq_true]
  constructor
  · rintro ⟨r, h1, h2⟩; exact ⟨r, h1, of_decide_eq_true h2⟩
  · rintro ⟨r, h1, h2⟩; exact ⟨r, h1, decide_eq_true h2⟩
theorem cnt_zero (p : Int) : ∀ l : List S79, (∀ r ∈ l, p < r.f0) → cnt l p = 0
  | [], _ => rfl
  | r :: l, h => by
    rw [cnt, if_neg (fun hh => by have := h r List.mem_cons_self; omega), cnt_zero p l (fun x hx => h x (List.mem_cons_of_mem _ hx))]; rfl
theorem cnt_in (p : Int) : ∀ l : List S79, l.Pairwise (fun a b => a.f1 < b.f0) → cnt l p = if inB l p = true then 1 else 0
  | [], _ => rfl
  | r :: l, h => by
    rw [List.pairwise_cons] at h
    have ih := cnt_in p l h.2
    rw [cnt]
    by_cases c : r.f0 ≤ p ∧ p < r.f1
    · rw [if_pos c, cnt_zero p l (fun x hx => by have := h.1 x hx; omega), if_pos ((inB_iff _ _).2 ⟨r, List.mem_cons_self, c⟩)]; rfl
    · rw [if_neg c, ih]
      have e : inB (r :: l) p = inB l p := by
        show (decide (r.f0 ≤ p ∧ p < r.f1) || inB l p) = _
        rw [decide_eq_false c, Bool.false_or]
      rw [e]; omega
/-- A list of ranges that may be: disjoint, ascending. -/
def Fine (l : List S79) : Prop := (∀ r ∈ l, 0 ≤ r.f0 ∧ r.f0 < r.f1) ∧ l.Pairwise (fun a b => a.f1 < b.f0)
theorem fine_one (r : S79) (h : 0 ≤ r.f0 ∧ r.f0 < r.f1) : Fine [r] := ⟨fun x hx => by rw [List.mem_singleton.1 hx]; exact h, by simp⟩
theorem fine_D (b p : Int) (hb : b = 1 ∨ b = -1) {l : List S79} (h : Fine l) : dsum p (edl b l) = if inB l p = true then b else 0 := by
  rw [dsum_edl b p hb l (fun r hr => (h.1 r hr).2), cnt_in p l h.2]
  split <;> omega
theorem places_mem (l m : List S79) (x : Int) : x ∈ endsF [l, m] [] ↔ (∃ r ∈ l, x = r.f0 ∨ x = r.f1) ∨ ∃ r ∈ m, x = r.f0 ∨ x = r.f1 := by
  show x ∈ ends1 m (ends1 l []) ↔ _
  rw [ends1_mem, ends1_mem]
  constructor
  · rintro ((h | h) | h)
    · cases h
    · exact .inl h
    · exact .inr h
  · rintro (h | h)
    · exact .inl (.inr h)
    · exact .inr h
theorem last_ge : ∀ {ps : List Int} {p : Int}, ps.Pairwise (· < ·) → ps.getLast? = some p → ∀ x ∈ ps, x ≤ p
  | [], _, _, h, _, _ => by cases h
  | [a], p, _, h, x, hx => by
    have : a = p := by simpa using h
    rw [List.mem_singleton.1 hx, this]; exact Int.le_refl _
  | a :: b :: ps, p, hs, h, x, hx => by
    rw [List.getLast?_cons_cons] at h
    rw [List.pairwise_cons] at hs
    rcases List.mem_cons.1 hx with rfl | hx
    · have h1 := hs.1 b List.mem_cons_self
      have h2 := last_ge hs.2 h b List.mem_cons_self
      omega
    · exact last_ge hs.2 h x hx
theorem out_of_last {l m : List S79} {p : Int} (h : (endsF [l, m] []).getLast? = some p) : inB l p = false ∧ inB m p = false := by
  have hs : (endsF [l, m] []).Pairwise (· < ·) := ends1_sorted _ _ (ends1_sorted _ _ List.Pairwise.nil)
  have hge := last_ge hs h
  constructor
  · cases c : inB l p with
    | false => rfl
    | true =>
      obtain ⟨r, h1, h2⟩ := (inB_iff _ _).1 c
      have := hge r.f1 ((places_mem l m _).2 (.inl ⟨r, h1, .inr rfl⟩))
      omega
  · cases c : inB m p with
    | false => rfl
    | true =>
      obtain ⟨r, h1, h2⟩ := (inB_iff _ _).1 c
      have := hge r.f1 ((places_mem l m _).2 (.inr ⟨r, h1, .inr rfl⟩))
      omega
/-- The program's sweep is the reference's walk. -/
theorem swp_is (want : Int → Bool) (a b : Int) (ha : a = 1 ∨ a = -1) (hb : b = 1 ∨ b = -1) (so : Int → Bool) (l m : List S79) (hl : Fine l) (hm : Fine m)
    (h : ∀ p, want ((if inB l p = true then a else 0) + (if inB m p = true then b else 0)) = so p) (hso : ∀ p, inB l p = false → inB m p = false → so p = false) :
    swp want (fun p => dsum p (edl a l ++ edl b m)) (endsF [l, m] []) (-1) [] = th so (endsF [l, m] []) [] := by
  refine (swp_th want _ so (endsF [l, m] []) [] (fun p hp => ?_) (ends1_sorted _ _ (ends1_sorted _ _ List.Pairwise.nil)) (fun p _ => ?_) (fun p hp => ?_)).1 (fun x hx => by cases hx)
  · rcases (places_mem l m p).1 hp with ⟨r, h1, h2⟩ | ⟨r, h1, h2⟩
    · have := hl.1 r h1; omega
    · have := hm.1 r h1; omega
  · show want (dsum p (edl a l ++ edl b m)) = _
    rw [dsum_append, fine_D a p ha hl, fine_D b p hb hm]; exact h p
  · exact hso p (out_of_last hp).1 (out_of_last hp).2
end Go.Proofs.Ythnchojddoefiaa.QSpanAdds
