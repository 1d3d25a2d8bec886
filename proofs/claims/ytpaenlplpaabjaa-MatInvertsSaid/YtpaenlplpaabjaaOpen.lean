/- How an argument that reads as data is opened as a value of a kind (whole numbers, bools, strings, slices, structs, in each other): no conditions; what is read is within the form's own reach. -/
import Derived.Test.YtpaenlplpaabjaaWWords
import Derived.Test.YtpaenlplpaabjaaWSized
import Derived.SizedLaws
import Derived.ChangeOld
import Derived.Carry
set_option linter.unusedVariables false
set_option linter.unusedSimpArgs false
namespace Go.Proofs.Ytpaenlplpaabjaa.Opn
open Go.RowKit Go.Proofs.YtpaenlplpaabjaaW.PrintWords

/-- Whatever reads as data of the type T is a value of the kind d, and fits its bounds. -/
structure Opens (P : Program) (T : TypeId) {α : Type} (d : Kd α) (G : α → Prop) : Prop where
  size : P.cellsOf T = d.sz
  opens : ∀ {H : Type} {enc : TypeId × Value → H} {w : World} {base : Nat} {spare : Nat → Bool} {held : Bool} (fuel : Nat) (cs : List Value) (x : DataW H × List MemPlace),
    DataW.trod enc P w base spare held fuel T cs = some x → (x.1.weights P T).all (· ≤ reachBytes) = true → ∃ a : α, d.K w a cs ∧ G a

theorem reach_is : reachBytes = 140737488351232 := by decide

section
variable {P : Program} {T : TypeId}
theorem opens_int {k : IntKind} (hu : P.underlying T = some (.int k)) (hs : P.cellsOf T = 1) : Opens P T (Kd.int k) (fun a => (Lit.int k a).wf = true) := by
  refine ⟨hs, ?_⟩
  intro H enc w base spare held fuel cs x h _
  cases fuel with
  | zero => simp [DataW.trod] at h
  | succ fuel =>
    unfold DataW.trod at h
    rw [hu] at h
    match cs, h with
    | [.int k' n], h =>
      simp only at h
      split at h
      · rename_i hk
        obtain ⟨rfl, hw⟩ := hk
        exact ⟨n, rfl, hw⟩
      · cases h
theorem opens_bool (hu : P.underlying T = some .bool) (hs : P.cellsOf T = 1) : Opens P T Kd.bool (fun _ => True) := by
  refine ⟨hs, ?_⟩
  intro H enc w base spare held fuel cs x h _
  cases fuel with
  | zero => simp [DataW.trod] at h
  | succ fuel =>
    unfold DataW.trod at h
    rw [hu] at h
    match cs, h with
    | [.bool b], h => exact ⟨b, rfl, trivial⟩
theorem opens_string (hu : P.underlying T = some .string) (hs : P.cellsOf T = 1) : Opens P T Kd.string (fun s => s.size ≤ 140737488351232) := by
  refine ⟨hs, ?_⟩
  intro H enc w base spare held fuel cs x h hz
  cases fuel with
  | zero => simp [DataW.trod] at h
  | succ fuel =>
    unfold DataW.trod at h
    rw [hu] at h
    match cs, h with
    | [.string s], h =>
      simp only at h
      split at h
      · obtain rfl := Option.some.inj h
        refine ⟨s, rfl, ?_⟩
        have hm : s.data.toList.length ∈ (DataW.lit (H := H) (.string s.data.toList)).weights P T := by simp [DataW.weights]
        have := List.all_eq_true.1 hz _ hm
        simp only [decide_eq_true_eq, reach_is, Array.length_toList] at this
        exact this
      · cases h

theorem mapM_some {α β : Type} {f : α → Option β} : ∀ {l : List α} {ys : List β}, l.mapM f = some ys → ys.length = l.length ∧ ∀ (i : Nat) (a : α), l[i]? = some a → ∃ b, ys[i]? = some b ∧ f a = some b
  | [], ys, h => by
    simp only [List.mapM_nil, Option.pure_def, Option.some.injEq] at h
    subst h
    exact ⟨rfl, fun i a hi => by simp at hi⟩
  | a :: l, ys, h => by
    simp only [List.mapM_cons, Option.bind_eq_bind, Option.pure_def] at h
    obtain ⟨b, hb, h⟩ := Option.bind_eq_some_iff.1 h
    obtain ⟨bs, hbs, h⟩ := Option.bind_eq_some_iff.1 h
    obtain rfl := Option.some.inj h
    obtain ⟨h1, h2⟩ := mapM_some hbs
    refine ⟨by simp [h1], fun i c hi => ?_⟩
    cases i with
    | zero =>
      simp only [List.getElem?_cons_zero, Option.some.injEq] at hi
      subst hi
      exact ⟨b, by simp, hb⟩
    | succ i =>
      simp only [List.getElem?_cons_succ] at hi
      obtain ⟨d, hd, hf⟩ := h2 i c hi
      exact ⟨d, by simpa using hd, hf⟩
theorem weightsAll_at {H : Type} {P : Program} {e : TypeId} : ∀ {l : List (DataW H)} {i : Nat} {d : DataW H}, l[i]? = some d → ∀ n ∈ d.weights P e, n ∈ DataW.weightsAll P e l
  | [], i, d, h, n, hn => by simp at h
  | d0 :: l, 0, d, h, n, hn => by
    simp only [List.getElem?_cons_zero, Option.some.injEq] at h
    subst h
    simp only [DataW.weightsAll, List.mem_append]
    exact .inl hn
  | d0 :: l, i + 1, d, h, n, hn => by
    simp only [List.getElem?_cons_succ] at h
    simp only [DataW.weightsAll, List.mem_append]
    exact .inr (weightsAll_at h n hn)
theorem cells_at {w : World} {base : Nat} {a : Addr} {n : Nat} {cs : List Value} (h : w.cells? base a n = some cs) : cs.length = n ∧ ∀ i u, cs[i]? = some u → w.cell? (a.add i) = some u := by
  unfold World.cells? at h
  split at h
  · obtain ⟨h1, h2⟩ := mapM_some h
    rw [List.length_range] at h1
    refine ⟨h1, fun i u hi => ?_⟩
    have hl := (List.getElem?_eq_some_iff.1 hi).1
    obtain ⟨b, hb, hf⟩ := h2 i i (by simp [List.getElem?_range (show i < n by omega)])
    rw [hi] at hb
    obtain rfl := Option.some.inj hb
    exact hf
  · cases h
theorem add_add (a : Addr) (i j : Nat) (h : a.spot = none) : (a.add i).add j = a.add (i + j) := by
  unfold Addr.add
  by_cases h1 : i = 0 <;> by_cases h2 : j = 0 <;> simp [h1, h2, Nat.add_assoc]
/-- A list of things that exist is a list. -/
theorem choose_list {α : Type} {Q : Nat → α → Prop} : ∀ (n : Nat), (∀ i, i < n → ∃ a, Q i a) → ∃ l : List α, l.length = n ∧ ∀ i a, l[i]? = some a → Q i a
  | 0, _ => ⟨[], rfl, fun i a h => by simp at h⟩
  | n + 1, h => by
    obtain ⟨l, h1, h2⟩ := choose_list n (fun i hi => h i (by omega))
    obtain ⟨a, ha⟩ := h n (by omega)
    refine ⟨l ++ [a], by simp [h1], fun i b hi => ?_⟩
    rcases Nat.lt_or_ge i n with hl | hl
    · rw [List.getElem?_append_left (by omega)] at hi
      exact h2 i b hi
    · have hlt := (List.getElem?_eq_some_iff.1 hi).1
      simp only [List.length_append, List.length_singleton, h1] at hlt
      have : i = n := by omega
      subst this
      rw [List.getElem?_append_right (by omega), h1, Nat.sub_self] at hi
      simp only [List.getElem?_cons_zero, Option.some.injEq] at hi
      subst hi
      exact ha

theorem opens_slice {e : TypeId} {α : Type} {d : Kd α} {G : α → Prop} (hu : P.underlying T = some (.slice e)) (hs : P.cellsOf T = 1) (he : Opens P e d G) :
    Opens P T (Kd.slice e d) (fun xs => xs.length * P.bytesOf e ≤ 140737488351232 ∧ ∀ x ∈ xs, G x) := by
  refine ⟨hs, ?_⟩
  intro H enc w base spare held fuel cs x h hz
  cases fuel with
  | zero => simp [DataW.trod] at h
  | succ fuel =>
    unfold DataW.trod at h
    rw [hu] at h
    match cs, h with
    | [.slice none 0 0], h =>
      exact ⟨[], ⟨none, 0, rfl, Nat.le_refl _, rfl, by simp, fun h => absurd h (by simp)⟩, by simp, by simp⟩
    | [.slice (some a) len cap], h =>
      simp only at h
      split at h
      · rename_i hb
        obtain ⟨hb1, hb2, hb3⟩ := hb
        obtain ⟨elems, h1, h2⟩ := Option.bind_eq_some_iff.1 h
        obtain ⟨rest, h3, h4⟩ := Option.map_eq_some_iff.1 h2
        subst h4
        obtain ⟨hl, hat⟩ := mapM_some h1
        rw [List.length_range] at hl
        have hwt : ∀ (i : Nat) (y : DataW H × List MemPlace), elems[i]? = some y → (y.1.weights P e).all (· ≤ reachBytes) = true := by
          intro i y hi
          refine List.all_eq_true.2 fun n hn => ?_
          refine List.all_eq_true.1 hz n ?_
          simp only [DataW.weights, hu, List.mem_cons, List.mem_append]
          exact .inr (.inl (weightsAll_at (l := elems.map (·.1)) (i := i) (d := y.1) (by simp [hi]) n hn))
        obtain ⟨xs, hx1, hx2⟩ := choose_list (Q := fun i (p : α) => ∃ c, d.K w p c ∧ G p ∧ c.length = d.sz ∧ ∀ j u, c[j]? = some u → w.cell? ((a.add (i * d.sz)).add j) = some u) len (fun i hi => by
          obtain ⟨y, hy1, hy2⟩ := hat i i (by simp [List.getElem?_range hi])
          obtain ⟨c, hc1, hc2⟩ := Option.bind_eq_some_iff.1 hy2
          obtain ⟨p, hp1, hp2⟩ := he.opens fuel c y hc2 (hwt i y hy1)
          obtain ⟨hc3, hc4⟩ := cells_at hc1
          rw [he.size] at hc3 hc4
          exact ⟨p, c, hp1, hp2, hc3, hc4⟩)
        refine ⟨xs, ⟨some a, cap, by rw [hx1], by omega, rfl, by rw [hx1]; unfold maxLen at hb3; omega, fun hp => ⟨a, rfl, fun j p hj => ?_⟩⟩, ?_, ?_⟩
        · obtain ⟨c, hc1, hc2, hc3, hc4⟩ := hx2 j p hj
          refine ⟨c, hc3, hc1, fun i u hi => ?_⟩
          have := hc4 i u hi
          have hadd : (a.add (j * d.sz)).add i = a.add (j * d.sz + i) := by
            unfold Addr.add
            by_cases h1 : j * d.sz = 0 <;> by_cases h2 : i = 0 <;> simp [h1, h2, Nat.add_assoc]
          rw [hadd] at this
          exact this
        · have hm : ((elems.map (·.1)).length + (rest.map (·.1)).length) * P.bytesOf e ∈ (DataW.slice (elems.map (·.1)) (rest.map (·.1))).weights P T := by simp [DataW.weights, hu]
          have hr := List.all_eq_true.1 hz _ hm
          simp only [decide_eq_true_eq, reach_is, List.length_map] at hr
          rw [hx1, ← hl]
          exact Nat.le_trans (Nat.mul_le_mul_right _ (Nat.le_add_right _ _)) hr
        · intro p hp
          obtain ⟨i, hi⟩ := List.getElem?_of_mem hp
          obtain ⟨c, _, hg, _⟩ := hx2 i p hi
          exact hg
      · cases h

/-- The fields of a struct, from a place on. -/
structure OpensFs (P : Program) (fs : List Field) (off : Nat) {α : Type} (d : Kd α) (G : α → Prop) : Prop where
  opens : ∀ {H : Type} {enc : TypeId × Value → H} {w : World} {base : Nat} {spare : Nat → Bool} {held : Bool} (fuel : Nat) (cs : List Value) (xs : List (DataW H × List MemPlace)), cs.length = off + d.sz →
    (fs.mapM fun f => DataW.trod enc P w base spare held fuel f.type ((cs.drop f.offset).take (P.cellsOf f.type))) = some xs → (DataW.weightsEach P (fs.map (·.type)) (xs.map (·.1))).all (· ≤ reachBytes) = true →
    ∃ a : α, d.K w a (cs.drop off) ∧ G a
theorem opensFs_one {f : Field} {off : Nat} {α : Type} {d : Kd α} {G : α → Prop} (ho : f.offset = off) (h : Opens P f.type d G) : OpensFs P [f] off d G := by
  refine ⟨?_⟩
  intro H enc w base spare held fuel cs xs hl hm hz
  simp only [List.mapM_cons, List.mapM_nil, Option.bind_eq_bind, Option.pure_def] at hm
  obtain ⟨y, hy, hm⟩ := Option.bind_eq_some_iff.1 hm
  simp only [Option.bind_some, Option.some.injEq] at hm
  subst hm
  rw [ho, h.size, List.take_of_length_le (by rw [List.length_drop]; omega)] at hy
  exact h.opens fuel _ y hy (by simpa [DataW.weightsEach] using hz)
theorem opensFs_cons {f : Field} {fs : List Field} {off : Nat} {α β : Type} {d : Kd α} {d' : Kd β} {G : α → Prop} {G' : β → Prop} (ho : f.offset = off) (h : Opens P f.type d G) (h' : OpensFs P fs (off + d.sz) d' G') :
    OpensFs P (f :: fs) off (Kd.pair d d') (fun x => G x.1 ∧ G' x.2) := by
  refine ⟨?_⟩
  intro H enc w base spare held fuel cs xs hl hm hz
  simp only [List.mapM_cons, Option.bind_eq_bind, Option.pure_def] at hm
  obtain ⟨y, hy, hm⟩ := Option.bind_eq_some_iff.1 hm
  obtain ⟨ys, hys, hm⟩ := Option.bind_eq_some_iff.1 hm
  obtain rfl := Option.some.inj hm
  have hl' : cs.length = off + (d.sz + d'.sz) := hl
  simp only [List.map_cons, DataW.weightsEach, List.all_append, Bool.and_eq_true] at hz
  rw [ho, h.size] at hy
  obtain ⟨a, ha, hga⟩ := h.opens fuel _ y hy hz.1
  obtain ⟨b, hb, hgb⟩ := h'.opens fuel cs ys (by omega) hys hz.2
  refine ⟨(a, b), ⟨(cs.drop off).take d.sz, cs.drop (off + d.sz), ?_, ha, hb⟩, hga, hgb⟩
  rw [← List.drop_drop, List.take_append_drop]
theorem opens_struct {fs : Array Field} {α β : Type} {d : Kd α} {f : β → α} {G : α → Prop} (hu : P.underlying T = some (.struct fs)) (hs : P.cellsOf T = d.sz) (hf : ∀ a, ∃ b, f b = a) (h : OpensFs P fs.toList 0 d G) :
    Opens P T (Kd.iso d f) (fun b => G (f b)) := by
  refine ⟨hs, ?_⟩
  intro H enc w base spare held fuel cs x hx hz
  cases fuel with
  | zero => simp [DataW.trod] at hx
  | succ fuel =>
    unfold DataW.trod at hx
    rw [hu] at hx
    have hx' : (if cs.length = P.cellsOf T then (fs.toList.mapM fun f => DataW.trod enc P w base spare held fuel f.type ((cs.drop f.offset).take (P.cellsOf f.type))).map fun xs => (DataW.agg (xs.map (·.1)), xs.flatMap (·.2)) else none) = some x := by
      simpa using hx
    split at hx'
    · rename_i hl
      obtain ⟨xs, h1, h2⟩ := Option.map_eq_some_iff.1 hx'
      subst h2
      obtain ⟨a, ha, hg⟩ := h.opens fuel cs xs (by omega) h1 (by simpa [DataW.weights, hu, List.map_map] using hz)
      obtain ⟨b, rfl⟩ := hf a
      refine ⟨b, ?_, hg⟩
      rw [List.drop_zero] at ha
      exact ha
    · cases hx'

/-- An argument, opened. -/
theorem Opens.arg {α : Type} {d : Kd α} {G : α → Prop} (h : Opens P T d G) {H : Type} {enc : TypeId × Value → H} {w : World} {base : Nat} {spare : Nat → Bool} {held : Bool} {v : Value} {dt : DataW H} {ps : List MemPlace} {ts : List TypeId} {ds : List (DataW H)} {j : Nat}
    (hsz : (DataW.weightsEach P ts ds).all (· ≤ reachBytes) = true) (ht : ts[j]? = some T) (hd : ds[j]? = some dt) (ho : DataW.Trod enc P w base spare held T v dt ps) : ∃ a : α, d.K w a v.cells.toList ∧ G a := by
  obtain ⟨fuel, hf⟩ := ho
  exact h.opens fuel _ _ hf (List.all_eq_true.2 fun n hn => List.all_eq_true.1 hsz n (DataW.weights_mem_each ht hd n hn))
end
end Go.Proofs.Ytpaenlplpaabjaa.Opn
