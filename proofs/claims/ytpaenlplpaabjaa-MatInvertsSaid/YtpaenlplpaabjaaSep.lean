/- Which blocks hold what, apart from each other: a list of sayings of a world, each with blocks of its own, and what a step does to them. No conditions. -/
import Derived.Test.YtpaenlplpaabjaaWWords
import Derived.Test.YtpaenlplpaabjaaWLast
import Derived.Test.YtpaenlplpaabjaaWTab
import Derived.Test.YtpaenlplpaabjaaWApart
import Derived.Test.YtpaenlplpaabjaaWFoot
import Derived.Test.YtpaenlplpaabjaaWKept
import Derived.Test.YtpaenlplpaabjaaWMore
import Derived.Test.YtpaenlplpaabjaaWInvWords
set_option linter.unusedVariables false
set_option linter.unusedSimpArgs false
namespace Go.Proofs.Ytpaenlplpaabjaa.Sep
open Go.RowKit Go.Proofs.YtpaenlplpaabjaaW.PrintWords

/-- A saying of blocks: S are the blocks that it may name, all from B on. -/
structure Asn where
  H : World → Nat → (Nat → Prop) → Prop
  step : ∀ {w w' : World} {B : Nat} {S : Nat → Prop}, (∀ k, S k → k < w.heap.size → w'.heap[k]? = w.heap[k]?) → H w B S → H w' B S
  mono : ∀ {w : World} {B : Nat} {S S' : Nat → Prop}, (∀ k, S k → S' k) → H w B S → H w B S'
  bound : ∀ {w : World} {B : Nat} {S : Nat → Prop}, H w B S → H w B (fun k => S k ∧ B ≤ k ∧ k < w.heap.size)
  lower : ∀ {w : World} {B B' : Nat} {S : Nat → Prop}, B' ≤ B → H w B S → H w B' S

/-- A block is so. -/
def objA (g : Nat) (o : Obj) : Asn where
  H := fun w B S => S g ∧ B ≤ g ∧ w.heap[g]? = some o
  step := fun hm h => ⟨h.1, h.2.1, (hm g h.1 (blk_lt h.2.2)).trans h.2.2⟩
  mono := fun hs h => ⟨hs _ h.1, h.2⟩
  bound := fun h => ⟨⟨h.1, h.2.1, blk_lt h.2.2⟩, h.2⟩
  lower := fun hb h => ⟨h.1, Nat.le_trans hb h.2.1, h.2.2⟩
/-- A block of cells. -/
def blkA (g : Nat) (cs : Array Value) (t : TypeId) : Asn := objA g (.cells cs t (0, 0))
/-- A row of the call's own. -/
def rowA {α : Type} (d : Kd α) (e : Nat) (v : Value) (xs : List α) : Asn where
  H := fun w B S => d.R e w B S v xs
  step := fun hm h => Kd.R_step h hm
  mono := fun hs h => Kd.R_mono h hs
  bound := fun h => Kd.R_mono (Kd.R_bound h) (fun k hk => ⟨hk.1, hk.2.1, hk.2.2.1⟩)
  lower := fun hb h => Kd.R_lower h hb
/-- A value's own cells, with rows inside. -/
def valA {α : Type} (d : Kd α) (x : α) (cs : List Value) : Asn where
  H := fun w B S => d.M w B S x cs
  step := fun hm h => Kd.M_step h hm
  mono := fun hs h => d.M_mono hs h
  bound := fun h => d.M_mono (fun k hk => ⟨hk.1, hk.2.1, hk.2.2.1⟩) (d.M_bound h)
  lower := fun hb h => d.M_lower hb h

/-- All of a list is said, each of blocks of its own, out of P. -/
def Sep (B : Nat) (w : World) : (Nat → Prop) → List Asn → Prop
  | _, [] => True
  | P, A :: l => ∃ S, (∀ k, S k → P k) ∧ A.H w B S ∧ Sep B w (fun k => P k ∧ ¬ S k) l

theorem Sep.mono {B : Nat} {w : World} : ∀ {l : List Asn} {P P' : Nat → Prop}, Sep B w P l → (∀ k, P k → P' k) → Sep B w P' l
  | [], _, _, _, _ => trivial
  | A :: l, P, P', ⟨S, hS, hA, hl⟩, hp => ⟨S, fun k hk => hp k (hS k hk), hA, Sep.mono hl (fun k hk => ⟨hp k hk.1, hk.2⟩)⟩
theorem Sep.bound {B : Nat} {w : World} : ∀ {l : List Asn} {P : Nat → Prop}, Sep B w P l → Sep B w (fun k => P k ∧ B ≤ k ∧ k < w.heap.size) l
  | [], _, _ => trivial
  | A :: l, P, ⟨S, hS, hA, hl⟩ => ⟨fun k => S k ∧ B ≤ k ∧ k < w.heap.size, fun k hk => ⟨hS k hk.1, hk.2⟩, A.bound hA, Sep.mono (Sep.bound hl) (fun k hk => ⟨⟨hk.1.1, hk.2⟩, fun h => hk.1.2 h.1⟩)⟩
theorem Sep.step {B : Nat} {w w' : World} : ∀ {l : List Asn} {P : Nat → Prop}, Sep B w P l → (∀ k, P k → k < w.heap.size → w'.heap[k]? = w.heap[k]?) → Sep B w' P l
  | [], _, _, _ => trivial
  | A :: l, P, ⟨S, hS, hA, hl⟩, hm => ⟨S, hS, A.step (fun k hk => hm k (hS k hk)) hA, Sep.step hl (fun k hk => hm k hk.1)⟩
theorem Sep.swap {B : Nat} {w : World} {P : Nat → Prop} {A A' : Asn} {l : List Asn} (h : Sep B w P (A :: A' :: l)) : Sep B w P (A' :: A :: l) := by
  obtain ⟨S, hS, hA, S', hS', hA', hl⟩ := h
  exact ⟨S', fun k hk => (hS' k hk).1, hA', S, fun k hk => ⟨hS k hk, fun h => (hS' k h).2 hk⟩, hA, hl.mono (fun k hk => ⟨⟨hk.1.1, hk.2⟩, hk.1.2⟩)⟩
theorem Sep.perm {B : Nat} {w : World} {l l' : List Asn} (hp : l.Perm l') : ∀ {P : Nat → Prop}, Sep B w P l → Sep B w P l' := by
  induction hp with
  | nil => intro P h; exact h
  | cons A _ ih => intro P h; obtain ⟨S, hS, hA, hl⟩ := h; exact ⟨S, hS, hA, ih hl⟩
  | swap A A' l => intro P h; exact h.swap
  | trans _ _ ih1 ih2 => intro P h; exact ih2 (ih1 h)
theorem Sep.mem {B : Nat} {w : World} {A : Asn} : ∀ {l : List Asn} {P : Nat → Prop}, Sep B w P l → A ∈ l → ∃ S, (∀ k, S k → P k) ∧ A.H w B S
  | _ :: _, P, ⟨S, hS, hA, hl⟩, h => by
    rcases List.mem_cons.1 h with rfl | h
    · exact ⟨S, hS, hA⟩
    · obtain ⟨S', h1, h2⟩ := Sep.mem hl h
      exact ⟨S', fun k hk => (h1 k hk).1, h2⟩

/-- What w0 had is as it was; what a list says is so in w, of blocks that are new since. -/
def SL (w0 w : World) (l : List Asn) : Prop := Below w0.heap.size w0 w ∧ Sep w0.heap.size w (fun _ => True) l
/-- From w to w' nothing but S, and what is new, was written. -/
structure Wrote (w w' : World) (S : Nat → Prop) : Prop where
  os : w'.os = w.os
  tape : w'.tape = w.tape
  output : w'.output = w.output
  size : w.heap.size ≤ w'.heap.size
  block : ∀ k, k < w.heap.size → ¬ S k → w'.heap[k]? = w.heap[k]?

section
variable {w0 w w' w'' : World} {l l' : List Asn} {A A' : Asn} {S S' : Nat → Prop}
theorem Wrote.refl (w : World) (S : Nat → Prop) : Wrote w w S := ⟨rfl, rfl, rfl, Nat.le_refl _, fun _ _ _ => rfl⟩
theorem Wrote.of_below (h : Below w.heap.size w w') (S : Nat → Prop) : Wrote w w' S := ⟨h.os, h.tape, h.output, h.size, fun k hk _ => h.block k hk⟩
theorem Wrote.of_grown {row : Option Nat} (hg : w.grownBy w' row) (hr : ∀ k, row = some k → S k) : Wrote w w' S := ⟨hg.os, hg.tape, hg.output, hg.size, fun k hk hn => hg.block k hk (fun e => hn (hr k e.symm))⟩
theorem Wrote.setCell {p : Addr} (hp : S p.block) (u : Value) : Wrote w (w.setCell p u) S := ⟨rfl, rfl, rfl, by simp [World.setCell], fun k _ hn => Below.heap_setCell w p u k (fun e => hn (e ▸ hp))⟩
theorem Wrote.then_ (h : Wrote w w' S) (k : Wrote w' w'' S') (hs : ∀ j, S' j → S j ∨ w.heap.size ≤ j) : Wrote w w'' S :=
  ⟨k.os.trans h.os, k.tape.trans h.tape, k.output.trans h.output, Nat.le_trans h.size k.size, fun i hi hn => (k.block i (Nat.lt_of_lt_of_le hi h.size) (fun h2 => (hs i h2).elim hn (fun h3 => by omega))).trans (h.block i hi hn)⟩
theorem Wrote.mono (h : Wrote w w' S) (hs : ∀ k, S k → S' k) : Wrote w w' S' := ⟨h.os, h.tape, h.output, h.size, fun k hk hn => h.block k hk (fun h2 => hn (hs k h2))⟩
theorem SL.start (w : World) : SL w w [] := ⟨Below.refl _ _, trivial⟩
theorem SL.below (h : SL w0 w l) : Below w0.heap.size w0 w := h.1
theorem SL.size (h : SL w0 w l) : w0.heap.size ≤ w.heap.size := h.1.size
theorem SL.ext (h : SL w0 w l) (hb : Below w.heap.size w w') : SL w0 w' l := ⟨h.1.trans (hb.mono h.1.size), h.2.bound.step (fun k hk _ => hb.block k hk.2.2) |>.mono (fun _ _ => trivial)⟩
theorem SL.drewN (h : SL w0 w l) (n : Nat) : SL w0 (w.drewN n) l := h.ext (pw_below_drewN (Below.refl _ _) n)
theorem SL.drew (h : SL w0 w l) : SL w0 w.drew l := h.ext (below_drew (Below.refl _ _))
theorem SL.alloc (h : SL w0 w l) (o : Obj) : SL w0 (w.alloc o) l := h.ext (below_alloc (Below.refl _ _) o)
theorem SL.perm (h : SL w0 w l) (hp : l.Perm l') : SL w0 w l' := ⟨h.1, h.2.perm hp⟩
theorem perm_front : ∀ {l : List Asn} {k : Nat}, l[k]? = some A → l.Perm (A :: l.eraseIdx k)
  | B :: l, 0, h => by
    have : B = A := by simpa using h
    subst this
    exact List.Perm.refl _
  | B :: l, k + 1, h => ((perm_front (l := l) (k := k) (by simpa using h)).cons B).trans (List.Perm.swap _ _ _)
/-- Saying k comes first. -/
theorem SL.front (h : SL w0 w l) (k : Nat) (hk : l[k]? = some A) : SL w0 w (A :: l.eraseIdx k) := h.perm (perm_front hk)
theorem SL.drop (h : SL w0 w (A :: l)) : SL w0 w l := by
  obtain ⟨hb, S, _, _, hl⟩ := h
  exact ⟨hb, hl.mono (fun _ _ => trivial)⟩
theorem SL.nth (h : SL w0 w l) (k : Nat) (hk : l[k]? = some A) : ∃ S, A.H w w0.heap.size S ∧ ∀ j, S j → w0.heap.size ≤ j ∧ j < w.heap.size := by
  obtain ⟨S, _, hA⟩ := h.2.mem (List.mem_of_getElem? hk)
  exact ⟨_, A.bound hA, fun j hj => hj.2⟩
/-- What a block is. -/
theorem SL.obj {g : Nat} {o : Obj} (h : SL w0 w l) (k : Nat) (hk : l[k]? = some (objA g o)) : w.heap[g]? = some o := by
  obtain ⟨S, hS, _⟩ := h.nth k hk
  exact hS.2.2
theorem SL.blk {g t : Nat} {cs : Array Value} (h : SL w0 w l) (k : Nat) (hk : l[k]? = some (blkA g cs t)) : w.heap[g]? = some (.cells cs t (0, 0)) := h.obj k hk
theorem SL.base {g : Nat} {o : Obj} (h : SL w0 w l) (k : Nat) (hk : l[k]? = some (objA g o)) : w0.heap.size ≤ g := by
  obtain ⟨S, hS, _⟩ := h.nth k hk
  exact hS.2.1
theorem SL.row {α : Type} {d : Kd α} {e : Nat} {v : Value} {xs : List α} (h : SL w0 w l) (k : Nat) (hk : l[k]? = some (rowA d e v xs)) : d.R e w w0.heap.size (fun _ => True) v xs := by
  obtain ⟨S, hS, _⟩ := h.nth k hk
  exact Kd.R_mono hS (fun _ _ => trivial)
/-- A new saying, of what is new. -/
theorem SL.new (h : SL w0 w l) (hb : Below w.heap.size w w') (hA : A.H w' w.heap.size S) : SL w0 w' (A :: l) := by
  refine ⟨h.1.trans (hb.mono h.1.size), fun k => S k ∧ w.heap.size ≤ k ∧ k < w'.heap.size, fun _ _ => trivial, A.lower h.1.size (A.bound hA), ?_⟩
  exact (h.2.bound.step (fun k hk _ => hb.block k hk.2.2)).mono (fun k hk => ⟨trivial, fun h2 => by have := hk.2.2; have := h2.2.1; omega⟩)
theorem SL.newObj {g : Nat} {o : Obj} (h : SL w0 w l) (hb : Below w.heap.size w w') (hg : w.heap.size ≤ g) (ho : w'.heap[g]? = some o) : SL w0 w' (objA g o :: l) := h.new (S := fun _ => True) hb ⟨trivial, hg, ho⟩
theorem SL.newBlk {g t : Nat} {cs : Array Value} (h : SL w0 w l) (hb : Below w.heap.size w w') (hg : g = w.heap.size) (ho : w'.heap[g]? = some (.cells cs t (0, 0))) : SL w0 w' (blkA g cs t :: l) := h.newObj hb (by omega) ho
theorem SL.allocBlk (h : SL w0 w l) (cs : Array Value) (t : Nat) : SL w0 (w.alloc (.cells cs t (0, 0))) (blkA w.heap.size cs t :: l) := h.newObj (below_alloc (Below.refl _ _) _) (Nat.le_refl _) (blk_new w _)
theorem SL.newRow {α : Type} {d : Kd α} {e : Nat} {v : Value} {xs : List α} (h : SL w0 w l) (hb : Below w.heap.size w w') (hR : d.R e w' w.heap.size (fun _ => True) v xs) : SL w0 w' (rowA d e v xs :: l) := h.new (S := fun _ => True) hb hR
theorem SL.nilRow {α : Type} (h : SL w0 w l) (d : Kd α) (e : Nat) : SL w0 w (rowA d e (.slice none 0 0) [] :: l) := h.new (S := fun _ => True) (Below.refl _ _) (Kd.R_nil _ _ _ _ _)
/-- The first saying turns into others: out of its blocks and new ones. -/
theorem SL.turn {m : List Asn} (h : SL w0 w (A :: l)) (H : ∀ S, (∀ j, S j → w0.heap.size ≤ j ∧ j < w.heap.size) → A.H w w0.heap.size S → Wrote w w' S ∧ Sep w0.heap.size w' (fun j => S j ∨ w.heap.size ≤ j) m) : SL w0 w' (m ++ l) := by
  obtain ⟨hb, S, _, hA, hl⟩ := h
  obtain ⟨hw, hm⟩ := H _ (fun j hj => hj.2) (A.bound hA)
  have hl2 := (hl.bound.step (w' := w') (fun k hk hlt => hw.block k hlt (fun h2 => hk.1.2 h2.1)))
  refine ⟨hb.trans ⟨hw.os, hw.tape, hw.output, hw.size, fun k hk => hw.block k (Nat.lt_of_lt_of_le hk hb.size) (fun h2 => by have := h2.2.1; omega)⟩, ?_⟩
  obtain ⟨T, hT⟩ : ∃ T : Nat → Prop, ∀ k, T k ↔ ((S k ∧ w0.heap.size ≤ k ∧ k < w.heap.size) ∨ w.heap.size ≤ k) := ⟨_, fun _ => Iff.rfl⟩
  have hm : Sep w0.heap.size w' T m := hm.mono (fun k hk => (hT k).2 hk)
  have hl3 : Sep w0.heap.size w' (fun k => ¬ T k) l := hl2.mono (fun k hk h2 => by
    rcases (hT k).1 h2 with h2 | h2
    · exact hk.1.2 h2.1
    · have := hk.2.2; omega)
  clear H hw hl2 hl hA hb
  have key : ∀ (m : List Asn) (P : Nat → Prop), (∀ k, ¬ T k → P k) → Sep w0.heap.size w' (fun k => T k ∧ P k) m → Sep w0.heap.size w' P (m ++ l) := by
    intro m
    induction m with
    | nil => intro P hP _; exact hl3.mono hP
    | cons B m ih =>
      intro P hP hm
      obtain ⟨S, hS, hB, hr⟩ := hm
      refine ⟨S, fun k hk => (hS k hk).2, hB, ih _ (fun k hk => ⟨hP k hk, fun h2 => hk (hS k h2).1⟩) (hr.mono (fun k hk => ⟨hk.1.1, hk.1.2, hk.2⟩))⟩
  exact key m _ (fun _ _ => trivial) (hm.mono (fun k hk => ⟨hk, trivial⟩))
/-- Saying k turns into another one. -/
theorem perm_set : ∀ {l : List Asn} {k : Nat}, l[k]? = some A → (A' :: l.eraseIdx k).Perm (l.set k A')
  | B :: l, 0, _ => List.Perm.refl _
  | B :: l, k + 1, h => (List.Perm.swap _ _ _).trans ((perm_set (l := l) (k := k) (by simpa using h)).cons B)
theorem SL.upd (h : SL w0 w l) (k : Nat) (hk : l[k]? = some A) (H : ∀ S, (∀ j, S j → w0.heap.size ≤ j ∧ j < w.heap.size) → A.H w w0.heap.size S → Wrote w w' S ∧ A'.H w' w0.heap.size (fun j => S j ∨ w.heap.size ≤ j)) : SL w0 w' (l.set k A') := by
  refine SL.perm (l := [A'] ++ l.eraseIdx k) ((h.front k hk).turn (m := [A']) (fun S hS hA => ?_)) (perm_set hk)
  obtain ⟨h1, h2⟩ := H S hS hA
  exact ⟨h1, _, fun _ hj => hj, h2, trivial⟩
/-- A saying is weakened. -/
theorem SL.imp (h : SL w0 w l) (k : Nat) (hk : l[k]? = some A) (H : ∀ S, A.H w w0.heap.size S → A'.H w w0.heap.size S) : SL w0 w (l.set k A') :=
  h.upd k hk (fun S hS hA => ⟨Wrote.refl _ _, A'.mono (fun j hj => .inl hj) (H S hA)⟩)
/-- A cell of a block is written. -/
theorem SL.put {g t : Nat} {cs : Array Value} (h : SL w0 w l) (k : Nat) (hk : l[k]? = some (blkA g cs t)) (i : Nat) (v : Value) : SL w0 (w.setCell ⟨g, i, none⟩ v) (l.set k (blkA g (cs.setIfInBounds i v) t)) :=
  h.upd k hk (fun S hS hA => ⟨Wrote.setCell (p := ⟨g, i, none⟩) hA.1 v, .inl hA.1, hA.2.1, blk_set hA.2.2 i v⟩)
/-- An element of a row of plain ones is written. -/
theorem SL.rowPut {α : Type} {enc : α → Value} {h1 : ∀ x, (enc x).oneCell' = true} {e g n cap : Nat} {xs : List α} (h : SL w0 w l) (k : Nat) (hk : l[k]? = some (rowA (Kd.scalar enc h1) e (.slice (some ⟨g, 0, none⟩) n cap) xs)) (i : Int) (x : α) :
    SL w0 (w.setCell ⟨g, i.toNat, none⟩ (enc x)) (l.set k (rowA (Kd.scalar enc h1) e (.slice (some ⟨g, 0, none⟩) n cap) (xs.set i.toNat x))) :=
  h.upd k hk (fun S hS hA => ⟨Wrote.setCell (p := ⟨g, i.toNat, none⟩) (hA.1 g (by simp [Value.ownBlock])) _, Kd.R_mono (Kd.R_putn hA i x) (fun j hj => .inl hj)⟩)
theorem SL.intPut {kk : IntKind} {e g n cap : Nat} {xs : List Int} (h : SL w0 w l) (k : Nat) (hk : l[k]? = some (rowA (Kd.int kk) e (.slice (some ⟨g, 0, none⟩) n cap) xs)) (i x : Int) :
    SL w0 (w.setCell ⟨g, i.toNat, none⟩ (.int kk x)) (l.set k (rowA (Kd.int kk) e (.slice (some ⟨g, 0, none⟩) n cap) (xs.set i.toNat x))) := h.rowPut k hk i x
/-- A cell of a row of numbers. -/
theorem SL.int {kk : IntKind} {e g n cap : Nat} {xs : List Int} (h : SL w0 w l) (k : Nat) (hk : l[k]? = some (rowA (Kd.int kk) e (.slice (some ⟨g, 0, none⟩) n cap) xs)) (i : Int) (h0 : 0 ≤ i) (hi : i < (xs.length : Int)) :
    w.cell? ⟨g, i.toNat, none⟩ = some (.int kk (rd xs i)) ∧ w.frozen? ⟨g, i.toNat, none⟩ = false := by
  have hR := h.row k hk
  have := (Kd.R_reads' hR).1
  exact Kd.R_celln 0 hR i h0 (by omega)
theorem SL.form {α : Type} {d : Kd α} {e : Nat} {v : Value} {xs : List α} (h : SL w0 w l) (k : Nat) (hk : l[k]? = some (rowA d e v xs)) (hp : 0 < xs.length) : ∃ g cap, v = .slice (some ⟨g, 0, none⟩) xs.length cap := by
  obtain ⟨g, cap, e, _⟩ := Kd.R_form (h.row k hk) hp
  exact ⟨g, cap, e⟩
theorem SL.slice {α : Type} {d : Kd α} {e : Nat} {v : Value} {xs : List α} (h : SL w0 w l) (k : Nat) (hk : l[k]? = some (rowA d e v xs)) : ∃ A c, v = .slice A xs.length c := Kd.R_slice (h.row k hk)
theorem SL.C {α : Type} {d : Kd α} {e n c : Nat} {A : Option Addr} {xs : List α} (h : SL w0 w l) (k : Nat) (hk : l[k]? = some (rowA d e (.slice A n c) xs)) : d.C w A xs.length xs := (Kd.R_reads' (h.row k hk)).2.2
/-- What was made by a call that keeps all that was. -/
theorem SL.call (h : SL w0 w l) (hb : Below w.heap.size w w') : SL w0 w' l := h.ext hb
end

section
theorem SL.c0 {w0 w : World} {l : List Asn} {g t : Nat} {v0 : Value} {r : List Value} (h : SL w0 w l) (k : Nat) (hk : l[k]? = some (blkA g (List.toArray (v0 :: r)) t)) : w.cell? ⟨g, 0, none⟩ = some v0 ∧ w.frozen? ⟨g, 0, none⟩ = false ∧ g < w.heap.size := ⟨(blk_cell (h.blk k hk) 0).trans rfl, blk_frozen (h.blk k hk) 0, blk_lt (h.blk k hk)⟩
theorem SL.c1 {w0 w : World} {l : List Asn} {g t : Nat} {v0 v1 : Value} {r : List Value} (h : SL w0 w l) (k : Nat) (hk : l[k]? = some (blkA g (List.toArray (v0 :: v1 :: r)) t)) : w.cell? ⟨g, 1, none⟩ = some v1 ∧ w.frozen? ⟨g, 1, none⟩ = false ∧ g < w.heap.size := ⟨(blk_cell (h.blk k hk) 1).trans rfl, blk_frozen (h.blk k hk) 1, blk_lt (h.blk k hk)⟩
theorem SL.c2 {w0 w : World} {l : List Asn} {g t : Nat} {v0 v1 v2 : Value} {r : List Value} (h : SL w0 w l) (k : Nat) (hk : l[k]? = some (blkA g (List.toArray (v0 :: v1 :: v2 :: r)) t)) : w.cell? ⟨g, 2, none⟩ = some v2 ∧ w.frozen? ⟨g, 2, none⟩ = false ∧ g < w.heap.size := ⟨(blk_cell (h.blk k hk) 2).trans rfl, blk_frozen (h.blk k hk) 2, blk_lt (h.blk k hk)⟩
theorem SL.c3 {w0 w : World} {l : List Asn} {g t : Nat} {v0 v1 v2 v3 : Value} {r : List Value} (h : SL w0 w l) (k : Nat) (hk : l[k]? = some (blkA g (List.toArray (v0 :: v1 :: v2 :: v3 :: r)) t)) : w.cell? ⟨g, 3, none⟩ = some v3 ∧ w.frozen? ⟨g, 3, none⟩ = false ∧ g < w.heap.size := ⟨(blk_cell (h.blk k hk) 3).trans rfl, blk_frozen (h.blk k hk) 3, blk_lt (h.blk k hk)⟩
theorem SL.c4 {w0 w : World} {l : List Asn} {g t : Nat} {v0 v1 v2 v3 v4 : Value} {r : List Value} (h : SL w0 w l) (k : Nat) (hk : l[k]? = some (blkA g (List.toArray (v0 :: v1 :: v2 :: v3 :: v4 :: r)) t)) : w.cell? ⟨g, 4, none⟩ = some v4 ∧ w.frozen? ⟨g, 4, none⟩ = false ∧ g < w.heap.size := ⟨(blk_cell (h.blk k hk) 4).trans rfl, blk_frozen (h.blk k hk) 4, blk_lt (h.blk k hk)⟩
theorem SL.c5 {w0 w : World} {l : List Asn} {g t : Nat} {v0 v1 v2 v3 v4 v5 : Value} {r : List Value} (h : SL w0 w l) (k : Nat) (hk : l[k]? = some (blkA g (List.toArray (v0 :: v1 :: v2 :: v3 :: v4 :: v5 :: r)) t)) : w.cell? ⟨g, 5, none⟩ = some v5 ∧ w.frozen? ⟨g, 5, none⟩ = false ∧ g < w.heap.size := ⟨(blk_cell (h.blk k hk) 5).trans rfl, blk_frozen (h.blk k hk) 5, blk_lt (h.blk k hk)⟩
theorem SL.c6 {w0 w : World} {l : List Asn} {g t : Nat} {v0 v1 v2 v3 v4 v5 v6 : Value} {r : List Value} (h : SL w0 w l) (k : Nat) (hk : l[k]? = some (blkA g (List.toArray (v0 :: v1 :: v2 :: v3 :: v4 :: v5 :: v6 :: r)) t)) : w.cell? ⟨g, 6, none⟩ = some v6 ∧ w.frozen? ⟨g, 6, none⟩ = false ∧ g < w.heap.size := ⟨(blk_cell (h.blk k hk) 6).trans rfl, blk_frozen (h.blk k hk) 6, blk_lt (h.blk k hk)⟩
theorem SL.c7 {w0 w : World} {l : List Asn} {g t : Nat} {v0 v1 v2 v3 v4 v5 v6 v7 : Value} {r : List Value} (h : SL w0 w l) (k : Nat) (hk : l[k]? = some (blkA g (List.toArray (v0 :: v1 :: v2 :: v3 :: v4 :: v5 :: v6 :: v7 :: r)) t)) : w.cell? ⟨g, 7, none⟩ = some v7 ∧ w.frozen? ⟨g, 7, none⟩ = false ∧ g < w.heap.size := ⟨(blk_cell (h.blk k hk) 7).trans rfl, blk_frozen (h.blk k hk) 7, blk_lt (h.blk k hk)⟩
theorem SL.c8 {w0 w : World} {l : List Asn} {g t : Nat} {v0 v1 v2 v3 v4 v5 v6 v7 v8 : Value} {r : List Value} (h : SL w0 w l) (k : Nat) (hk : l[k]? = some (blkA g (List.toArray (v0 :: v1 :: v2 :: v3 :: v4 :: v5 :: v6 :: v7 :: v8 :: r)) t)) : w.cell? ⟨g, 8, none⟩ = some v8 ∧ w.frozen? ⟨g, 8, none⟩ = false ∧ g < w.heap.size := ⟨(blk_cell (h.blk k hk) 8).trans rfl, blk_frozen (h.blk k hk) 8, blk_lt (h.blk k hk)⟩
theorem Wrote.of_kept {w0 w w' : World} {B B' : Nat} {S : Nat → Prop} (hb : Below B w0 w) (hb' : Below B' w0 w') (hk : Kept w w' S) : Wrote w w' S := ⟨hb'.os.trans hb.os.symm, hb'.tape.trans hb.tape.symm, hb'.output.trans hb.output.symm, hk.1, hk.2⟩
theorem SL.kept {w0 w w' : World} {S : Nat → Prop} {B : Nat} {l : List Asn} {A A' : Asn} (h : SL w0 w l) (k : Nat) (hk : l[k]? = some A) (hb' : Below B w0 w') (hK : Kept w w' S) (hS : ∀ T, A.H w w0.heap.size T → ∀ j, S j → T j) (hA : ∀ T, A.H w w0.heap.size T → A'.H w' w0.heap.size (fun j => T j ∨ w.heap.size ≤ j)) : SL w0 w' (l.set k A') :=
  h.upd k hk (fun T hT hA0 => ⟨(Wrote.of_kept h.1 hb' hK).mono (hS T hA0), hA T hA0⟩)
/-- One cell of an element of a row of plain ones is written. -/
theorem row_set {α : Type} {d : Kd α} (enc : α → List Value) (hk : ∀ x, (enc x).length = d.sz) {e g n cap B : Nat} {w : World} {ok : Nat → Prop} (hopen : ∀ {ok : Nat → Prop} {x cs}, d.M w B ok x cs → cs = enc x) (hmove : ∀ {w1 : World} {ok : Nat → Prop} {x cs}, d.M w B ok x cs → d.M w1 B ok x cs) (hmk : ∀ (w : World) (ok : Nat → Prop) (x : α), d.M w B ok x (enc x)) {xs : List α} (h : d.R e w B ok (.slice (some ⟨g, 0, none⟩) n cap) xs)
    (i j : Nat) (x' : α) (u : Value) (hj : j < d.sz) (hx : ∀ x, xs[i]? = some x → enc x' = (enc x).set j u) (hi : i < xs.length) : d.R e (w.setCell ⟨g, i * d.sz + j, none⟩ u) B ok (.slice (some ⟨g, 0, none⟩) n cap) (xs.set i x') := by
  obtain ⟨h0, inner, ⟨hl, ho⟩, hr⟩ := h
  rcases ho with ⟨ho, _⟩ | ⟨g', cap', cur, hv, hg, hh, h1, h2, h3, h4⟩
  · cases ho
  · have e1 : g = g' := by injection hv with a; injection a with a; injection a
    have e2 : n = xs.length := by injection hv
    have e3 : cap = cap' := by injection hv
    subst e1 e2 e3
    have hb : i * d.sz + d.sz ≤ xs.length * d.sz := by have := Nat.mul_le_mul_right d.sz (show i + 1 ≤ xs.length from hi); rwa [Nat.add_mul, Nat.one_mul] at this
    have hlen : (xs.set i x').length = xs.length := List.length_set
    refine ⟨h0, inner.set (i * d.sz + j) u, ⟨by rw [List.length_set, hlen]; exact hl, .inr ⟨g, cap, cur.setIfInBounds (i * d.sz + j) u, by rw [hlen], hg, blk_set hh _ _, by rw [hlen]; exact h1, h2, by rw [Array.size_setIfInBounds]; exact h3, ?_⟩⟩, by rw [List.length_set, hlen]; exact hl, fun q p hq => ?_⟩
    · rw [hlen, Array.toList_setIfInBounds, List.take_set, h4]
    · have hlt := (List.getElem?_eq_some_iff.1 hq).1
      rw [hlen] at hlt
      rw [List.getElem?_set] at hq
      by_cases hqi : i = q
      · subst hqi
        rw [if_pos rfl, if_pos hi] at hq
        have hp : x' = p := Option.some.inj hq
        subst hp
        have h5 := hopen (hr.2 i xs[i] (List.getElem?_eq_getElem hi))
        have h6 : ((inner.set (i * d.sz + j) u).drop (i * d.sz)).take d.sz = ((inner.drop (i * d.sz)).take d.sz).set j u := by
          rw [List.drop_set, if_neg (by omega), show i * d.sz + j - i * d.sz = j from by omega, List.take_set]
        rw [h6, h5, ← hx xs[i] (List.getElem?_eq_getElem hi)]
        exact hmk _ _ _
      · rw [if_neg hqi] at hq
        have h6 : ((inner.set (i * d.sz + j) u).drop (q * d.sz)).take d.sz = (inner.drop (q * d.sz)).take d.sz := by
          rcases Nat.lt_or_gt_of_ne hqi with hlt2 | hgt
          · have hb2 : i * d.sz + d.sz ≤ q * d.sz := by have := Nat.mul_le_mul_right d.sz (show i + 1 ≤ q from hlt2); rwa [Nat.add_mul, Nat.one_mul] at this
            rw [List.drop_set, if_pos (by omega)]
          · have hb2 : q * d.sz + d.sz ≤ i * d.sz := by have := Nat.mul_le_mul_right d.sz (show q + 1 ≤ i from hgt); rwa [Nat.add_mul, Nat.one_mul] at this
            rw [List.drop_set, if_neg (by omega), List.take_set, List.set_eq_of_length_le (by rw [List.length_take]; omega)]
        rw [h6]
        exact hmove (hr.2 q p hq)
theorem SL.rowSet {α : Type} {d : Kd α} (enc : α → List Value) (hk : ∀ x, (enc x).length = d.sz) {e g n cap : Nat} {w0 w : World} {l : List Asn} (hopen : ∀ {w : World} {ok : Nat → Prop} {x cs}, d.M w w0.heap.size ok x cs → cs = enc x) (hmk : ∀ (w : World) (ok : Nat → Prop) (x : α), d.M w w0.heap.size ok x (enc x)) {xs : List α} (h : SL w0 w l) (k : Nat) (hk2 : l[k]? = some (rowA d e (.slice (some ⟨g, 0, none⟩) n cap) xs))
    (i j : Nat) (x' : α) (u : Value) (hj : j < d.sz) (hx : ∀ x, xs[i]? = some x → enc x' = (enc x).set j u) (hi : i < xs.length) : SL w0 (w.setCell ⟨g, i * d.sz + j, none⟩ u) (l.set k (rowA d e (.slice (some ⟨g, 0, none⟩) n cap) (xs.set i x'))) :=
  h.upd k hk2 (fun S hS hA => ⟨Wrote.setCell (p := ⟨g, i * d.sz + j, none⟩) (hA.1 g (by simp [Value.ownBlock])) _, Kd.R_mono (row_set enc hk (fun h => hopen h) (fun {w1 ok x cs} h => by rw [hopen h]; exact hmk _ _ _) hmk hA i j x' u hj hx hi) (fun j hj => .inl hj)⟩)
/-- Two sayings of blocks apart. -/
def starA (A A' : Asn) : Asn where
  H := fun w B S => ∃ S1 S2 : Nat → Prop, (∀ k, S1 k → S k) ∧ (∀ k, S2 k → S k) ∧ (∀ k, S1 k → ¬ S2 k) ∧ A.H w B S1 ∧ A'.H w B S2
  step := fun hm ⟨S1, S2, h1, h2, h3, h4, h5⟩ => ⟨S1, S2, h1, h2, h3, A.step (fun k hk => hm k (h1 k hk)) h4, A'.step (fun k hk => hm k (h2 k hk)) h5⟩
  mono := fun hs ⟨S1, S2, h1, h2, h3, h4, h5⟩ => ⟨S1, S2, fun k hk => hs k (h1 k hk), fun k hk => hs k (h2 k hk), h3, h4, h5⟩
  bound := fun ⟨S1, S2, h1, h2, h3, h4, h5⟩ => ⟨_, _, fun k hk => ⟨h1 k hk.1, hk.2⟩, fun k hk => ⟨h2 k hk.1, hk.2⟩, fun k hk hk' => h3 k hk.1 hk'.1, A.bound h4, A'.bound h5⟩
  lower := fun hb ⟨S1, S2, h1, h2, h3, h4, h5⟩ => ⟨S1, S2, h1, h2, h3, A.lower hb h4, A'.lower hb h5⟩
theorem SL.join {w0 w : World} {A A' : Asn} {l : List Asn} (h : SL w0 w (A :: A' :: l)) : SL w0 w (starA A A' :: l) := by
  obtain ⟨hb, S, _, hA, S2, hS2, hA', hl⟩ := h
  exact ⟨hb, fun k => S k ∨ S2 k, fun _ _ => trivial, ⟨S, S2, fun k hk => .inl hk, fun k hk => .inr hk, fun k hk hk' => (hS2 k hk').2 hk, hA, hA'⟩, hl.mono (fun k hk => ⟨trivial, fun h2 => h2.elim hk.1.2 hk.2⟩)⟩
theorem SL.part {w0 w : World} {A A' : Asn} {l : List Asn} (h : SL w0 w (starA A A' :: l)) : SL w0 w (A :: A' :: l) := by
  obtain ⟨hb, S, _, ⟨S1, S2, h1, h2, h3, hA, hA'⟩, hl⟩ := h
  exact ⟨hb, S1, fun _ _ => trivial, hA, S2, fun k hk => ⟨trivial, fun hk' => h3 k hk' hk⟩, hA', hl.mono (fun k hk => ⟨⟨trivial, fun h4 => hk.2 (h1 k h4)⟩, fun h4 => hk.2 (h2 k h4)⟩)⟩
variable {P : Program} {ops : Array Oper} {rest : List Oper} {o : Oper} {a : Act} {Q : Exit → Act → World → Prop}
/-- append of one element whose rows are those of the saying behind the row's. -/
theorem append_row {α : Type} (d : Kd α) {w0 W : World} {l : List Asn} {v : Value} {xs : List α} {p : α} {cs : List Value} (hgd : o.guard = none) (s x : Operand) (t e : TypeId) (z : Value) (bytes : Nat)
    (ho : o.op = .call { callee := .builtin .append, args := #[s, x], argTypes := #[t, t] })
    (ht : P.underlying t = some (.slice e)) (hinfo : (P.info? e).map (fun i => (i.zero, i.size, i.bytes)) = some (some z, d.sz, bytes)) (hz : z.cells.size = d.sz) (hs0 : 0 < d.sz) (hb0 : 0 < bytes)
    (hSL : SL w0 W (rowA d e v xs :: valA d p cs :: l)) (hs : a.eval s = v) (hx : a.eval x = .slice (some ⟨W.heap.size, 0, none⟩) 1 1) (hl : (xs.length + 1) * bytes ≤ 140737488355328)
    (h : ∀ v1 w1, SL w0 w1 (rowA d e v1 (xs ++ [p]) :: l) → wpList P ops Q rest (a.put o.dst v1) w1) :
    wpList P ops Q (o :: rest) a (W.alloc (.cells cs.toArray e)) := by
  obtain ⟨hb, S, _, hA, S2, hS2, hM, hr⟩ := hSL
  have hA := Asn.bound (rowA d e v xs) hA
  have hM := Asn.bound (valA d p cs) hM
  have hr := hr.bound
  refine Kd.R_append d w0.heap.size hgd s x t e z bytes ho ht hinfo hz hs0 hb0 v xs p cs (fun k => (S k ∨ S2 k) ∧ w0.heap.size ≤ k ∧ k < W.heap.size ∨ W.heap.size ≤ k) _ hs hx hM (fun k hk => ⟨.inl ⟨.inr hk.1, hk.2⟩, fun e => (hS2 k hk.1).2 (hA.1 k e.symm).1⟩) (fun k hk => .inr hk) (Kd.R_mono hA (fun k hk => .inl ⟨.inl hk.1, hk.2⟩)) hb hb.size hl ?_
  intro v1 w1 hR hb1 hg hat
  exact h v1 w1 ⟨hb1, _, fun _ _ => trivial, hR, (hr.step (fun k hk hlt => hg.block k hlt (fun e => hk.1.1.2 (hA.1 k e.symm).1))).mono (fun k hk => ⟨trivial, fun h2 => h2.elim (fun h3 => h3.1.elim hk.1.1.2 hk.1.2) (fun h3 => by have := hk.2.2; omega)⟩)⟩
/-- make. -/
theorem make_row {α : Type} (d : Kd α) {w0 W : World} {l : List Asn} (hgd : o.guard = none) {N : Tmp} (hd : o.dst = some N) (t e : TypeId) (x y : Operand) (ho : o.op = .makeSlice t x y) (n : Int) (hx : a.eval x = .int .i64 n) (hy : a.eval y = .int .i64 n)
    (ht : P.underlying t = some (.slice e)) (z : Value) (bytes : Nat) (hinfo : (P.info? e).map (fun i => (i.zero, i.size, i.bytes)) = some (some z, d.sz, bytes)) (hz : z.cells.size = d.sz) (hs0 : 0 < d.sz) (hb0 : 0 < bytes)
    (z0 : α) (hzero : ∀ B S, d.M W B S z0 z.cells.toList) (h0 : 0 ≤ n) (hl : n.toNat * bytes ≤ 281474976710656) (hSL : SL w0 W l)
    (h : ∀ v1 w1, SL w0 w1 (rowA d e v1 (List.replicate n.toNat z0) :: l) → wpList P ops Q rest (a.put o.dst v1) w1) : wpList P ops Q (o :: rest) a W :=
  Kd.R_make d (w0 := W) W.heap.size e hgd hd t x y ho n hx hy ht z bytes hinfo hz hs0 hb0 z0 (ok := fun _ => True) (okp := fun _ => True) (hzero _ _) (fun _ h => h) trivial h0 hl (Below.refl _ _) (Nat.le_refl _) (fun v1 w1 hR hb _ _ => h v1 w1 (hSL.newRow hb hR))
/-- .. in a region of open order. -/
theorem append_row_step {α : Type} {a : Act} {Kc : Act → World → Prop} (d : Kd α) {w0 W : World} {l : List Asn} {v : Value} {xs : List α} {p : α} {cs : List Value} (hgd : o.guard = none) (s x : Operand) (t e : TypeId) (z : Value) (bytes : Nat)
    (ho : o.op = .call { callee := .builtin .append, args := #[s, x], argTypes := #[t, t] })
    (ht : P.underlying t = some (.slice e)) (hinfo : (P.info? e).map (fun i => (i.zero, i.size, i.bytes)) = some (some z, d.sz, bytes)) (hz : z.cells.size = d.sz) (hs0 : 0 < d.sz) (hb0 : 0 < bytes)
    (hSL : SL w0 W (rowA d e v xs :: valA d p cs :: l)) (hs : a.eval s = v) (hx : a.eval x = .slice (some ⟨W.heap.size, 0, none⟩) 1 1) (hl : (xs.length + 1) * bytes ≤ 140737488355328)
    (h : ∀ v1 w1, SL w0 w1 (rowA d e v1 (xs ++ [p]) :: l) → Kc (a.put o.dst v1) w1) :
    if Region.wanted o (yielded ops a.tmps) = true then Oper.wp P o a (W.alloc (.cells cs.toArray e)) Kc Q else Kc (a.put o.dst undef) (W.alloc (.cells cs.toArray e)) := by
  obtain ⟨hb, S, _, hA, S2, hS2, hM, hr⟩ := hSL
  have hA := Asn.bound (rowA d e v xs) hA
  have hM := Asn.bound (valA d p cs) hM
  have hr := hr.bound
  refine Kd.R_append_step d w0.heap.size (by simp [Region.wanted, hgd]) s x t e z bytes ho ht hinfo hz hs0 hb0 v xs p cs (fun k => (S k ∨ S2 k) ∧ w0.heap.size ≤ k ∧ k < W.heap.size ∨ W.heap.size ≤ k) _ hs hx hM (fun k hk => ⟨.inl ⟨.inr hk.1, hk.2⟩, fun e => (hS2 k hk.1).2 (hA.1 k e.symm).1⟩) (fun k hk => .inr hk) (Kd.R_mono hA (fun k hk => .inl ⟨.inl hk.1, hk.2⟩)) hb hb.size hl ?_
  intro v1 w1 hR hb1 hg hat
  exact h v1 w1 ⟨hb1, _, fun _ _ => trivial, hR, (hr.step (fun k hk hlt => hg.block k hlt (fun e => hk.1.1.2 (hA.1 k e.symm).1))).mono (fun k hk => ⟨trivial, fun h2 => h2.elim (fun h3 => h3.1.elim hk.1.1.2 hk.1.2) (fun h3 => by have := hk.2.2; omega)⟩)⟩
/-- .. the draw told outside. -/
theorem append_row_step_drew {α : Type} {a : Act} {Kc : Act → World → Prop} (d : Kd α) {w0 W : World} {l : List Asn} {v : Value} {xs : List α} {p : α} {cs : List Value} (hgd : o.guard = none) (s x : Operand) (t e : TypeId) (z : Value) (bytes : Nat)
    (ho : o.op = .call { callee := .builtin .append, args := #[s, x], argTypes := #[t, t] })
    (ht : P.underlying t = some (.slice e)) (hinfo : (P.info? e).map (fun i => (i.zero, i.size, i.bytes)) = some (some z, d.sz, bytes)) (hz : z.cells.size = d.sz) (hs0 : 0 < d.sz) (hb0 : 0 < bytes)
    (hSL : SL w0 W (rowA d e v xs :: valA d p cs :: l)) (hs : a.eval s = v) (hx : a.eval x = .slice (some ⟨W.heap.size, 0, none⟩) 1 1) (hl : (xs.length + 1) * bytes ≤ 140737488355328)
    (h : ∀ v1 w1, SL w0 w1 (rowA d e v1 (xs ++ [p]) :: l) → Kc (a.put o.dst v1) w1) :
    if Region.wanted o (yielded ops a.tmps) = true then Oper.wp P o a (W.alloc (.cells cs.toArray e)).drew Kc Q else Kc (a.put o.dst undef) (W.alloc (.cells cs.toArray e)).drew :=
  append_row_step (W := W.drew) d hgd s x t e z bytes ho ht hinfo hz hs0 hb0 hSL.drew hs hx hl h
/-- The first saying's own blocks: for a contract that speaks of these. -/
theorem SL.open1 {w0 w : World} {l : List Asn} {A : Asn} (h : SL w0 w (A :: l)) : ∃ S, A.H w w0.heap.size S ∧ (∀ j, S j → w0.heap.size ≤ j ∧ j < w.heap.size) ∧ ∀ w' A', Below w0.heap.size w0 w' → Kept w w' S → A'.H w' w0.heap.size (fun j => S j ∨ w.heap.size ≤ j) → SL w0 w' (A' :: l) := by
  obtain ⟨hb, S, hS, hA, hl⟩ := h
  refine ⟨_, A.bound hA, fun j hj => hj.2, fun w' A' hb' hk hA' => ⟨hb', _, fun _ _ => trivial, hA', (hl.bound.step (fun k hk1 hlt => hk.2 k hlt (fun h2 => hk1.1.2 h2.1))).mono (fun k hk1 => ⟨trivial, fun h2 => h2.elim (fun h3 => hk1.1.2 h3.1) (fun h3 => by have := hk1.2.2; omega)⟩)⟩⟩
/-- append of a whole row to a row, in a region of open order. -/
theorem append_rows_step {α : Type} {a : Act} {Kc : Act → World → Prop} (d : Kd α) {w0 W : World} {l : List Asn} {v : Value} {xs ys : List α} {A : Option Addr} {m c : Nat} (hgd : o.guard = none) (s x : Operand) (t e : TypeId) (z : Value) (bytes : Nat)
    (ho : o.op = .call { callee := .builtin .append, args := #[s, x], argTypes := #[t, t] })
    (ht : P.underlying t = some (.slice e)) (hinfo : (P.info? e).map (fun i => (i.zero, i.size, i.bytes)) = some (some z, d.sz, bytes)) (hz : z.cells.size = d.sz) (hs0 : 0 < d.sz) (hb0 : 0 < bytes)
    (hSL : SL w0 W (rowA d e v xs :: rowA d e (.slice A m c) ys :: l)) (hs : a.eval s = v) (hx : a.eval x = .slice A m c) (hl : (xs.length + m) * bytes ≤ 140737488355328)
    (h : ∀ v1 w1, SL w0 w1 (rowA d e v1 (xs ++ ys) :: l) → Kc (a.put o.dst v1) w1) :
    if Region.wanted o (yielded ops a.tmps) = true then Oper.wp P o a W Kc Q else Kc (a.put o.dst undef) W := by
  obtain ⟨hb, S, _, hA, S2, hS2, hM, hr⟩ := hSL
  have hA := Asn.bound (rowA d e v xs) hA
  have hM := Asn.bound (rowA d e (.slice A m c) ys) hM
  have hr := hr.bound
  obtain ⟨A', c', hv, _, hR⟩ := OwnRow.reads hM.2
  have hm : ys.length = m := by injection hv with _ e2 _; exact e2.symm
  have hAA : A' = A := by injection hv with e1 _ _; exact e1.symm
  subst hAA
  rw [hm] at hR
  refine Kd.R_append_rows_step d w0.heap.size (by simp [Region.wanted, hgd]) s x t e z bytes ho ht hinfo hz hs0 hb0 v xs ys A' m c (fun k => (S k ∨ S2 k) ∧ w0.heap.size ≤ k ∧ k < W.heap.size ∨ W.heap.size ≤ k) _ hs hx (Kd.R_mono hA (fun k hk => .inl ⟨.inl hk.1, hk.2⟩)) hR (fun _ _ h => h) (fun k hk => ⟨.inl ⟨.inr hk.1.1, hk.1.2⟩, fun e => (hS2 k hk.1.1).2 (hA.1 k e.symm).1⟩) (fun k hk => .inr hk) hb hb.size hl ?_
  intro v1 w1 hR hb1 hg hat
  exact h v1 w1 ⟨hb1, _, fun _ _ => trivial, hR, (hr.step (fun k hk hlt => hg.block k hlt (fun e => hk.1.1.2 (hA.1 k e.symm).1))).mono (fun k hk => ⟨trivial, fun h2 => h2.elim (fun h3 => h3.1.elim hk.1.1.2 hk.1.2) (fun h3 => by have := hk.2.2; omega)⟩)⟩
/-- append of a whole row to a row. -/
theorem append_rows {α : Type} (d : Kd α) {w0 W : World} {l : List Asn} {v : Value} {xs ys : List α} {A : Option Addr} {m c : Nat} (hgd : o.guard = none) (s x : Operand) (t e : TypeId) (z : Value) (bytes : Nat)
    (ho : o.op = .call { callee := .builtin .append, args := #[s, x], argTypes := #[t, t] })
    (ht : P.underlying t = some (.slice e)) (hinfo : (P.info? e).map (fun i => (i.zero, i.size, i.bytes)) = some (some z, d.sz, bytes)) (hz : z.cells.size = d.sz) (hs0 : 0 < d.sz) (hb0 : 0 < bytes)
    (hSL : SL w0 W (rowA d e v xs :: rowA d e (.slice A m c) ys :: l)) (hs : a.eval s = v) (hx : a.eval x = .slice A m c) (hl : (xs.length + m) * bytes ≤ 140737488355328)
    (h : ∀ v1 w1, SL w0 w1 (rowA d e v1 (xs ++ ys) :: l) → wpList P ops Q rest (a.put o.dst v1) w1) :
    wpList P ops Q (o :: rest) a W := by
  obtain ⟨hb, S, _, hA, S2, hS2, hM, hr⟩ := hSL
  have hA := Asn.bound (rowA d e v xs) hA
  have hM := Asn.bound (rowA d e (.slice A m c) ys) hM
  have hr := hr.bound
  obtain ⟨A', c', hv, _, hR⟩ := OwnRow.reads hM.2
  have hm : ys.length = m := by injection hv with _ e2 _; exact e2.symm
  have hAA : A' = A := by injection hv with e1 _ _; exact e1.symm
  subst hAA
  rw [hm] at hR
  refine Kd.R_append_rows d w0.heap.size hgd s x t e z bytes ho ht hinfo hz hs0 hb0 v xs ys A' m c (fun k => (S k ∨ S2 k) ∧ w0.heap.size ≤ k ∧ k < W.heap.size ∨ W.heap.size ≤ k) _ hs hx (Kd.R_mono hA (fun k hk => .inl ⟨.inl hk.1, hk.2⟩)) hR (fun _ _ h => h) (fun k hk => ⟨.inl ⟨.inr hk.1.1, hk.1.2⟩, fun e => (hS2 k hk.1.1).2 (hA.1 k e.symm).1⟩) (fun k hk => .inr hk) hb hb.size hl ?_
  intro v1 w1 hR hb1 hg hat
  exact h v1 w1 ⟨hb1, _, fun _ _ => trivial, hR, (hr.step (fun k hk hlt => hg.block k hlt (fun e => hk.1.1.2 (hA.1 k e.symm).1))).mono (fun k hk => ⟨trivial, fun h2 => h2.elim (fun h3 => h3.1.elim hk.1.1.2 hk.1.2) (fun h3 => by have := hk.2.2; omega)⟩)⟩
/-- A value without rows inside. -/
theorem SL.plain {α : Type} {d : Kd α} {w0 w : World} {l : List Asn} (h : SL w0 w l) (p : α) (cs : List Value) (hM : ∀ B S, d.M w B S p cs) : SL w0 w (valA d p cs :: l) := h.new (S := fun _ => True) (Below.refl _ _) (hM _ _)
theorem SL.swap {w0 w : World} {A A' : Asn} {l : List Asn} (h : SL w0 w (A :: A' :: l)) : SL w0 w (A' :: A :: l) := ⟨h.1, h.2.swap⟩
end
end Go.Proofs.Ytpaenlplpaabjaa.Sep
