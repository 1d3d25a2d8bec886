/- What the machine does at a call of the sums of package flet: the four numbers that the sums are. No conditions. -/
import Derived.Test.YthnchojddoefiaaProg
import Derived.Below
import Derived.Deep.Draws
import Derived.OwnWalk
import Derived.Tactics
import Derived.WalkKit
import Derived.KernelRfl
import Derived.RowKit3
import Derived.WideLaws
import Derived.Laws.BitsLemmas
import Derived.RowKit
import Derived.Handy
import Derived.Deep.LoopGhost
import Derived.Deep.QuietTactic
import Derived.BigQuiet
import Derived.StillTailTactics
import Derived.Deep.DeepCutAuto
import Derived.Test.YthnchojddoefiaaWWords
set_option linter.unusedVariables false
set_option linter.unusedSimpArgs false
namespace Go.Proofs.Ythnchojddoefiaa.Flet
open Go.RowKit Go.Proofs.YthnchojddoefiaaW.PrintWords

abbrev four (a b c d : Int) : Value := .agg #[.int .i64 a, .int .i64 b, .int .i64 c, .int .i64 d]


set_option maxHeartbeats 400000 in
theorem of_calls (a b c d : Int) (w : World) : Calls Try.prog 118 #[four a b c d] w fun e w' => e = .returned (four a b c d) ∧ Below w.heap.size w w' := by
  go_enter Try.func118, Try.ntmps118
  go_wp2
  exact bodyPost_ret (v := four a b c d) (by simp [results, Try.results118, go_sem]) rfl ⟨rfl, ((Below.refl _ _).alloc (Nat.le_refl _) _).alloc (by simp) _⟩
set_option maxHeartbeats 400000 in
theorem sum_calls (a b c d : Int) (w : World) : Calls Try.prog 120 #[four a b c d] w fun e w' => e = .returned (four a b c d) ∧ Below w.heap.size w w' := by
  go_enter Try.func120, Try.ntmps120
  go_wp2
  exact bodyPost_ret (v := four a b c d) (by simp [results, Try.results120, go_sem]) rfl ⟨rfl, ((Below.refl _ _).alloc (Nat.le_refl _) _).alloc (by simp) _⟩
set_option maxHeartbeats 1000000 in
theorem word_calls (a b c d x : Int) (w : World) : Calls Try.prog 119 #[four a b c d, .int .i64 x] w fun e w' => e = .returned (four (wrap64 (a + x)) (wrap64 (b + wrap64 (a + x))) (wrap64 (c + wrap64 (b + wrap64 (a + x)))) (wrap64 (d + wrap64 (c + wrap64 (b + wrap64 (a + x)))))) ∧ Below w.heap.size w w' := by
  go_enter Try.func119, Try.ntmps119
  go_wp2
  go_rounds 5
  refine bodyPost_ret (v := four (wrap64 (a + x)) (wrap64 (b + wrap64 (a + x))) (wrap64 (c + wrap64 (b + wrap64 (a + x)))) (wrap64 (d + wrap64 (c + wrap64 (b + wrap64 (a + x)))))) ?_ rfl ⟨rfl, ?_⟩
  · simp [results, Try.results119, go_sem]
  · exact ((Below.refl _ _).alloc (Nat.le_refl _) _).alloc (by simp) _

/-- The sums of more words: four bytes a word. -/
def sumL (a b c d : Int) : List Int → Int × Int × Int × Int
  | x0 :: x1 :: x2 :: x3 :: r => sumL (wrap64 (a + (x0 + 256 * x1 + 65536 * x2 + 16777216 * x3))) (wrap64 (b + wrap64 (a + (x0 + 256 * x1 + 65536 * x2 + 16777216 * x3)))) (wrap64 (c + wrap64 (b + wrap64 (a + (x0 + 256 * x1 + 65536 * x2 + 16777216 * x3))))) (wrap64 (d + wrap64 (c + wrap64 (b + wrap64 (a + (x0 + 256 * x1 + 65536 * x2 + 16777216 * x3)))))) r
  | _ => (a, b, c, d)
theorem or_swap (x y : Int) : Go.bits .or .i64 x y = Go.bits .or .i64 y x := by
  show IntKind.i64.wrap ((BitVec.ofInt 64 x ||| BitVec.ofInt 64 y).toNat : Int) = IntKind.i64.wrap ((BitVec.ofInt 64 y ||| BitVec.ofInt 64 x).toNat : Int)
  rw [BitVec.or_comm]
theorem wraps_63 (n : Int) (h0 : 0 ≤ n) (h1 : n < 2 ^ 63) : IntKind.i64.wrap n = n := by rw [IntKind.wrap_i64]; omega
theorem or_add8 (x y : Int) (hx : 0 ≤ x) (hx1 : x < 256) (hy : 0 ≤ y) (hy1 : y ≤ 255) : Go.bits .or .i64 x (IntKind.i64.wrap (y * 256)) = x + 256 * y := by
  rw [wraps_63 _ (by omega) (by omega), or_swap, bits_join .i64 63 (by decide) wraps_63 8 _ _ (by omega) (by omega) (by omega) hx (by omega) (by omega)]
  omega
theorem or_add16 (x y : Int) (hx : 0 ≤ x) (hx1 : x < 65536) (hy : 0 ≤ y) (hy1 : y ≤ 255) : Go.bits .or .i64 x (IntKind.i64.wrap (y * 65536)) = x + 65536 * y := by
  rw [wraps_63 _ (by omega) (by omega), or_swap, bits_join .i64 63 (by decide) wraps_63 16 _ _ (by omega) (by omega) (by omega) hx (by omega) (by omega)]
  omega
theorem or_add24 (x y : Int) (hx : 0 ≤ x) (hx1 : x < 16777216) (hy : 0 ≤ y) (hy1 : y ≤ 255) : Go.bits .or .i64 x (IntKind.i64.wrap (y * 16777216)) = x + 16777216 * y := by
  rw [wraps_63 _ (by omega) (by omega), or_swap, bits_join .i64 63 (by decide) wraps_63 24 _ _ (by omega) (by omega) (by omega) hx (by omega) (by omega)]
  omega
theorem blk4 {w : World} {g t : Nat} {x0 x1 x2 x3 : Value} (h : w.heap[g]? = some (.cells #[x0, x1, x2, x3] t (0, 0))) :
    w.cell? ⟨g, 0, none⟩ = some x0 ∧ w.cell? ⟨g, 1, none⟩ = some x1 ∧ w.cell? ⟨g, 2, none⟩ = some x2 ∧ w.cell? ⟨g, 3, none⟩ = some x3 ∧ ∀ o, w.frozen? ⟨g, o, none⟩ = false := by
  refine ⟨by simp [World.cell?, h], by simp [World.cell?, h], by simp [World.cell?, h], by simp [World.cell?, h], fun o => ?_⟩
  unfold World.frozen?
  rw [h]
  simp
theorem infoB : (Try.prog.info? 5).map (fun i => (i.zero, i.size, i.bytes)) = some (some (.int .u8 0), 1, 1) := by kernel_rfl
theorem set1 {w : World} {g t : Nat} {cs : Array Value} {fz : Nat × Nat} (h : w.heap[g]? = some (.cells cs t fz)) (i : Nat) (v : Value) : (w.setCell ⟨g, i, none⟩ v).heap[g]? = some (.cells (cs.setIfInBounds i v) t fz) := by
  show (w.heap.modify g _)[g]? = _
  rw [Array.getElem?_modify, if_pos rfl, h]
  rfl
theorem set4 {w : World} {g t : Nat} {x0 x1 x2 x3 : Value} (h : w.heap[g]? = some (.cells #[x0, x1, x2, x3] t (0, 0))) (v0 v1 v2 v3 : Value) :
    ((((w.setCell ⟨g, 0, none⟩ v0).setCell ⟨g, 1, none⟩ v1).setCell ⟨g, 2, none⟩ v2).setCell ⟨g, 3, none⟩ v3).heap[g]? = some (.cells #[v0, v1, v2, v3] t (0, 0)) := by
  exact set1 (set1 (set1 (set1 h 0 v0) 1 v1) 2 v2) 3 v3
theorem set4_ne {w : World} {g k : Nat} (hk : k ≠ g) (v0 v1 v2 v3 : Value) :
    ((((w.setCell ⟨g, 0, none⟩ v0).setCell ⟨g, 1, none⟩ v1).setCell ⟨g, 2, none⟩ v2).setCell ⟨g, 3, none⟩ v3).heap[k]? = w.heap[k]? := by
  rw [Below.heap_setCell _ _ _ _ hk, Below.heap_setCell _ _ _ _ hk, Below.heap_setCell _ _ _ _ hk, Below.heap_setCell _ _ _ _ hk]
theorem below_set4 {B : Nat} {w0 w : World} {g : Nat} (h : Below B w0 w) (hg : B ≤ g) (v0 v1 v2 v3 : Value) : Below B w0 ((((w.setCell ⟨g, 0, none⟩ v0).setCell ⟨g, 1, none⟩ v1).setCell ⟨g, 2, none⟩ v2).setCell ⟨g, 3, none⟩ v3) :=
  (((h.setCell hg _).setCell hg _).setCell hg _).setCell hg _
/-- What holds at each round's head. -/
def MoreRel (w : World) (g : Nat) (r : Int × Int × Int × Int) (kq : Nat) (v1 : Value) (wr : World) : Prop :=
  ∃ (A : Option Addr) (n c : Nat) (l : List Int) (a b d e : Int), v1 = .slice A n c ∧ n ≤ c ∧ n = 4 * kq ∧ l.length = n ∧ Kd.C (Kd.int .u8) w A n l ∧ (∀ x ∈ l, 0 ≤ x ∧ x ≤ 255) ∧ sumL a b d e l = r ∧
    wr.heap[g]? = some (.cells #[.int .i64 a, .int .i64 b, .int .i64 d, .int .i64 e] 198 (0, 0)) ∧
    wr.heap[w.heap.size + 1]? = some (.cells #[.int .i64 0, .int .i64 0, .int .i64 0, .int .i64 0] 23 (0, 0)) ∧ Below w.heap.size w wr
set_option maxHeartbeats 1000000 in
set_option maxRecDepth 100000 in
theorem more_calls (k : Nat) (a b c d : Int) (A : Option Addr) (cap : Nat) (l : List Int) (w : World) (hC : Kd.C (Kd.int .u8) w A l.length l) (hc : l.length ≤ cap) (hl : l.length = 4 * k) (hb : ∀ x ∈ l, 0 ≤ x ∧ x ≤ 255) :
    Calls Try.prog 96 #[four a b c d, .slice A l.length cap] w fun e w' => e = .returned (.tuple #[four (sumL a b c d l).1 (sumL a b c d l).2.1 (sumL a b c d l).2.2.1 (sumL a b c d l).2.2.2, .int .i64 0]) ∧ Below w.heap.size w w' := by
  have hm : (((l.length : Int) % 4) != 0) = false := by rw [bne_eq_false_iff_eq]; omega
  have HC := Aside0.mk hC
  have HL := Aside0.mk hl
  have HB := Aside0.mk hb
  clear hC hl hb
  go_enter Try.func96, Try.ntmps96
  go_wp2_with (go_at_call 118; refine (of_calls _ _ _ _ _).mono ?_; rintro e w1 ⟨rfl, hb1⟩)
  have hg : w.heap.size + 2 ≤ w1.heap.size := by have := hb1.size; simp at this; omega
  go_loopg [1] k (fun kq v1 wr => MoreRel w w1.heap.size (sumL a b c d l) kq v1 wr)
  case atStart =>
    refine ⟨A, l.length, cap, l, a, b, c, d, rfl, hc, HL.out, rfl, HC.out, HB.out, rfl, ?_, ?_, ?_⟩
    · exact heap_alloc_new w1 _
    · rw [Below.heap_alloc _ _ _ (by omega), hb1.block _ (by simp)]
      exact (congrArg (fun i => ((w.alloc _).alloc _).heap[i]?) (show w.heap.size + 1 = (w.alloc _).heap.size by simp)).trans (heap_alloc_new (w.alloc _) _)
    · exact (((Below.refl _ _).alloc (Nat.le_refl _) _).alloc (by simp) _ |>.trans (hb1.mono (by simp; omega))).alloc (by omega) _
  case round =>
    obtain ⟨A', n, c', l', a', b', d', e', rfl, hnc, hn, hl', hC', hB', hS', hblk, hres, hbel⟩ := hrel
    have HR := Aside0.mk hres
    have HN := Aside0.mk hn
    have HL' := Aside0.mk hl'
    have HC' := Aside0.mk hC'
    have HB' := Aside0.mk hB'
    have HS' := Aside0.mk hS'
    have HBL := Aside0.mk hblk
    have HW := Aside0.mk hbel
    clear hC' hB' hS' hblk hbel HC HL HB hres hn hl'
    cases gk with
    | zero =>
      obtain rfl : n = 0 := by have := HN.out; omega
      obtain ⟨hc0, hc1, hc2, hc3, hfz⟩ := blk4 HBL.out
      go_wp2_with (fail)
      refine (sum_calls _ _ _ _ _).mono ?_
      rintro e w2 ⟨rfl, hb2⟩
      have hb3 := Aside0.mk hb2
      obtain ⟨hr0, hr1, hr2, hr3, hrz⟩ := blk4 ((hb2.block _ (Array.getElem?_eq_some_iff.1 HR.out).1).trans HR.out)
      clear hb2
      go_wp2_with (fail)
      have hs : l' = [] := List.eq_nil_of_length_eq_zero HL'.out
      have hs' := HS'.out
      subst hs
      simp only [sumL] at hs'
      refine bodyPost_ret (v := .tuple #[four a' b' d' e', .int .i64 0]) ?_ rfl ⟨?_, ?_⟩
      · have hw := set4 ((hb3.out.block _ (Array.getElem?_eq_some_iff.1 HR.out).1).trans HR.out) (.int .i64 a') (.int .i64 b') (.int .i64 d') (.int .i64 e')
        obtain ⟨q0, q1, q2, q3, qz⟩ := blk4 hw
        clear hw hr0 hr1 hr2 hr3 hrz
        simp [results, Try.results96, go_sem, q0, q1, q2, q3]
      · rw [← hs']
      · exact below_set4 (HW.out.trans (hb3.out.mono (by have := HW.out.size; omega))) (by omega) _ _ _ _
    | succ k1 =>
      obtain ⟨x0, x1, x2, x3, lr, rfl⟩ : ∃ x0 x1 x2 x3 lr, l' = x0 :: x1 :: x2 :: x3 :: lr := by
        have := HL'.out
        have := HN.out
        match l', this with
        | x0 :: x1 :: x2 :: x3 :: lr, _ => exact ⟨x0, x1, x2, x3, lr, rfl⟩
        | [], _ => simp at *; omega
        | [_], _ => simp at *; omega
        | [_, _], _ => simp at *; omega
        | [_, _, _], _ => simp at *; omega
      have hpos : 0 < n := by have := HN.out; omega
      have hn4 : 4 ≤ n := by have := HN.out; omega
      obtain ⟨hc0, hc1, hc2, hc3, hfz⟩ := blk4 HBL.out
      obtain ⟨ad, he, hx0⟩ := Kd.at_int HC'.out 0 (by decide) (by omega)
      subst he
      obtain ⟨ad', he, hx1⟩ := Kd.at_int HC'.out 1 (by decide) (by omega)
      injection he with he; subst he
      obtain ⟨ad', he, hx2⟩ := Kd.at_int HC'.out 2 (by decide) (by omega)
      injection he with he; subst he
      obtain ⟨ad', he, hx3⟩ := Kd.at_int HC'.out 3 (by decide) (by omega)
      injection he with he; subst he
      have hx0 : wr.cell? ad = some (.int .u8 x0) := (HW.out.cell (World.block_lt_of_cell? w _ hx0)).trans (by simpa [rd, Addr.add] using hx0)
      have hx1 : wr.cell? ⟨ad.block, ad.off + 1, none⟩ = some (.int .u8 x1) := (HW.out.cell (World.block_lt_of_cell? w _ hx1)).trans (by simpa [rd, Addr.add] using hx1)
      have hx2 : wr.cell? ⟨ad.block, ad.off + 2, none⟩ = some (.int .u8 x2) := (HW.out.cell (World.block_lt_of_cell? w _ hx2)).trans (by simpa [rd, Addr.add] using hx2)
      have hx3 : wr.cell? ⟨ad.block, ad.off + 3, none⟩ = some (.int .u8 x3) := (HW.out.cell (World.block_lt_of_cell? w _ hx3)).trans (by simpa [rd, Addr.add] using hx3)
      have i1 : (1 : Int) < (n : Int) := by omega
      have i2 : (2 : Int) < (n : Int) := by omega
      have i3 : (3 : Int) < (n : Int) := by omega
      have b0 := HB'.out x0 (by simp)
      have b1 := HB'.out x1 (by simp)
      have b2 := HB'.out x2 (by simp)
      have b3 := HB'.out x3 (by simp)
      have w0 : IntKind.i64.wrap x0 = x0 := by rw [IntKind.wrap_i64]; omega
      have w1' : IntKind.i64.wrap x1 = x1 := by rw [IntKind.wrap_i64]; omega
      have w2' : IntKind.i64.wrap x2 = x2 := by rw [IntKind.wrap_i64]; omega
      have w3' : IntKind.i64.wrap x3 = x3 := by rw [IntKind.wrap_i64]; omega
      have o1 := or_add8 x0 x1 (by omega) (by omega) (by omega) (by omega)
      have o2 := or_add16 (x0 + 256 * x1) x2 (by omega) (by omega) (by omega) (by omega)
      have o3 := or_add24 (x0 + 256 * x1 + 65536 * x2) x3 (by omega) (by omega) (by omega) (by omega)
      obtain ⟨i0, hi, hz0, hz1, hz2⟩ := info_parts infoB
      obtain ⟨A1, hcut, hA1⟩ := print_cut (P := Try.prog) 28 5 .i64 Try.underlying28 hi hz1 (some ad) n c' 4 hn4
      have hcut' : ∀ W : World, (Instr.slice 28 (.slice (some ad) n c') (some (.int .i64 4)) none none).run Try.prog W = .ok (.slice A1 (n - 4) (c' - 4)) W := hcut
      clear hcut hi hz0 hz1 hz2
      go_wp2_with (fail)
      go_still_tail 23, (by kernel_rfl)
      change wpList _ _ _ _ _ wr.drew
      go_wp2_with (fail)
      refine (word_calls _ _ _ _ _ _).mono ?_
      rintro e w2 ⟨rfl, hb2⟩
      have hb3 := Aside0.mk hb2
      obtain ⟨hr0, hr1, hr2, hr3, hrz⟩ := blk4 ((hb2.block _ (Array.getElem?_eq_some_iff.1 HBL.out).1).trans HBL.out)
      clear hb2 hx0 hx1 hx2 hx3 o1 o2 o3 hc0 hc1 hc2 hc3 hfz
      go_wp2_with (fail)
      go_roundg k1
      case rel =>
        have hn := HN.out
        have hl := HL'.out
        have hlt := (Array.getElem?_eq_some_iff.1 HBL.out).1
        have hlr := (Array.getElem?_eq_some_iff.1 HR.out).1
        refine ⟨A1, n - 4, c' - 4, lr, _, _, _, _, rfl, by omega, by omega, by simp at hl; omega, ?_, fun x hx => HB'.out x (by simp [hx]), HS'.out, set4 ((hb3.out.block _ hlt).trans HBL.out) _ _ _ _, ?_, ?_⟩
        · exact Kd.C_of_reads (d := 0) (readsInt_of.1 (hA1 w .u8 _ hnc (readsInt_of.2 (Kd.reads_of_C (d := 0) HC'.out))))
        · rw [set4_ne (by omega)]
          exact (hb3.out.block _ hlr).trans HR.out
        · exact below_set4 (HW.out.trans ((Below.drew (Below.refl _ _)).trans (hb3.out.mono (by simp; have := HW.out.size; omega)))) (by omega) _ _ _ _
      case measure => omega

end Go.Proofs.Ythnchojddoefiaa.Flet
