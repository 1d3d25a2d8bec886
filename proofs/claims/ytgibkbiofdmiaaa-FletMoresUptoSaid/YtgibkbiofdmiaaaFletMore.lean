/- More and Of of package flet, and the two laws of them: both sides are the same sums. The condition: at most 1048576 bytes. -/
import Derived.Test.YtgibkbiofdmiaaaFlet
import Derived.Test.YtgibkbiofdmiaaaPFletMoresx1
import Derived.Test.YtgibkbiofdmiaaaWEqStruct
set_option linter.unusedVariables false
set_option linter.unusedSimpArgs false
namespace Go.Proofs.Ytgibkbiofdmiaaa.Flet
open Go.RowKit Go.Proofs.YtgibkbiofdmiaaaW.PrintWords

theorem wr_id (n : Int) (h : -9223372036854775808 ≤ n ∧ n ≤ 9223372036854775807) : wrap64 n = n := by unfold wrap64; omega
def wordsL : List Int → List Int
  | x0 :: x1 :: x2 :: x3 :: r => (x0 + 256 * x1 + 65536 * x2 + 16777216 * x3) :: wordsL r
  | _ => []
def foldW (a b c d : Int) : List Int → Int × Int × Int × Int
  | x :: r => foldW (wrap64 (a + x)) (wrap64 (b + wrap64 (a + x))) (wrap64 (c + wrap64 (b + wrap64 (a + x)))) (wrap64 (d + wrap64 (c + wrap64 (b + wrap64 (a + x))))) r
  | [] => (a, b, c, d)
theorem fold_is : ∀ (l : List Int) (a b c d : Int), foldW a b c d (wordsL l) = sumL a b c d l
  | x0 :: x1 :: x2 :: x3 :: r, a, b, c, d => by
    simp only [wordsL, foldW, sumL]
    exact fold_is r _ _ _ _
  | [], _, _, _, _ => rfl
  | [_], _, _, _, _ => rfl
  | [_, _], _, _, _, _ => rfl
  | [_, _, _], _, _, _, _ => rfl
theorem rd_drop (l : List Int) (n i : Nat) : rd l ((n + i : Nat) : Int) = (l.drop n).getD i 0 := by
  show l.getD ((n + i : Nat) : Int).toNat 0 = _
  rw [Int.toNat_natCast, List.getD_eq_getElem?_getD, List.getD_eq_getElem?_getD, List.getElem?_drop]
theorem word_val (x0 x1 x2 x3 : Int) (h0 : 0 ≤ x0 ∧ x0 ≤ 255) (h1 : 0 ≤ x1 ∧ x1 ≤ 255) (h2 : 0 ≤ x2 ∧ x2 ≤ 255) (h3 : 0 ≤ x3 ∧ x3 ≤ 255) :
    wrap64 (wrap64 (wrap64 (wrap64 x0 + wrap64 (256 * wrap64 x1)) + wrap64 (65536 * wrap64 x2)) + wrap64 (16777216 * wrap64 x3)) = x0 + 256 * x1 + 65536 * x2 + 16777216 * x3 := by
  rw [wr_id x0 (by omega), wr_id x1 (by omega), wr_id x2 (by omega), wr_id x3 (by omega), wr_id (256 * x1) (by omega), wr_id (65536 * x2) (by omega), wr_id (16777216 * x3) (by omega),
    wr_id (x0 + 256 * x1) (by omega), wr_id (x0 + 256 * x1 + 65536 * x2) (by omega), wr_id _ (by omega)]
theorem words_at (l : List Int) (hb : ∀ x ∈ l, 0 ≤ x ∧ x ≤ 255) (hN : l.length ≤ 1048576) : ∀ (m f j : Nat) (acc : List Int), l.length = 4 * j + 4 * m → acc.length = j →
    PFletMores.quicksetref_words.l0 (m + f + 1) l acc ((4 * j : Nat) : Int) = some (acc ++ wordsL (l.drop (4 * j)), true)
  | 0, f, j, acc, hl, ha => by
    have hd : l.drop (4 * j) = [] := List.drop_eq_nil_of_le (by omega)
    rw [PFletMores.quicksetref_words.l0, if_neg (by omega), hd]
    simp [wordsL]
  | m + 1, f, j, acc, hl, ha => by
    obtain ⟨x0, x1, x2, x3, r, hd⟩ : ∃ x0 x1 x2 x3 r, l.drop (4 * j) = x0 :: x1 :: x2 :: x3 :: r := by
      have hh : (l.drop (4 * j)).length = 4 * m + 4 := by rw [List.length_drop]; omega
      match l.drop (4 * j), hh with
      | x0 :: x1 :: x2 :: x3 :: r, _ => exact ⟨x0, x1, x2, x3, r, rfl⟩
      | [], hh => simp at hh
      | [_], hh => simp at hh
      | [_, _], hh => simp at hh
      | [_, _, _], hh => simp at hh
    have hm : ∀ x ∈ l.drop (4 * j), 0 ≤ x ∧ x ≤ 255 := fun x hx => hb x (List.mem_of_mem_drop hx)
    rw [hd] at hm
    have r0 : rd l ((4 * j : Nat) : Int) = x0 := by have := rd_drop l (4 * j) 0; rw [hd] at this; simpa using this
    have r1 : rd l ((4 * j + 1 : Nat) : Int) = x1 := by rw [rd_drop l (4 * j) 1, hd]; rfl
    have r2 : rd l ((4 * j + 2 : Nat) : Int) = x2 := by rw [rd_drop l (4 * j) 2, hd]; rfl
    have r3 : rd l ((4 * j + 3 : Nat) : Int) = x3 := by rw [rd_drop l (4 * j) 3, hd]; rfl
    have e1 : wrap64 (((4 * j : Nat) : Int) + 1) = ((4 * j + 1 : Nat) : Int) := by rw [wr_id _ (by omega)]; omega
    have e2 : wrap64 (((4 * j : Nat) : Int) + 2) = ((4 * j + 2 : Nat) : Int) := by rw [wr_id _ (by omega)]; omega
    have e3 : wrap64 (((4 * j : Nat) : Int) + 3) = ((4 * j + 3 : Nat) : Int) := by rw [wr_id _ (by omega)]; omega
    have e4 : wrap64 (((4 * j : Nat) : Int) + 4) = ((4 * (j + 1) : Nat) : Int) := by rw [wr_id _ (by omega)]; omega
    have hd' : l.drop (4 * (j + 1)) = r := by
      rw [show 4 * (j + 1) = 4 * j + 4 from by omega, ← List.drop_drop, hd]; rfl
    rw [show m + 1 + f + 1 = (m + f + 1) + 1 from by omega, PFletMores.quicksetref_words.l0, e1, e2, e3, e4, r0, r1, r2, r3, if_pos (by omega), if_pos (by omega), if_pos (by omega), if_pos (by omega), if_pos (by omega), if_pos (by omega), if_pos (by omega), if_pos (by omega), if_pos (by omega),
      word_val _ _ _ _ (hm _ (by simp)) (hm _ (by simp)) (hm _ (by simp)) (hm _ (by simp)), words_at l hb hN m f (j + 1) _ (by omega) (by simp [ha]), hd', hd]
    simp [wordsL]
theorem fold_at (ws : List Int) (hN : ws.length ≤ 1048576) : ∀ (m f i : Nat) (a b c d : Int), ws.length = i + m →
    PFletMores.quicksetref_SumMore.l0 (m + f + 1) ws (ws.length : Int) (i : Int) a b c d = some ((foldW a b c d (ws.drop i)).1, (foldW a b c d (ws.drop i)).2.1, (foldW a b c d (ws.drop i)).2.2.1, (foldW a b c d (ws.drop i)).2.2.2, 0)
  | 0, f, i, a, b, c, d, hl => by
    have hd : ws.drop i = [] := List.drop_eq_nil_of_le (by omega)
    rw [PFletMores.quicksetref_SumMore.l0, if_neg (by omega), hd]
    rfl
  | m + 1, f, i, a, b, c, d, hl => by
    obtain ⟨x, r, hd⟩ : ∃ x r, ws.drop i = x :: r := by
      have hh : (ws.drop i).length = m + 1 := by rw [List.length_drop]; omega
      match ws.drop i, hh with
      | x :: r, _ => exact ⟨x, r, rfl⟩
      | [], hh => simp at hh
    have r0 : rd ws (i : Int) = x := by have := rd_drop ws i 0; rw [hd] at this; simpa using this
    have e1 : wrap64 ((i : Int) + 1) = ((i + 1 : Nat) : Int) := by rw [wr_id _ (by omega)]; omega
    have hd' : ws.drop (i + 1) = r := by rw [← List.drop_drop, hd]; rfl
    rw [show m + 1 + f + 1 = (m + f + 1) + 1 from by omega, PFletMores.quicksetref_SumMore.l0, if_pos (by omega), if_pos (by omega), if_pos (by omega), r0, e1, fold_at ws hN m f (i + 1) _ _ _ _ (by omega), hd', hd]
    rfl
theorem wordsL_length : ∀ l : List Int, (wordsL l).length ≤ l.length
  | x0 :: x1 :: x2 :: x3 :: r => by have := wordsL_length r; simp only [wordsL, List.length_cons]; omega
  | [] => by simp [wordsL]
  | [_] => by simp [wordsL]
  | [_, _] => by simp [wordsL]
  | [_, _, _] => by simp [wordsL]
theorem fbsome {α β : Type} (a : α) (g : α → Option β) : (some a).bind g = g a := by cases h : g a <;> simp [h]
theorem more_law (a b c d : Int) (l : List Int) (hb : ∀ x ∈ l, 0 ≤ x ∧ x ≤ 255) (h4 : (l.length : Int) % 4 = 0) (hN : l.length ≤ 1048576) :
    ∃ k, PFletMores.quicksetref_SumMore.f k a b c d l = some ((sumL a b c d l).1, (sumL a b c d l).2.1, (sumL a b c d l).2.2.1, (sumL a b c d l).2.2.2, 0) := by
  obtain ⟨m, hm⟩ : ∃ m, l.length = 4 * m := ⟨l.length / 4, by omega⟩
  have hw := wordsL_length l
  refine ⟨m + l.length + 1, ?_⟩
  have h1 := words_at l hb hN m l.length 0 [] (by omega) rfl
  have h2 := fold_at (wordsL l) (by omega) (wordsL l).length (m + l.length - (wordsL l).length) 0 a b c d (by omega)
  rw [show (wordsL l).length + (m + l.length - (wordsL l).length) + 1 = m + l.length + 1 from by omega] at h2
  simp only [List.nil_append, Nat.mul_zero, List.drop_zero] at h1 h2
  rw [show ((0 : Nat) : Int) = 0 from rfl] at h1 h2
  rw [PFletMores.quicksetref_SumMore.f, PFletMores.quicksetref_words.f, if_pos h4, h1, fbsome, if_pos rfl, h2, fold_is]
theorem more_law_bad (a b c d : Int) (l : List Int) (h4 : ¬ (l.length : Int) % 4 = 0) : PFletMores.quicksetref_SumMore.f 0 a b c d l = some (0, 0, 0, 0, 4) := by
  rw [PFletMores.quicksetref_SumMore.f, PFletMores.quicksetref_words.f, if_neg h4, fbsome, if_neg (by simp)]

set_option maxHeartbeats 400000 in
theorem more_bad (n : Nat) (a b c d : Int) (A : Option Addr) (cap : Nat) (w : World) (h4 : ¬ (n : Int) % 4 = 0) :
    Calls Try.prog 25 #[four a b c d, .slice A n cap] w fun e w' => e = .returned (.tuple #[four 0 0 0 0, .int .i64 4]) ∧ Below w.heap.size w w' := by
  have hm : (((n : Int) % 4) != 0) = true := by rw [bne_iff_ne]; exact h4
  go_enter Try.func25, Try.ntmps25
  go_wp2_with (fail)
  refine bodyPost_ret (v := .tuple #[four 0 0 0 0, .int .i64 4]) ?_ rfl ⟨rfl, ?_⟩
  · simp [results, Try.results25, go_sem]
  · exact ((Below.refl _ _).alloc (Nat.le_refl _) _).alloc (by simp) _

theorem more_any (l : List Int) (hb : ∀ x ∈ l, 0 ≤ x ∧ x ≤ 255) (hN : l.length ≤ 1048576) (a b c d : Int) : ∃ r1 r2 r3 r4 r5 : Int, (∃ k, PFletMores.quicksetref_SumMore.f k a b c d l = some (r1, r2, r3, r4, r5)) ∧
    ∀ (A : Option Addr) (cap : Nat) (w : World), Kd.C (Kd.int .u8) w A l.length l → l.length ≤ cap → Calls Try.prog 25 #[four a b c d, .slice A l.length cap] w fun e w' => e = .returned (.tuple #[four r1 r2 r3 r4, .int .i64 r5]) ∧ Below w.heap.size w w' := by
  by_cases h4 : (l.length : Int) % 4 = 0
  · exact ⟨_, _, _, _, _, more_law a b c d l hb h4 hN, fun A cap w hC hc => more_calls (l.length / 4) a b c d A cap l w hC hc (by omega) hb⟩
  · exact ⟨_, _, _, _, _, ⟨0, more_law_bad a b c d l h4⟩, fun A cap w hC hc => more_bad l.length a b c d A cap w h4⟩
theorem eqA23 (d : Nat) (w : World) (x0 y0 x1 y1 x2 y2 x3 y3 : Int) :
    (Op.equalIn (d + 2) 23 (four x0 x1 x2 x3) (four y0 y1 y2 y3)).run Try.prog w = .ok (x0 == y0 && (x1 == y1 && (x2 == y2 && (x3 == y3)))) w := by
  refine eqA_of Try.underlying23 (by kernel_rfl) ?_
  refine eqf_cons (by rfl) (by go_simp; rfl) (by go_simp; rfl) (by go_simp) ?_
  refine eqf_cons (by rfl) (by go_simp; rfl) (by go_simp; rfl) (by go_simp) ?_
  refine eqf_cons (by rfl) (by go_simp; rfl) (by go_simp; rfl) (by go_simp) ?_
  exact eqf_last (by rfl) (by go_simp; rfl) (by go_simp; rfl) (by go_simp)
set_option maxHeartbeats 400000 in
theorem of_words (l : List Int) (A : Option Addr) (cap : Nat) (w : World) (hC : Kd.C (Kd.int .u8) w A l.length l) (hc : l.length ≤ cap) (r1 r2 r3 r4 r5 : Int)
    (hm : ∀ (A : Option Addr) (cap : Nat) (w : World), Kd.C (Kd.int .u8) w A l.length l → l.length ≤ cap → Calls Try.prog 25 #[four 0 0 0 0, .slice A l.length cap] w fun e w' => e = .returned (.tuple #[four r1 r2 r3 r4, .int .i64 r5]) ∧ Below w.heap.size w w') :
    Calls Try.prog 27 #[.slice A l.length cap] w fun e w' => e = .returned (.tuple #[four r1 r2 r3 r4, .int .i64 r5]) ∧ Below w.heap.size w w' := by
  have HC := Aside0.mk hC
  clear hC
  go_enter Try.func27, Try.ntmps27
  go_wp2_with (fail)
  have hb0 : Below w.heap.size w (w.alloc (.cells #[.int .i64 0, .int .i64 0, .int .i64 0, .int .i64 0] 23)) := (Below.refl _ _).alloc (Nat.le_refl _) _
  refine (hm A cap _ (Kd.C_below HC.out hb0) hc).mono ?_
  rintro e w1 ⟨rfl, hb1⟩
  have HB := Aside0.mk ((hb1.block _ (by simp)).trans (heap_alloc_new w (.cells #[.int .i64 0, .int .i64 0, .int .i64 0, .int .i64 0] 23)))
  obtain ⟨hr0, hr1, hr2, hr3, hrz⟩ := blk4 HB.out
  have hb2 := Aside0.mk (hb0.trans (hb1.mono (by simp)))
  clear hb0 hb1
  go_wp2_with (fail)
  refine bodyPost_ret (v := .tuple #[four r1 r2 r3 r4, .int .i64 r5]) ?_ rfl ⟨rfl, ?_⟩
  · have hb1 := hb2.out
    have hw := set4 (w := w1) (g := w.heap.size) (x0 := .int .i64 0) (x1 := .int .i64 0) (x2 := .int .i64 0) (x3 := .int .i64 0) HB.out (.int .i64 r1) (.int .i64 r2) (.int .i64 r3) (.int .i64 r4)
    obtain ⟨q0, q1, q2, q3, qz⟩ := blk4 hw
    clear hw hr0 hr1 hr2 hr3 hrz
    simp [results, Try.results27, go_sem, q0, q1, q2, q3]
  · exact below_set4 hb2.out (Nat.le_refl _) _ _ _ _

theorem u8_of {l : List Int} (h : ∀ x ∈ l, (Lit.int .u8 x).wf = true) : ∀ x ∈ l, 0 ≤ x ∧ x ≤ 255 := fun x hx => by
  have := h x hx
  simpa [Lit.wf, IntKind.min, IntKind.max, IntKind.signed, IntKind.bits] using this
set_option maxHeartbeats 1000000 in
theorem fletMores_calls (a b c d : Int) (A : Option Addr) (cap : Nat) (l : List Int) (w : World) (hC : Kd.C (Kd.int .u8) w A l.length l) (hc : l.length ≤ cap)
    (_ : (Lit.int .i64 a).wf = true) (_ : (Lit.int .i64 b).wf = true) (_ : (Lit.int .i64 c).wf = true) (_ : (Lit.int .i64 d).wf = true) (hN : l.length ≤ 1048576) (hb : ∀ x ∈ l, (Lit.int .u8 x).wf = true) :
    Calls Try.prog 8 #[four a b c d, .slice A l.length cap] w fun e w' => e = .returned (.bool true) ∧ Below w.heap.size w w' := by
  obtain ⟨r1, r2, r3, r4, r5, ⟨k, hk⟩, hm⟩ := more_any l (u8_of hb) hN a b c d
  have HC := Aside0.mk hC
  have HM := Aside0.mk hm
  clear hC hm hb
  go_enter Try.func8, Try.ntmps8
  go_wp2_with (fail)
  have hb0 : Below w.heap.size w (w.alloc (.cells #[.int .i64 a, .int .i64 b, .int .i64 c, .int .i64 d] 23)) := (Below.refl _ _).alloc (Nat.le_refl _) _
  refine (HM.out A cap _ (Kd.C_below HC.out hb0) hc).mono ?_
  rintro e w1 ⟨rfl, hb1⟩
  have HB := Aside0.mk ((hb1.block _ (by simp)).trans (heap_alloc_new w (.cells #[.int .i64 a, .int .i64 b, .int .i64 c, .int .i64 d] 23)))
  have HX := Aside0.mk (hb0.trans (hb1.mono (by simp)))
  clear hb0 hb1
  have hs1 : w.heap.size < w1.heap.size := (Array.getElem?_eq_some_iff.1 HB.out).1
  have HE := Aside0.mk ((Below.heap_alloc w1 (.cells #[.int .i64 r1, .int .i64 r2, .int .i64 r3, .int .i64 r4] 23) w.heap.size (by omega)).trans HB.out)
  obtain ⟨hr0, hr1, hr2, hr3, hrz⟩ := blk4 HE.out
  go_wp2_with (fail)
  have hb2 : Below w.heap.size w (w1.alloc (.cells #[.int .i64 r1, .int .i64 r2, .int .i64 r3, .int .i64 r4] 23)) := HX.out.alloc (by omega) _
  refine (PFletMores.quicksetref_SumMore.calls k a b c d A cap l r1 r2 r3 r4 r5 _ (Kd.C_below HC.out hb2) hc hk).mono ?_
  rintro e w2 ⟨rfl, hb3⟩
  have HY := Aside0.mk (hb2.trans (hb3.mono (by simp; omega)))
  have HD := Aside0.mk ((hb3.block _ (by simp)).trans (heap_alloc_new w1 (.cells #[.int .i64 r1, .int .i64 r2, .int .i64 r3, .int .i64 r4] 23)))
  clear hb2 hb3 hr0 hr1 hr2 hr3 hrz
  have hs2 : w1.heap.size < w2.heap.size := (Array.getElem?_eq_some_iff.1 HD.out).1
  have HE2 := Aside0.mk ((Below.heap_alloc w2 (.cells #[.int .i64 r1, .int .i64 r2, .int .i64 r3, .int .i64 r4] 23) w1.heap.size (by omega)).trans HD.out)
  obtain ⟨hr0, hr1, hr2, hr3, hrz⟩ := blk4 HE2.out
  go_wp2_with (fail)
  refine bodyPost_ret (v := .bool true) ?_ rfl ⟨rfl, ?_⟩
  · simp [results, Try.results8, go_sem]
  · exact HY.out.alloc (by have := HY.out.size; omega) _
set_option maxHeartbeats 1000000 in
theorem fletOfs_calls (A : Option Addr) (cap : Nat) (l : List Int) (w : World) (hC : Kd.C (Kd.int .u8) w A l.length l) (hc : l.length ≤ cap) (hN : l.length ≤ 1048576) (hb : ∀ x ∈ l, (Lit.int .u8 x).wf = true) :
    Calls Try.prog 9 #[.slice A l.length cap] w fun e w' => e = .returned (.bool true) ∧ Below w.heap.size w w' := by
  obtain ⟨r1, r2, r3, r4, r5, ⟨k, hk⟩, hm⟩ := more_any l (u8_of hb) hN 0 0 0 0
  have HC := Aside0.mk hC
  have HM := Aside0.mk hm
  clear hC hm hb
  go_enter Try.func9, Try.ntmps9
  go_wp2_with (fail)
  refine (of_words l A cap _ HC.out hc r1 r2 r3 r4 r5 HM.out).mono ?_
  rintro e w1 ⟨rfl, hb1⟩
  have HX := Aside0.mk hb1
  clear hb1
  go_wp2_with (fail)
  have hs1 : w.heap.size ≤ w1.heap.size := HX.out.size
  have hb2 : Below w.heap.size w (w1.alloc (.cells #[.int .i64 r1, .int .i64 r2, .int .i64 r3, .int .i64 r4] 23)) := HX.out.alloc (by omega) _
  refine (PFletMores.quicksetref_SumMore.calls k 0 0 0 0 A cap l r1 r2 r3 r4 r5 _ (Kd.C_below HC.out hb2) hc hk).mono ?_
  rintro e w2 ⟨rfl, hb3⟩
  have HY := Aside0.mk (hb2.trans (hb3.mono (by simp; omega)))
  have HD := Aside0.mk ((hb3.block _ (by simp)).trans (heap_alloc_new w1 (.cells #[.int .i64 r1, .int .i64 r2, .int .i64 r3, .int .i64 r4] 23)))
  clear hb2 hb3
  have hs2 : w1.heap.size < w2.heap.size := (Array.getElem?_eq_some_iff.1 HD.out).1
  have HE2 := Aside0.mk ((Below.heap_alloc w2 (.cells #[.int .i64 r1, .int .i64 r2, .int .i64 r3, .int .i64 r4] 23) w1.heap.size (by omega)).trans HD.out)
  obtain ⟨hr0, hr1, hr2, hr3, hrz⟩ := blk4 HE2.out
  go_wp2_with (fail)
  refine bodyPost_ret (v := .bool true) ?_ rfl ⟨rfl, ?_⟩
  · simp [results, Try.results9, go_sem]
  · exact HY.out.alloc (by have := HY.out.size; omega) _
end Go.Proofs.Ytgibkbiofdmiaaa.Flet
