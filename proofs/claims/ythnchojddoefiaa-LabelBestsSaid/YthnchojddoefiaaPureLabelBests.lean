/- LabelBests: the two answers are one, over plain numbers and lists, for every argument; no conditions. -/
import Derived.Test.YthnchojddoefiaaQLabelBestsx7
import Derived.Test.YthnchojddoefiaaFlet
set_option linter.unusedVariables false
set_option linter.unusedSimpArgs false
namespace Go.Proofs.Ythnchojddoefiaa.Pure
open Go.Proofs.Ythnchojddoefiaa.QLabelBests Go.RowKit Go.Proofs.YthnchojddoefiaaW.PrintWords Go.Proofs.YthnchojddoefiaaW.PrintLast Go.Proofs.YthnchojddoefiaaW.PrintMore
open Go.Proofs.Ythnchojddoefiaa.Flet
theorem bsome {α β : Type} (x : α) (f : α → Option β) : (some x).bind f = f x := by
  have h : ∀ o, o = some x → o.bind f = f x := by
    intro o ho
    subst ho
    rfl
  exact h _ rfl
theorem wrap_id {n : Int} (h0 : -9223372036854775808 ≤ n) (h1 : n ≤ 9223372036854775807) : wrap64 n = n := by unfold wrap64; omega
def mayL (a0 a1 a2 a3 a4 a5 a6 a7 a8 : Int) : Prop := 1 ≤ a0 ∧ a0 ≤ 1048576 ∧ 2 ≤ a2 ∧ a2 ≤ 8 ∧ 0 ≤ a1 ∧ a1 < a2 ∧ 1 ≤ a3 ∧ a3 ≤ 3 ∧ a3 < a2 ∧ 0 ≤ a4 ∧ a4 ≤ 1048576 ∧ 0 ≤ a5 ∧ a5 ≤ 65536 ∧ 0 ≤ a6 ∧ a6 ≤ 32 ∧ 0 ≤ a7 ∧ a7 ≤ 128 * a6 ∧ 0 ≤ a8 ∧ a8 ≤ a4
theorem in_is (a b c : Int) : label_in.f a b c = some (decide (b ≤ a ∧ a ≤ c)) := by
  unfold label_in.f
  repeat' split
  all_goals (congr 1; first | (rw [decide_eq_decide]; omega) | (symm; rw [decide_eq_false_iff_not]; omega))
theorem in_yes {a b c : Int} (h : b ≤ a ∧ a ≤ c) : label_in.f a b c = some true := by rw [in_is, decide_eq_true h]
theorem in_no {a b c : Int} (h : ¬(b ≤ a ∧ a ≤ c)) : label_in.f a b c = some false := by rw [in_is, decide_eq_false h]
theorem prog_yes (a0 a1 a2 a3 a4 a5 a6 a7 a8 a9 a10 a11 a12 : Int) (h : mayL a0 a1 a2 a3 a4 a5 a6 a7 a8) : label_May.f a0 a1 a2 a3 a4 a5 a6 a7 a8 a9 a10 a11 a12 = some true := by
  unfold mayL at h
  unfold label_May.f
  rw [wrap_id (n := a2 - 1) (by omega) (by omega), wrap_id (n := a6 * 128) (by omega) (by omega), in_yes (by omega), in_yes (by omega), in_yes (by omega), in_yes (c := mn 3 (a2 - 1)) (by unfold mn; split <;> omega), in_yes (by omega), in_yes (by omega), in_yes (by omega), in_yes (by omega), in_yes (by omega)]
  simp
theorem prog_no (a0 a1 a2 a3 a4 a5 a6 a7 a8 a9 a10 a11 a12 : Int) (h : ¬ mayL a0 a1 a2 a3 a4 a5 a6 a7 a8) : label_May.f a0 a1 a2 a3 a4 a5 a6 a7 a8 a9 a10 a11 a12 = some false := by
  unfold mayL at h
  unfold label_May.f
  by_cases h0 : 1 ≤ a0 ∧ a0 ≤ 1048576
  case neg => rw [in_no h0, bsome, if_neg (by decide)]
  rw [in_yes h0, bsome, if_pos rfl]
  by_cases h2 : 2 ≤ a2 ∧ a2 ≤ 8
  case neg => rw [in_no h2, bsome, if_neg (by decide)]
  rw [in_yes h2, bsome, if_pos rfl, wrap_id (n := a2 - 1) (by omega) (by omega)]
  by_cases h1 : 0 ≤ a1 ∧ a1 ≤ a2 - 1
  case neg => rw [in_no h1, bsome, if_neg (by decide)]
  rw [in_yes h1, bsome, if_pos rfl]
  by_cases h3 : 1 ≤ a3 ∧ a3 ≤ mn 3 (a2 - 1)
  case neg => rw [in_no h3, bsome, if_neg (by decide)]
  rw [in_yes h3, bsome, if_pos rfl]
  by_cases h4 : 0 ≤ a4 ∧ a4 ≤ 1048576
  case neg => rw [in_no h4, bsome, if_neg (by decide)]
  rw [in_yes h4, bsome, if_pos rfl]
  by_cases h5 : 0 ≤ a5 ∧ a5 ≤ 65536
  case neg => rw [in_no h5, bsome, if_neg (by decide)]
  rw [in_yes h5, bsome, if_pos rfl]
  by_cases h6 : 0 ≤ a6 ∧ a6 ≤ 32
  case neg => rw [in_no h6, bsome, if_neg (by decide)]
  rw [in_yes h6, bsome, if_pos rfl, wrap_id (n := a6 * 128) (by omega) (by omega)]
  by_cases h7 : 0 ≤ a7 ∧ a7 ≤ a6 * 128
  case neg => rw [in_no h7, bsome, if_neg (by decide)]
  rw [in_yes h7, bsome, if_pos rfl]
  have h8 : ¬ (0 ≤ a8 ∧ a8 ≤ a4) := by
    intro h8
    unfold mn at h3
    split at h3 <;> omega
  rw [in_no h8, bsome]
theorem ref_is (k : Nat) (a0 a1 a2 a3 a4 a5 a6 a7 a8 a9 a10 a11 a12 : Int) : ∃ b, quicksetref_LabelMay.f (k + 1) a0 a1 a2 a3 a4 a5 a6 a7 a8 a9 a10 a11 a12 = some b ∧ (b = true ↔ mayL a0 a1 a2 a3 a4 a5 a6 a7 a8) := by
  unfold mayL
  have hw : 0 ≤ a6 → a6 ≤ 32 → wrap64 (128 * a6) = 128 * a6 := fun h0 h1 => wrap_id (by omega) (by omega)
  unfold quicksetref_LabelMay.f
  repeat' split
  all_goals (simp only [quicksetref_LabelMay.j0, if_true])
  all_goals try (exact ⟨false, rfl, by simp; omega⟩)
  by_cases h1 : a1 ≥ a2
  · rw [decide_eq_true h1, if_pos rfl]; exact ⟨false, rfl, by simp; omega⟩
  rw [decide_eq_false h1, if_neg (by decide)]
  by_cases h3 : a3 < 1
  · rw [if_pos h3]; exact ⟨false, rfl, by simp; omega⟩
  rw [if_neg h3]
  by_cases h3 : a3 > 3
  · rw [if_pos h3]; exact ⟨false, rfl, by simp; omega⟩
  rw [if_neg h3]
  by_cases h3 : a3 ≥ a2
  · rw [if_pos h3]; exact ⟨false, rfl, by simp; omega⟩
  rw [if_neg h3]
  by_cases h4 : a4 < 0
  · rw [if_pos h4]; exact ⟨false, rfl, by simp; omega⟩
  rw [if_neg h4]
  by_cases h4 : a4 > 1048576
  · rw [if_pos h4]; exact ⟨false, rfl, by simp; omega⟩
  rw [if_neg h4]
  by_cases h5 : a5 ≥ 0
  case neg => rw [if_neg h5]; exact ⟨false, rfl, by simp; omega⟩
  rw [if_pos h5]
  by_cases h5 : a5 ≤ 65536
  case neg => rw [if_neg h5]; exact ⟨false, rfl, by simp; omega⟩
  rw [if_pos h5]
  by_cases h6 : a6 ≥ 0
  case neg => rw [if_neg h6]; exact ⟨false, rfl, by simp; omega⟩
  rw [if_pos h6]
  by_cases h6' : a6 ≤ 32
  case neg => rw [if_neg h6']; exact ⟨false, rfl, by simp; omega⟩
  rw [if_pos h6', hw h6 h6']
  by_cases h7 : a7 ≥ 0
  case neg => rw [if_neg h7]; exact ⟨false, rfl, by simp; omega⟩
  rw [if_pos h7]
  by_cases h7 : a7 ≤ 128 * a6
  case neg => rw [if_neg h7]; exact ⟨false, rfl, by simp; omega⟩
  rw [if_pos h7]
  by_cases h8 : a8 ≥ 0
  case neg => rw [if_neg h8]; exact ⟨false, rfl, by simp; omega⟩
  rw [if_pos h8]
  exact ⟨_, rfl, by simp; omega⟩
theorem wr_id (n : Int) (h : -9223372036854775808 ≤ n ∧ n ≤ 9223372036854775807) : wrap64 n = n := by unfold wrap64; omega
def wordsL : List Int → List Int
  | x0 :: x1 :: x2 :: x3 :: r => (x0 + 256 * x1 + 65536 * x2 + 16777216 * x3) :: wordsL r
  | _ => []
def foldW (a b c d : Int) : List Int → Int × Int × Int × Int
  | x :: r => foldW (wrap64 (a + x)) (wrap64 (b + wrap64 (a + x))) (wrap64 (c + wrap64 (b + wrap64 (a + x)))) (wrap64 (d + wrap64 (c + wrap64 (b + wrap64 (a + x))))) r
  | [] => (a, b, c, d)
theorem fold_is : ∀ (l : List Int) (a b c d : Int), foldW a b c d (wordsL l) = sumL a b c d l
  | x0 :: x1 :: x2 :: x3 :: r, a, b, c, d => by
    simp only [wordsL, foldW, sumL]
    exact fold_is r _ _ _ _
  | [], _, _, _, _ => rfl
  | [_], _, _, _, _ => rfl
  | [_, _], _, _, _, _ => rfl
  | [_, _, _], _, _, _, _ => rfl
theorem rd_drop (l : List Int) (n i : Nat) : rd l ((n + i : Nat) : Int) = (l.drop n).getD i 0 := by
  show l.getD ((n + i : Nat) : Int).toNat 0 = _
  rw [Int.toNat_natCast, List.getD_eq_getElem?_getD, List.getD_eq_getElem?_getD, List.getElem?_drop]
theorem word_val (x0 x1 x2 x3 : Int) (h0 : 0 ≤ x0 ∧ x0 ≤ 255) (h1 : 0 ≤ x1 ∧ x1 ≤ 255) (h2 : 0 ≤ x2 ∧ x2 ≤ 255) (h3 : 0 ≤ x3 ∧ x3 ≤ 255) :
    wrap64 (wrap64 (wrap64 (wrap64 x0 + wrap64 (256 * wrap64 x1)) + wrap64 (65536 * wrap64 x2)) + wrap64 (16777216 * wrap64 x3)) = x0 + 256 * x1 + 65536 * x2 + 16777216 * x3 := by
  rw [wr_id x0 (by omega), wr_id x1 (by omega), wr_id x2 (by omega), wr_id x3 (by omega), wr_id (256 * x1) (by omega), wr_id (65536 * x2) (by omega), wr_id (16777216 * x3) (by omega),
    wr_id (x0 + 256 * x1) (by omega), wr_id (x0 + 256 * x1 + 65536 * x2) (by omega), wr_id _ (by omega)]
theorem words_at (l : List Int) (hb : ∀ x ∈ l, 0 ≤ x ∧ x ≤ 255) (hN : l.length ≤ 1048576) : ∀ (m f j : Nat) (acc : List Int), l.length = 4 * j + 4 * m → acc.length = j →
    quicksetref_words.l0 (m + f + 1) l acc ((4 * j : Nat) : Int) = some (acc ++ wordsL (l.drop (4 * j)), true)
  | 0, f, j, acc, hl, ha => by
    have hd : l.drop (4 * j) = [] := List.drop_eq_nil_of_le (by omega)
    rw [quicksetref_words.l0, if_neg (by omega), hd]
    simp [wordsL]
  | m + 1, f, j, acc, hl, ha => by
    obtain ⟨x0, x1, x2, x3, r, hd⟩ : ∃ x0 x1 x2 x3 r, l.drop (4 * j) = x0 :: x1 :: x2 :: x3 :: r := by
      have hh : (l.drop (4 * j)).length = 4 * m + 4 := by rw [List.length_drop]; omega
      match l.drop (4 * j), hh with
      | x0 :: x1 :: x2 :: x3 :: r, _ => exact ⟨x0, x1, x2, x3, r, rfl⟩
      | [], hh => simp at hh
      | [_], hh => simp at hh
      | [_, _], hh => simp at hh
      | [_, _, _], hh => simp at hh
    have hm : ∀ x ∈ l.drop (4 * j), 0 ≤ x ∧ x ≤ 255 := fun x hx => hb x (List.mem_of_mem_drop hx)
    rw [hd] at hm
    have r0 : rd l ((4 * j : Nat) : Int) = x0 := by have := rd_drop l (4 * j) 0; rw [hd] at this; simpa using this
    have r1 : rd l ((4 * j + 1 : Nat) : Int) = x1 := by rw [rd_drop l (4 * j) 1, hd]; rfl
    have r2 : rd l ((4 * j + 2 : Nat) : Int) = x2 := by rw [rd_drop l (4 * j) 2, hd]; rfl
    have r3 : rd l ((4 * j + 3 : Nat) : Int) = x3 := by rw [rd_drop l (4 * j) 3, hd]; rfl
    have e1 : wrap64 (((4 * j : Nat) : Int) + 1) = ((4 * j + 1 : Nat) : Int) := by rw [wr_id _ (by omega)]; omega
    have e2 : wrap64 (((4 * j : Nat) : Int) + 2) = ((4 * j + 2 : Nat) : Int) := by rw [wr_id _ (by omega)]; omega
    have e3 : wrap64 (((4 * j : Nat) : Int) + 3) = ((4 * j + 3 : Nat) : Int) := by rw [wr_id _ (by omega)]; omega
    have e4 : wrap64 (((4 * j : Nat) : Int) + 4) = ((4 * (j + 1) : Nat) : Int) := by rw [wr_id _ (by omega)]; omega
    have hd' : l.drop (4 * (j + 1)) = r := by
      rw [show 4 * (j + 1) = 4 * j + 4 from by omega, ← List.drop_drop, hd]; rfl
    rw [show m + 1 + f + 1 = (m + f + 1) + 1 from by omega, quicksetref_words.l0, e1, e2, e3, e4, r0, r1, r2, r3, if_pos (by omega), if_pos (by omega), if_pos (by omega), if_pos (by omega), if_pos (by omega), if_pos (by omega), if_pos (by omega), if_pos (by omega), if_pos (by omega),
      word_val _ _ _ _ (hm _ (by simp)) (hm _ (by simp)) (hm _ (by simp)) (hm _ (by simp)), words_at l hb hN m f (j + 1) _ (by omega) (by simp [ha]), hd', hd]
    simp [wordsL]
theorem fold_at (ws : List Int) (hN : ws.length ≤ 1048576) : ∀ (m f i : Nat) (a b c d : Int), ws.length = i + m →
    quicksetref_SumMore.l0 (m + f + 1) ws (ws.length : Int) (i : Int) a b c d = some ((foldW a b c d (ws.drop i)).1, (foldW a b c d (ws.drop i)).2.1, (foldW a b c d (ws.drop i)).2.2.1, (foldW a b c d (ws.drop i)).2.2.2, 0)
  | 0, f, i, a, b, c, d, hl => by
    have hd : ws.drop i = [] := List.drop_eq_nil_of_le (by omega)
    rw [quicksetref_SumMore.l0, if_neg (by omega), hd]
    rfl
  | m + 1, f, i, a, b, c, d, hl => by
    obtain ⟨x, r, hd⟩ : ∃ x r, ws.drop i = x :: r := by
      have hh : (ws.drop i).length = m + 1 := by rw [List.length_drop]; omega
      match ws.drop i, hh with
      | x :: r, _ => exact ⟨x, r, rfl⟩
      | [], hh => simp at hh
    have r0 : rd ws (i : Int) = x := by have := rd_drop ws i 0; rw [hd] at this; simpa using this
    have e1 : wrap64 ((i : Int) + 1) = ((i + 1 : Nat) : Int) := by rw [wr_id _ (by omega)]; omega
    have hd' : ws.drop (i + 1) = r := by rw [← List.drop_drop, hd]; rfl
    rw [show m + 1 + f + 1 = (m + f + 1) + 1 from by omega, quicksetref_SumMore.l0, if_pos (by omega), if_pos (by omega), if_pos (by omega), r0, e1, fold_at ws hN m f (i + 1) _ _ _ _ (by omega), hd', hd]
    rfl
theorem wordsL_length : ∀ l : List Int, (wordsL l).length ≤ l.length
  | x0 :: x1 :: x2 :: x3 :: r => by have := wordsL_length r; simp only [wordsL, List.length_cons]; omega
  | [] => by simp [wordsL]
  | [_] => by simp [wordsL]
  | [_, _] => by simp [wordsL]
  | [_, _, _] => by simp [wordsL]
theorem fbsome {α β : Type} (a : α) (g : α → Option β) : (some a).bind g = g a := by cases h : g a <;> simp [h]
theorem more_law (a b c d : Int) (l : List Int) (hb : ∀ x ∈ l, 0 ≤ x ∧ x ≤ 255) (h4 : (l.length : Int) % 4 = 0) (hN : l.length ≤ 1048576) :
    ∃ k, quicksetref_SumMore.f k a b c d l = some ((sumL a b c d l).1, (sumL a b c d l).2.1, (sumL a b c d l).2.2.1, (sumL a b c d l).2.2.2, 0) := by
  obtain ⟨m, hm⟩ : ∃ m, l.length = 4 * m := ⟨l.length / 4, by omega⟩
  have hw := wordsL_length l
  refine ⟨m + l.length + 1, ?_⟩
  have h1 := words_at l hb hN m l.length 0 [] (by omega) rfl
  have h2 := fold_at (wordsL l) (by omega) (wordsL l).length (m + l.length - (wordsL l).length) 0 a b c d (by omega)
  rw [show (wordsL l).length + (m + l.length - (wordsL l).length) + 1 = m + l.length + 1 from by omega] at h2
  simp only [List.nil_append, Nat.mul_zero, List.drop_zero] at h1 h2
  rw [show ((0 : Nat) : Int) = 0 from rfl] at h1 h2
  rw [quicksetref_SumMore.f, quicksetref_words.f, if_pos h4, h1, fbsome, if_pos rfl, h2, fold_is]
theorem u64w (n : Int) : IntKind.u64.wrap n = n % 18446744073709551616 := by
  simp [IntKind.wrap, IntKind.signed, IntKind.bits]
theorem lowB_take : ∀ (n m : Nat) (x : Int), lowB n x = (lowB (n + m) x).take n
  | 0, _, _ => by rw [lowB, List.take_zero]
  | n + 1, m, x => by rw [show n + 1 + m = (n + m) + 1 from by omega, lowB, lowB, List.take_succ_cons, lowB_take n m]
theorem lowB_mod8 (a : Int) : lowB 8 (a % 18446744073709551616) = lowB 8 a := by
  simp only [lowB, List.cons.injEq, and_true]
  refine ⟨by omega, by omega, by omega, by omega, by omega, by omega, by omega, by omega⟩
theorem lowB_mod (n : Nat) (hn : n ≤ 8) (a : Int) : lowB n (a % 18446744073709551616) = lowB n a := by
  rw [lowB_take n (8 - n), lowB_take n (8 - n) a, show n + (8 - n) = 8 from by omega, lowB_mod8]
theorem lf_go (n : Int) : ∀ (d F : Nat) (i u : Int) (acc : List Int), 0 ≤ i → i + d = n → n ≤ 8 → d < F → 0 ≤ u → u < 18446744073709551616 → acc.length + d ≤ 100 → quicksetref_lowFirst.l0 F n u acc i = some (acc ++ lowB d u)
  | 0, F + 1, i, u, acc, h0, h1, h2, h3, h4, h5, h6 => by rw [quicksetref_lowFirst.l0, if_neg (by omega), lowB, List.append_nil]
  | d + 1, F + 1, i, u, acc, h0, h1, h2, h3, h4, h5, h6 => by
    rw [quicksetref_lowFirst.l0, if_pos (by omega), if_pos (by omega), Int.tdiv_eq_ediv_of_nonneg h4, Int.tmod_eq_emod_of_nonneg h4, u64w, wrap_id (by omega) (by omega), Int.emod_emod_of_dvd _ (Int.dvd_refl 256), Int.emod_eq_of_lt (a := u / 256) (by omega) (by omega)]
    rw [lf_go n d F (i + 1) (u / 256) (acc ++ [u % 256]) (by omega) (by omega) h2 (by omega) (by omega) (by omega) (by rw [List.length_append, List.length_singleton]; omega), lowB, List.append_assoc]
    rfl
  | _, 0, _, _, _, _, _, _, h3, _, _, _ => by omega
theorem lf (n : Nat) (hn : n ≤ 8) (F : Nat) (hF : n < F) (a : Int) : quicksetref_lowFirst.f F a (n : Int) = some (lowB n a) := by
  unfold quicksetref_lowFirst.f
  rw [u64w, lf_go n n F 0 _ [] (by omega) (by omega) (by omega) hF (by omega) (by omega) (by rw [List.length_nil]; omega), lowB_mod n hn]
  rfl
theorem sums_is (F : Nat) (hF : 8 < F) (a b c d : Int) : quicksetref_sumBytes.f F a b c d = some (lowB 8 a ++ lowB 8 b ++ lowB 8 c ++ lowB 8 d) := by
  have l8 : ∀ x, quicksetref_lowFirst.f F x 8 = some (lowB 8 x) := fun x => lf 8 (by omega) F hF x
  have n8 : ∀ x, (lowB 8 x).length = 8 := fun x => lowB_length 8 x
  unfold quicksetref_sumBytes.f
  rw [l8, l8, l8, l8]
  simp only [bsome, List.length_append, n8]
  rw [if_pos (by omega), if_pos (by omega), if_pos (by omega)]
def sum4 (a b c d : Int) : List Int := lowB 8 a ++ lowB 8 b ++ lowB 8 c ++ lowB 8 d
theorem drop_rd (l : List Int) (i : Nat) (h : i < l.length) : l.drop i = rd l (i : Int) :: l.drop (i + 1) := by
  rw [List.drop_eq_getElem_cons h]
  congr 1
  show _ = l.getD ((i : Nat) : Int).toNat 0
  rw [Int.toNat_natCast, List.getD_eq_getElem?_getD, List.getElem?_eq_getElem h]
  rfl
theorem sum4_length (a b c d : Int) : (sum4 a b c d).length = 32 := by simp [sum4, lowB_length]
theorem lb_go (fs : List Int) (hfs : fs.length = 9) (a b c d : Int) (x0 x1 x2 x3 x4 x5 x6 x7 x8 : Int) : ∀ (n i F : Nat) (acc : List Int), i + n = 9 → n + 9 < F → acc.length = 4 * i →
    quicksetref_labelBytes.l0 F acc fs 9 (i : Int) x0 x1 x2 x3 x4 x5 x6 x7 x8 a b c d = some (acc ++ (fs.drop i).flatMap (lowB 4) ++ sum4 a b c d ++ List.replicate 28 0)
  | 0, i, F + 1, acc, h1, h2, h3 => by
    have hl : ((acc ++ sum4 a b c d).length : Int) = 68 := by rw [List.length_append, sum4_length]; omega
    have hw : wrap64 (96 - 68) = 28 := (wrap_id (n := 96 - 68) (by decide) (by decide)).trans (by decide)
    have hs : quicksetref_sumBytes.f F a b c d = some (sum4 a b c d) := sums_is F (by omega) a b c d
    rw [quicksetref_labelBytes.l0, if_neg (by omega), hs, bsome, if_pos (by rw [sum4_length]; omega), bsome, hl, hw, if_pos (by decide), if_pos (by rw [List.length_append, sum4_length]; omega), List.drop_eq_nil_of_le (by omega)]
    simp
  | n + 1, i, F + 1, acc, h1, h2, h3 => by
    have hdr := drop_rd fs i (by omega)
    have h4 : quicksetref_lowFirst.f F (rd fs (i : Int)) 4 = some (lowB 4 (rd fs (i : Int))) := lf 4 (by omega) F (by omega) _
    have n4 := lowB_length 4 (rd fs (i : Int))
    rw [quicksetref_labelBytes.l0, if_pos (by omega), if_pos (by omega), if_pos (by omega), h4, bsome, if_pos (by omega), wrap_id (by omega) (by omega), show (i : Int) + 1 = ((i + 1 : Nat) : Int) from by omega,
      lb_go fs hfs a b c d x0 x1 x2 x3 x4 x5 x6 x7 x8 n (i + 1) F _ (by omega) (by omega) (by rw [List.length_append, n4]; omega), hdr, List.flatMap_cons]
    simp only [List.append_assoc]
  | _, _, 0, _, _, h2, _ => by omega
theorem lb_is (F : Nat) (hF : 18 < F) (a0_0 : Int) (a0_1 : Int) (a0_2 : Int) (a0_3 : Int) (a0_4 : Int) (a0_5 : Int) (a0_6 : Int) (a0_7 : Int) (a0_8 : Int) (a0_9 : Int) (a0_10 : Int) (a0_11 : Int) (a0_12 : Int) : quicksetref_labelBytes.f F a0_0 a0_1 a0_2 a0_3 a0_4 a0_5 a0_6 a0_7 a0_8 a0_9 a0_10 a0_11 a0_12 = some (encB a0_0 a0_1 a0_2 a0_3 a0_4 a0_5 a0_6 a0_7 a0_8 a0_9 a0_10 a0_11 a0_12) := by
  unfold quicksetref_labelBytes.f
  rw [bsome]
  have := lb_go [a0_0, a0_1, a0_2, a0_3, a0_4, a0_5, a0_6, a0_7, a0_8] rfl a0_9 a0_10 a0_11 a0_12 a0_0 a0_1 a0_2 a0_3 a0_4 a0_5 a0_6 a0_7 a0_8 9 0 F [] rfl (by omega) rfl
  refine this.trans ?_
  simp [encB, sum4]
theorem str_inj : ∀ (a b : List Int), (∀ x ∈ a, 0 ≤ x ∧ x ≤ 255) → (∀ x ∈ b, 0 ≤ x ∧ x ≤ 255) → a.map (fun n => UInt8.ofNat n.toNat) = b.map (fun n => UInt8.ofNat n.toNat) → a = b
  | [], [], _, _, _ => rfl
  | [], _ :: _, _, _, h => by simp at h
  | _ :: _, [], _, _, h => by simp at h
  | x :: a, y :: b, ha, hb, h => by
    rw [List.map_cons, List.map_cons] at h
    injection h with h1 h2
    have hx := ha x (by simp)
    have hy := hb y (by simp)
    have h3 : (UInt8.ofNat x.toNat).toNat = (UInt8.ofNat y.toNat).toNat := by rw [h1]
    have e1 : (UInt8.ofNat x.toNat).toNat = x.toNat % 256 := by simp
    have e2 : (UInt8.ofNat y.toNat).toNat = y.toNat % 256 := by simp
    rw [e1, e2] at h3
    have h4 : x = y := by omega
    rw [h4, str_inj a b (fun z hz => ha z (by simp [hz])) (fun z hz => hb z (by simp [hz])) h2]
theorem sameb_is (a b : List Int) (ha : ∀ x ∈ a, 0 ≤ x ∧ x ≤ 255) (hb : ∀ x ∈ b, 0 ≤ x ∧ x ≤ 255) : quicksetref_sameBytes.f a b = some (decide (a = b)) := by
  unfold quicksetref_sameBytes.f
  rw [ByteArray.toList_eq, ByteArray.toList_eq, strOfNums_data, strOfNums_data]
  congr 1
  rw [Bool.eq_iff_iff, beq_iff_eq, decide_eq_true_iff]
  exact ⟨str_inj a b ha hb, fun h => by rw [h]⟩
theorem lowB_numB : ∀ (l : List Int), (∀ x ∈ l, 0 ≤ x ∧ x ≤ 255) → lowB l.length (numB l) = l
  | [], _ => rfl
  | x :: l, h => by
    have hx := h x (by simp)
    rw [List.length_cons, lowB, numB, show (x + 256 * numB l) % 256 = x from by omega, show (x + 256 * numB l) / 256 = numB l from by omega, lowB_numB l (fun y hy => h y (by simp [hy]))]
theorem lowB_wrap (n : Int) : lowB 8 (wrap64 n) = lowB 8 n := by
  rw [← lowB_mod8 (wrap64 n), ← lowB_mod8 n]
  congr 1
  unfold wrap64
  omega
theorem seg_low (l : List Int) (hb : ∀ x ∈ l, 0 ≤ x ∧ x ≤ 255) (o : Nat) (ho : o + 8 ≤ l.length) : lowB 8 (dec8 l o) = (l.drop o).take 8 := by
  have hn : ((l.drop o).take 8).length = 8 := by rw [List.length_take, List.length_drop]; omega
  have h1 := lowB_numB ((l.drop o).take 8) (fun x hx => hb x (List.mem_of_mem_drop (List.mem_of_mem_take hx)))
  rw [hn] at h1
  unfold dec8
  rw [lowB_wrap, h1]
theorem numB_lowB : ∀ (k : Nat) (n : Int), ∃ q, n = numB (lowB k n) + 256 ^ k * q
  | 0, n => ⟨n, by simp [lowB, numB]⟩
  | k + 1, n => by
    obtain ⟨q, hq⟩ := numB_lowB k (n / 256)
    refine ⟨q, ?_⟩
    rw [lowB, numB, Int.pow_succ, Int.mul_comm (256 ^ k) 256, Int.mul_assoc]
    generalize (256 : Int) ^ k * q = z at *
    omega
theorem wrap_low (n : Int) (h0 : -9223372036854775808 ≤ n) (h1 : n ≤ 9223372036854775807) : wrap64 (numB (lowB 8 n)) = n := by
  obtain ⟨q, hq⟩ := numB_lowB 8 n
  rw [show (256 : Int) ^ 8 = 18446744073709551616 from by decide] at hq
  generalize numB (lowB 8 n) = m at hq ⊢
  unfold wrap64
  omega
def inR (n : Int) : Prop := -9223372036854775808 ≤ n ∧ n ≤ 9223372036854775807
theorem inR_wrap (n : Int) : inR (wrap64 n) := by unfold inR wrap64; omega
theorem sumL_range : ∀ (l : List Int) (a b c d : Int), inR a → inR b → inR c → inR d → inR (sumL a b c d l).1 ∧ inR (sumL a b c d l).2.1 ∧ inR (sumL a b c d l).2.2.1 ∧ inR (sumL a b c d l).2.2.2
  | x0 :: x1 :: x2 :: x3 :: r, a, b, c, d, _, _, _, _ => by
    rw [sumL]
    exact sumL_range r _ _ _ _ (inR_wrap _) (inR_wrap _) (inR_wrap _) (inR_wrap _)
  | [], _, _, _, _, ha, hb, hc, hd => ⟨ha, hb, hc, hd⟩
  | [_], _, _, _, _, ha, hb, hc, hd => ⟨ha, hb, hc, hd⟩
  | [_, _], _, _, _, _, ha, hb, hc, hd => ⟨ha, hb, hc, hd⟩
  | [_, _, _], _, _, _, _, ha, hb, hc, hd => ⟨ha, hb, hc, hd⟩
theorem tail_is (l : List Int) (hl : l.length = 128) (hb : ∀ x ∈ l, 0 ≤ x ∧ x ≤ 255) : sum4 (dec8 l 96) (dec8 l 104) (dec8 l 112) (dec8 l 120) = l.drop 96 := by
  unfold sum4
  rw [seg_low l hb 96 (by omega), seg_low l hb 104 (by omega), seg_low l hb 112 (by omega), seg_low l hb 120 (by omega)]
  have e1 : l.drop 104 = (l.drop 96).drop 8 := by rw [List.drop_drop]
  have e2 : l.drop 112 = ((l.drop 96).drop 8).drop 8 := by rw [List.drop_drop, List.drop_drop]
  have e3 : l.drop 120 = (((l.drop 96).drop 8).drop 8).drop 8 := by rw [List.drop_drop, List.drop_drop, List.drop_drop]
  have e4 : ((((l.drop 96).drop 8).drop 8).drop 8).length = 8 := by simp; omega
  rw [e1, e2, e3, List.take_of_length_le (Nat.le_of_eq e4)]
  rw [List.append_assoc, List.append_assoc, List.take_append_drop, List.take_append_drop, List.take_append_drop]
theorem sum_iff (l : List Int) (hl : l.length = 128) (hb : ∀ x ∈ l, 0 ≤ x ∧ x ≤ 255) (a b c d : Int) (ha : inR a) (hB : inR b) (hc : inR c) (hd : inR d) :
    sum4 a b c d = l.drop 96 ↔ (a, b, c, d) = (dec8 l 96, dec8 l 104, dec8 l 112, dec8 l 120) := by
  constructor
  · intro h
    have h0 := tail_is l hl hb
    rw [← h0] at h
    unfold sum4 at h
    have n8 := lowB_length 8
    obtain ⟨h, h4⟩ := List.append_inj h (by simp [n8])
    obtain ⟨h, h3⟩ := List.append_inj h (by simp [n8])
    obtain ⟨h1, h2⟩ := List.append_inj h (by simp [n8])
    have key : ∀ (x : Int) (o : Nat), inR x → lowB 8 x = lowB 8 (dec8 l o) → x = dec8 l o := by
      intro x o hx h
      have r2 : inR (dec8 l o) := inR_wrap _
      rw [← wrap_low x hx.1 hx.2, h, wrap_low _ r2.1 r2.2]
    rw [key a 96 ha h1, key b 104 hB h2, key c 112 hc h3, key d 120 hd h4]
  · intro h
    injection h with h1 h
    injection h with h2 h
    injection h with h3 h4
    rw [h1, h2, h3, h4]
    exact tail_is l hl hb
theorem seal_is (b : List Int) : sealL b = b ++ sum4 (sumL 0 0 0 0 b).1 (sumL 0 0 0 0 b).2.1 (sumL 0 0 0 0 b).2.2.1 (sumL 0 0 0 0 b).2.2.2 := by simp [sealL, sum4]
theorem enc_iff (l : List Int) (hl : l.length = 128) (hb : ∀ x ∈ l, 0 ≤ x ∧ x ≤ 255) (b : List Int) (hbl : b.length = 96) (hs : sumL 0 0 0 0 (l.take 96) = (dec8 l 96, dec8 l 104, dec8 l 112, dec8 l 120)) : sealL b = l ↔ b = l.take 96 := by
  rw [seal_is]
  constructor
  · intro h
    rw [← h, List.take_left' hbl]
  · intro h
    rw [h, hs, tail_is l hl hb, List.take_append_drop]
theorem ref_eq (l : List Int) (hl : l.length = 128) (hb : ∀ x ∈ l, 0 ≤ x ∧ x ≤ 255) : ∃ k, refDec k l = decR l ∧ ∃ r, decR l = some r := by
  have hl96 : (l.take 96).length = 96 := by rw [List.length_take, hl]; rfl
  obtain ⟨k1, h1⟩ := more_law 0 0 0 0 (l.take 96) (fun x hx => hb x (List.mem_of_mem_take hx)) (by rw [hl96]; decide) (by rw [hl96]; decide)
  have z : inR 0 := by unfold inR; omega
  obtain ⟨ra, rb, rc, rd⟩ := sumL_range (l.take 96) 0 0 0 0 z z z z
  obtain ⟨t, ht, hi⟩ := ref_is 0 (dec4 l 0) (dec4 l 1) (dec4 l 2) (dec4 l 3) (dec4 l 4) (dec4 l 5) (dec4 l 6) (dec4 l 7) (dec4 l 8) (dec8 l 36) (dec8 l 44) (dec8 l 52) (dec8 l 60)
  have ht2 := at_rounds (fun k => quicksetref_LabelMay.mono _ _ _ _ _ _ _ _ _ _ _ _ _ k) (show 1 ≤ k1 + 20 by omega) ht
  have h2 := at_rounds (fun k => quicksetref_SumMore.mono 0 0 0 0 (l.take 96) k) (show k1 ≤ k1 + 20 by omega) h1
  have hsb : ∀ a b c d : Int, ∀ x ∈ sum4 a b c d, 0 ≤ x ∧ x ≤ 255 := by
    intro a b c d x hx
    unfold sum4 at hx
    simp only [List.mem_append, or_assoc] at hx
    rcases hx with hx | hx | hx | hx
    all_goals exact lowB_bytes _ _ x hx
  have hsum := sum_iff l hl hb _ _ _ _ ra rb rc rd
  refine ⟨k1 + 20, ?_⟩
  unfold refDec
  rw [h2, bsome, sums_is _ (by omega), bsome]
  show ((quicksetref_sameBytes.f (sum4 _ _ _ _) (l.drop 96)).bind _ = _) ∧ _
  rw [sameb_is _ _ (hsb _ _ _ _) (fun x hx => hb x (List.mem_of_mem_drop hx)), bsome]
  by_cases hs : sumL 0 0 0 0 (l.take 96) = (dec8 l 96, dec8 l 104, dec8 l 112, dec8 l 120)
  · rw [decide_eq_true (hsum.2 hs), if_pos rfl]
    unfold decR
    rw [if_pos hs, ht2, bsome]
    have hX := enc_iff l hl hb (encB (dec4 l 0) (dec4 l 1) (dec4 l 2) (dec4 l 3) (dec4 l 4) (dec4 l 5) (dec4 l 6) (dec4 l 7) (dec4 l 8) (dec8 l 36) (dec8 l 44) (dec8 l 52) (dec8 l 60)) (encB_length _ _ _ _ _ _ _ _ _ _ _ _ _) hs
    by_cases hm : mayL (dec4 l 0) (dec4 l 1) (dec4 l 2) (dec4 l 3) (dec4 l 4) (dec4 l 5) (dec4 l 6) (dec4 l 7) (dec4 l 8)
    · rw [hi.2 hm, if_pos rfl, lb_is _ (by omega), bsome, sameb_is _ _ (encB_bytes _ _ _ _ _ _ _ _ _ _ _ _ _) (fun x hx => hb x (List.mem_of_mem_take hx)), bsome, prog_yes _ _ _ _ _ _ _ _ _ _ _ _ _ hm, bsome, if_pos rfl]
      by_cases he : encB (dec4 l 0) (dec4 l 1) (dec4 l 2) (dec4 l 3) (dec4 l 4) (dec4 l 5) (dec4 l 6) (dec4 l 7) (dec4 l 8) (dec8 l 36) (dec8 l 44) (dec8 l 52) (dec8 l 60) = l.take 96
      · have he2 := hX.2 he
        unfold encL
        rw [decide_eq_true he, if_pos rfl, if_pos he2]
        exact ⟨rfl, _, rfl⟩
      · have he2 : ¬ _ := fun h => he (hX.1 h)
        unfold encL
        rw [decide_eq_false he, if_neg (by decide), if_neg he2]
        exact ⟨rfl, _, rfl⟩
    · have htf : t = false := by
        cases t with
        | true => exact absurd (hi.1 rfl) hm
        | false => rfl
      rw [htf, if_neg (by decide), prog_no _ _ _ _ _ _ _ _ _ _ _ _ _ hm, bsome, if_neg (by decide)]
      exact ⟨rfl, _, rfl⟩
  · rw [decide_eq_false (fun h => hs (hsum.1 h)), if_neg (by decide)]
    unfold decR
    rw [if_neg hs]
    exact ⟨rfl, _, rfl⟩
theorem wfu8 {x : Int} (h : (Lit.int .u8 x).wf = true) : 0 ≤ x ∧ x ≤ 255 := by
  simp only [Lit.wf, IntKind.min, IntKind.max, IntKind.signed, IntKind.bits, Bool.and_eq_true, decide_eq_true_eq, if_true] at h
  simp at h
  omega
abbrev R14 := Int × Int × Int × Int × Int × Int × Int × Int × Int × Int × Int × Int × Int × Int
def bytesB (l : List Int) : Prop := ∀ x ∈ l, 0 ≤ x ∧ x ≤ 255
/-- What a sector's label is. -/
def decP (l : List Int) : R14 := if l.length = 128 then (decR l).getD (badR 1) else badR 1
theorem dec_prog (l : List Int) (hb : bytesB l) (k : Nat) : label_Decode.f k l = some (decP l) := by
  unfold label_Decode.f decP
  by_cases hl : l.length = 128
  · obtain ⟨_, _, r, hr⟩ := ref_eq l hl hb
    have hall : l.all (fun x => decide (0 ≤ x ∧ x ≤ 255)) = true := List.all_eq_true.2 (fun x hx => decide_eq_true (hb x hx))
    rw [if_pos hl, if_pos hall, if_pos hl, hr]
    rfl
  · rw [if_neg hl, if_neg hl]
theorem dec_ref (l : List Int) (hb : bytesB l) : ∃ k, quicksetref_LabelDecoded.f k l = some (decP l) := by
  unfold quicksetref_LabelDecoded.f decP
  by_cases hl : l.length = 128
  · obtain ⟨k, hk, r, hr⟩ := ref_eq l hl hb
    have hall : l.all (fun x => decide (0 ≤ x ∧ x ≤ 255)) = true := List.all_eq_true.2 (fun x hx => decide_eq_true (hb x hx))
    refine ⟨k, ?_⟩
    rw [if_pos hl, if_pos hall, if_pos hl, hk, hr]
    rfl
  · refine ⟨0, ?_⟩
    rw [if_neg hl, if_neg hl]
theorem dec_refs : ∀ (L : List (List Int)), (∀ l ∈ L, bytesB l) → ∃ K, ∀ k, K ≤ k → ∀ l ∈ L, quicksetref_LabelDecoded.f k l = some (decP l)
  | [], _ => ⟨0, fun _ _ _ h => by cases h⟩
  | l :: L, h => by
    obtain ⟨k1, h1⟩ := dec_ref l (h l (by simp))
    obtain ⟨K, hK⟩ := dec_refs L (fun x hx => h x (by simp [hx]))
    refine ⟨max k1 K, fun k hk x hx => ?_⟩
    rcases List.mem_cons.1 hx with rfl | hx
    · exact at_rounds (fun k => quicksetref_LabelDecoded.mono x k) (by omega) h1
    · exact hK k (by omega) x hx
def tim (x : R14) : Int := x.2.2.2.2.1
def err (x : R14) : Int := x.2.2.2.2.2.2.2.2.2.2.2.2.2
theorem dec_time (l : List Int) (h : err (decP l) = 0) : 0 ≤ tim (decP l) := by
  unfold decP at h ⊢
  by_cases hl : l.length = 128
  · rw [if_pos hl] at h ⊢
    unfold decR at h ⊢
    by_cases hs : sumL 0 0 0 0 (l.take 96) = (dec8 l 96, dec8 l 104, dec8 l 112, dec8 l 120)
    · rw [if_pos hs] at h ⊢
      by_cases hm : mayL (dec4 l 0) (dec4 l 1) (dec4 l 2) (dec4 l 3) (dec4 l 4) (dec4 l 5) (dec4 l 6) (dec4 l 7) (dec4 l 8)
      · rw [prog_yes _ _ _ _ _ _ _ _ _ _ _ _ _ hm, bsome, if_pos rfl] at h ⊢
        split
        · exact hm.2.2.2.2.2.2.2.2.2.1
        · rename_i hne
          rw [if_neg hne] at h
          exact absurd h (show ¬ (4 : Int) = 0 by decide)
      · rw [prog_no _ _ _ _ _ _ _ _ _ _ _ _ _ hm, bsome, if_neg (by decide)] at h
        exact absurd h (show ¬ (4 : Int) = 0 by decide)
    · rw [if_neg hs] at h
      exact absurd h (show ¬ (11 : Int) = 0 by decide)
  · rw [if_neg hl] at h
    exact absurd h (show ¬ (1 : Int) = 0 by decide)
def bl (k : Nat) (a : Int) (l : List (List Int)) (n i : Int) (b : R14) := label_Best.l0 k a l n i b.1 b.2.1 b.2.2.1 b.2.2.2.1 b.2.2.2.2.1 b.2.2.2.2.2.1 b.2.2.2.2.2.2.1 b.2.2.2.2.2.2.2.1 b.2.2.2.2.2.2.2.2.1 b.2.2.2.2.2.2.2.2.2.1 b.2.2.2.2.2.2.2.2.2.2.1 b.2.2.2.2.2.2.2.2.2.2.2.1 b.2.2.2.2.2.2.2.2.2.2.2.2.1
def rl (k : Nat) (l : List (List Int)) (a i : Int) (b : R14) := quicksetref_LabelBest.l0 k l a i b.1 b.2.1 b.2.2.1 b.2.2.2.1 b.2.2.2.2.1 b.2.2.2.2.2.1 b.2.2.2.2.2.2.1 b.2.2.2.2.2.2.2.1 b.2.2.2.2.2.2.2.2.1 b.2.2.2.2.2.2.2.2.2.1 b.2.2.2.2.2.2.2.2.2.2.1 b.2.2.2.2.2.2.2.2.2.2.2.1 b.2.2.2.2.2.2.2.2.2.2.2.2.1
def outR (a : Int) (b : R14) : Int × Int × Int × Int × Int × Int × Int × Int × Int × Int × Int × Int × Int × Int × Int := if a < 0 then (0, 0, 0, 0, 0, 0, 0, 0, 0, 0, 0, 0, 0, 0, 6) else (b.1, b.2.1, b.2.2.1, b.2.2.2.1, b.2.2.2.2.1, b.2.2.2.2.2.1, b.2.2.2.2.2.2.1, b.2.2.2.2.2.2.2.1, b.2.2.2.2.2.2.2.2.1, b.2.2.2.2.2.2.2.2.2.1, b.2.2.2.2.2.2.2.2.2.2.1, b.2.2.2.2.2.2.2.2.2.2.2.1, b.2.2.2.2.2.2.2.2.2.2.2.2.1, a, 0)
theorem bl_end (k : Nat) (a : Int) (l : List (List Int)) (n i : Int) (b : R14) (h : ¬ i < n) : bl (k + 1) a l n i b = some (outR a b) := by
  unfold bl outR
  rw [label_Best.l0, if_neg h]
  split <;> rfl
theorem bl_step (k : Nat) (a : Int) (l : List (List Int)) (n i : Int) (b : R14) (h : i < n) (h0 : 0 ≤ i) (hl : i < (l.length : Int)) (hw : wrap64 (i + 1) = i + 1) (hd : label_Decode.f k (rd_L1 l i) = some (decP (rd_L1 l i))) :
    bl (k + 1) a l n i b = if err (decP (rd_L1 l i)) = 0 ∧ tim (decP (rd_L1 l i)) > tim b then bl k i l n (i + 1) (decP (rd_L1 l i)) else bl k a l n (i + 1) b := by
  unfold bl
  rw [label_Best.l0, if_pos h, if_pos h0, if_pos hl, hd, bsome, hw]
  generalize decP (rd_L1 l i) = x
  unfold err tim
  by_cases h1 : x.2.2.2.2.2.2.2.2.2.2.2.2.2 = 0
  · rw [if_pos h1]
    by_cases h2 : x.2.2.2.2.1 > b.2.2.2.2.1
    · rw [if_pos h2, if_pos ⟨h1, h2⟩]
    · rw [if_neg h2, if_neg (fun h => h2 h.2)]
  · rw [if_neg h1, if_neg (fun h => h1 h.1)]
theorem rl_end (k : Nat) (l : List (List Int)) (a i : Int) (b : R14) (h : ¬ i ≥ 0) : rl (k + 1) l a i b = some (outR a b) := by
  unfold rl outR
  rw [quicksetref_LabelBest.l0, if_neg h]
  split <;> rfl
theorem rl_step (k : Nat) (l : List (List Int)) (a i : Int) (b : R14) (h0 : 0 ≤ i) (hl : i < (l.length : Int)) (hw : wrap64 (i - 1) = i - 1) (hd : quicksetref_LabelDecoded.f k (rd_L1 l i) = some (decP (rd_L1 l i))) :
    rl (k + 1) l a i b = if err (decP (rd_L1 l i)) = 0 ∧ (a < 0 ∨ tim (decP (rd_L1 l i)) ≥ tim b) then rl k l i (i - 1) (decP (rd_L1 l i)) else rl k l a (i - 1) b := by
  unfold rl
  rw [quicksetref_LabelBest.l0, if_pos h0, if_pos h0, if_pos hl, hd, bsome, hw]
  generalize decP (rd_L1 l i) = x
  unfold err tim
  by_cases h1 : x.2.2.2.2.2.2.2.2.2.2.2.2.2 = 0
  · rw [if_pos h1]
    by_cases ha : a < 0
    · rw [if_pos ha, if_pos ⟨h1, .inl ha⟩]
    · rw [if_neg ha]
      by_cases h2 : x.2.2.2.2.1 ≥ b.2.2.2.2.1
      · rw [if_pos h2, if_pos ⟨h1, .inr h2⟩]
      · rw [if_neg h2, if_neg (fun h => h.2.elim ha h2)]
  · rw [if_neg h1, if_neg (fun h => h1 h.1)]
/-- Number p is the best of those from s to n - 1. -/
def Top (X : Nat → R14) (s n : Nat) (p : Nat) : Prop := s ≤ p ∧ p < n ∧ err (X p) = 0 ∧ (∀ j, s ≤ j → j < n → err (X j) = 0 → tim (X j) ≤ tim (X p)) ∧ (∀ j, s ≤ j → j < p → err (X j) = 0 → tim (X j) < tim (X p))
def Inv (X : Nat → R14) (s n : Nat) (a : Int) (b : R14) : Prop := (a = -1 ∧ ∀ j, s ≤ j → j < n → err (X j) ≠ 0) ∨ ∃ p : Nat, a = (p : Int) ∧ b = X p ∧ Top X s n p
theorem Inv.one {X : Nat → R14} {n : Nat} {a a' : Int} {b b' : R14} (h : Inv X 0 n a b) (h' : Inv X 0 n a' b') : outR a b = outR a' b' := by
  rcases h with ⟨rfl, h⟩ | ⟨p, rfl, rfl, h0, h1, h2, h3, h4⟩
  · rcases h' with ⟨rfl, h'⟩ | ⟨q, rfl, rfl, g0, g1, g2, g3, g4⟩
    · rfl
    · exact absurd g2 (h q g0 g1)
  · rcases h' with ⟨rfl, h'⟩ | ⟨q, rfl, rfl, g0, g1, g2, g3, g4⟩
    · exact absurd h2 (h' p h0 h1)
    · have e : p = q := by
        rcases Nat.lt_trichotomy p q with hlt | he | hgt
        · have := g4 p (Nat.zero_le _) hlt h2; have := h3 q (Nat.zero_le _) g1 g2; omega
        · exact he
        · have := h4 q (Nat.zero_le _) hgt g2; have := g3 p (Nat.zero_le _) h1 h2; omega
      rw [e]
theorem bl_all (l : List (List Int)) (hl : l.length ≤ 140737488351232) (hb : ∀ x ∈ l, bytesB x) : ∀ (m i k : Nat) (a : Int) (b : R14), i + m = l.length → m < k → (a = -1 → tim b = -1) → Inv (fun j => decP (rd_L1 l (j : Int))) 0 i a b →
    ∃ a' b', bl k a l (l.length : Int) (i : Int) b = some (outR a' b') ∧ Inv (fun j => decP (rd_L1 l (j : Int))) 0 l.length a' b'
  | 0, i, k + 1, a, b, h1, h2, h3, h4 => ⟨a, b, bl_end k a l _ _ b (by omega), by rw [show l.length = i from by omega]; exact h4⟩
  | m + 1, i, k + 1, a, b, h1, h2, h3, h4 => by
    have hm : rd_L1 l (i : Int) ∈ l := by
      unfold rd_L1
      rw [Int.toNat_natCast, List.getD_eq_getElem?_getD, List.getElem?_eq_getElem (by omega)]
      exact List.getElem_mem _
    rw [bl_step k a l _ _ b (by omega) (by omega) (by omega) (by unfold wrap64; omega) (dec_prog _ (hb _ hm) k)]
    have ht := dec_time (rd_L1 l (i : Int))
    by_cases hc : err (decP (rd_L1 l (i : Int))) = 0 ∧ tim (decP (rd_L1 l (i : Int))) > tim b
    · rw [if_pos hc, show (i : Int) + 1 = ((i + 1 : Nat) : Int) from by omega]
      refine bl_all l hl hb m (i + 1) k _ _ (by omega) (by omega) (fun h => by omega) (.inr ⟨i, rfl, rfl, Nat.zero_le _, by omega, hc.1, ?_, ?_⟩)
      · intro j _ hj he
        rcases h4 with ⟨_, h⟩ | ⟨p, _, rfl, _, _, _, h5, _⟩
        · rcases Nat.lt_or_ge j i with hlt | hge
          · exact absurd he (h j (Nat.zero_le _) hlt)
          · have : j = i := by omega
            subst this; exact Int.le_refl _
        · rcases Nat.lt_or_ge j i with hlt | hge
          · have := h5 j (Nat.zero_le _) hlt he; have := hc.2; simp only at *; omega
          · have : j = i := by omega
            subst this; exact Int.le_refl _
      · intro j _ hj he
        rcases h4 with ⟨_, h⟩ | ⟨p, _, rfl, _, _, _, h5, _⟩
        · exact absurd he (h j (Nat.zero_le _) hj)
        · have := h5 j (Nat.zero_le _) hj he; have := hc.2; simp only at *; omega
    · rw [if_neg hc, show (i : Int) + 1 = ((i + 1 : Nat) : Int) from by omega]
      refine bl_all l hl hb m (i + 1) k _ _ (by omega) (by omega) h3 ?_
      rcases h4 with ⟨ha, h⟩ | ⟨p, ha, rfl, h5, h6, h7, h8, h9⟩
      · refine .inl ⟨ha, fun j _ hj he => ?_⟩
        rcases Nat.lt_or_ge j i with hlt | hge
        · exact h j (Nat.zero_le _) hlt he
        · have : j = i := by omega
          subst this
          have := ht he
          have := h3 ha
          exact hc ⟨he, by omega⟩
      · refine .inr ⟨p, ha, rfl, h5, by omega, h7, fun j _ hj he => ?_, h9⟩
        rcases Nat.lt_or_ge j i with hlt | hge
        · exact h8 j (Nat.zero_le _) hlt he
        · have : j = i := by omega
          subst this
          exact Int.not_lt.1 (fun h => hc ⟨he, h⟩)
  | _, _, 0, _, _, _, h2, _, _ => by omega
theorem rl_all (l : List (List Int)) (hl : l.length ≤ 140737488351232) (K : Nat) (hK : ∀ k, K ≤ k → ∀ x ∈ l, quicksetref_LabelDecoded.f k x = some (decP x)) : ∀ (i k : Nat) (a : Int) (b : R14), i ≤ l.length → K + i < k → Inv (fun j => decP (rd_L1 l (j : Int))) i l.length a b →
    ∃ a' b', rl k l a ((i : Int) - 1) b = some (outR a' b') ∧ Inv (fun j => decP (rd_L1 l (j : Int))) 0 l.length a' b'
  | 0, k + 1, a, b, h1, h2, h4 => ⟨a, b, rl_end k l a _ b (by omega), h4⟩
  | i + 1, k + 1, a, b, h1, h2, h4 => by
    have hm : rd_L1 l (i : Int) ∈ l := by
      unfold rd_L1
      rw [Int.toNat_natCast, List.getD_eq_getElem?_getD, List.getElem?_eq_getElem (by omega)]
      exact List.getElem_mem _
    rw [show ((i + 1 : Nat) : Int) - 1 = (i : Int) from by omega, rl_step k l a _ b (by omega) (by omega) (by unfold wrap64; omega) (hK k (by omega) _ hm)]
    by_cases hc : err (decP (rd_L1 l (i : Int))) = 0 ∧ (a < 0 ∨ tim (decP (rd_L1 l (i : Int))) ≥ tim b)
    · rw [if_pos hc]
      refine rl_all l hl K hK i k _ _ (by omega) (by omega) (.inr ⟨i, rfl, rfl, Nat.le_refl _, by omega, hc.1, ?_, fun j h5 h6 => by omega⟩)
      intro j h5 hj he
      rcases Nat.lt_or_ge i j with hlt | hge
      · rcases h4 with ⟨_, h⟩ | ⟨p, hp, rfl, _, _, _, h8, _⟩
        · exact absurd he (h j (by omega) hj)
        · have h10 := h8 j (by omega) hj he
          rcases hc.2 with h11 | h11
          · omega
          · simp only at *; omega
      · have : j = i := by omega
        subst this; exact Int.le_refl _
    · rw [if_neg hc]
      refine rl_all l hl K hK i k _ _ (by omega) (by omega) ?_
      rcases h4 with ⟨ha, h⟩ | ⟨p, ha, rfl, h5, h6, h7, h8, h9⟩
      · refine .inl ⟨ha, fun j h5 hj he => ?_⟩
        rcases Nat.lt_or_ge i j with hlt | hge
        · exact h j (by omega) hj he
        · have : j = i := by omega
          subst this
          exact hc ⟨he, .inl (by omega)⟩
      · refine .inr ⟨p, ha, rfl, by omega, h6, h7, fun j h10 hj he => ?_, fun j h10 hj he => ?_⟩
        · rcases Nat.lt_or_ge i j with hlt | hge
          · exact h8 j (by omega) hj he
          · have : j = i := by omega
            subst this
            have := fun h => hc ⟨he, .inr h⟩
            simp only at *; omega
        · rcases Nat.lt_or_ge i j with hlt | hge
          · exact h9 j (by omega) hj he
          · have : j = i := by omega
            subst this
            have := fun h => hc ⟨he, .inr h⟩
            simp only at *; omega
  | _, 0, _, _, _, h2, _ => by omega
theorem law_of (k : Nat) (l : List (List Int)) (r : Int × Int × Int × Int × Int × Int × Int × Int × Int × Int × Int × Int × Int × Int × Int) (h1 : label_Best.f k l = some r) (h2 : quicksetref_LabelBest.f k l = some r) : quicksetlaw_LabelBests.f k l = some true := by
  unfold quicksetlaw_LabelBests.f
  rw [h1, bsome, h2, bsome, if_pos (by simp), if_pos rfl]
  simp
theorem LabelBests (l0 : List (List Int)) (hsz : l0.length * 24 ≤ 140737488351232) (hw : ∀ x ∈ l0, (x.length * 1 ≤ 140737488351232 ∧ ∀ y ∈ x, (Lit.int .u8 y).wf = true)) : ∃ k, quicksetlaw_LabelBests.f k l0 = some true := by
  have hb : ∀ x ∈ l0, bytesB x := fun x hx y hy => wfu8 ((hw x hx).2 y hy)
  have hl : l0.length ≤ 140737488351232 := by omega
  obtain ⟨K, hK⟩ := dec_refs l0 hb
  obtain ⟨a, b, h1, h2⟩ := bl_all l0 hl hb l0.length 0 (K + l0.length + 1) (-1) (0, 0, 0, 0, -1, 0, 0, 0, 0, 0, 0, 0, 0, 0) (by omega) (by omega) (fun _ => rfl) (.inl ⟨rfl, fun j _ hj => by omega⟩)
  obtain ⟨a', b', h3, h4⟩ := rl_all l0 hl K hK l0.length (K + l0.length + 1) (-1) (0, 0, 0, 0, 0, 0, 0, 0, 0, 0, 0, 0, 0, 0) (Nat.le_refl _) (by omega) (.inl ⟨rfl, fun j hj hj2 => by omega⟩)
  refine ⟨K + l0.length + 1, law_of _ l0 (outR a b) ?_ ?_⟩
  · unfold label_Best.f
    exact h1
  · unfold quicksetref_LabelBest.f
    rw [show wrap64 ((l0.length : Int) - 1) = (l0.length : Int) - 1 from by unfold wrap64; omega, Inv.one h2 h4]
    exact h3
end Go.Proofs.Ythnchojddoefiaa.Pure
