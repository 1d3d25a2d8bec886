/- The reference's determinant over lists is the determinant over plain numbers; no conditions. -/
import Derived.Test.YtpaenlplpaabjaaPureInv
set_option linter.unusedVariables false
set_option linter.unusedSimpArgs false
namespace Go.Proofs.Ytpaenlplpaabjaa.Det
open Go.Proofs.Ytpaenlplpaabjaa.QMatInverts Go.RowKit Go.Proofs.YtpaenlplpaabjaaW.PrintWords Go.Proofs.YtpaenlplpaabjaaW.PrintLast Go.Proofs.YtpaenlplpaabjaaW.PrintMore
open Go.RowKit Go.Proofs.YtpaenlplpaabjaaW.PrintWords Go.Proofs.YtpaenlplpaabjaaW.PrintLast Go.Proofs.Ytpaenlplpaabjaa.MatB
def squ (n : Nat) (M : List (List Int)) : Prop := M.length = n ∧ (∀ x ∈ M, x.length = n) ∧ ∀ x ∈ M, x.all elB = true
theorem natM_at {n : Nat} {M : List (List Int)} (h : squ n M) (i j : Nat) (hi : i < n) (hj : j < n) : rd (rd_L1 M (i : Int)) (j : Int) = ((natM M i j : Nat) : Int) := by
  have := (natM_el M h.2.2 i j).1
  rw [← this]
  unfold rd_L1
  rw [Int.toNat_natCast]
  show List.getD _ ((j : Nat) : Int).toNat 0 = _
  rw [Int.toNat_natCast]
def minorTo (M : List (List Int)) (i : Nat) : Nat → List (List Int)
  | 0 => []
  | j + 1 => if j = i then minorTo M i j else minorTo M i j ++ [(rd_L1 M (j : Int)).drop 1]
theorem minorTo_len (M : List (List Int)) (i : Nat) : ∀ j, (minorTo M i j).length = if j ≤ i then j else j - 1
  | 0 => by rw [if_pos (Nat.zero_le _)]; rfl
  | j + 1 => by
    rw [minorTo]
    split
    · rename_i e
      subst e
      rw [minorTo_len M j j, if_pos (Nat.le_refl _), if_neg (by omega), Nat.add_sub_cancel]
    · rename_i e
      rw [List.length_append, List.length_singleton, minorTo_len M i j]
      by_cases h : j ≤ i
      · rw [if_pos h, if_pos (by omega)]
      · rw [if_neg h, if_neg (by omega)]; omega
theorem minorTo_get (M : List (List Int)) (i : Nat) : ∀ j r, r < (minorTo M i j).length → (minorTo M i j)[r]? = some ((rd_L1 M ((skip i r : Nat) : Int)).drop 1)
  | 0, r, h => absurd h (Nat.not_lt_zero _)
  | j + 1, r, h => by
    have hl := minorTo_len M i j
    rw [minorTo] at h ⊢
    split at h
    · rename_i e
      rw [if_pos e]
      exact minorTo_get M i j r h
    · rename_i e
      rw [if_neg e]
      rw [List.length_append, List.length_singleton] at h
      by_cases h1 : r < (minorTo M i j).length
      · rw [List.getElem?_append_left h1]
        exact minorTo_get M i j r h1
      · have e2 : r = (minorTo M i j).length := by omega
        have e3 : skip i r = j := by
          rw [e2, hl]
          unfold skip
          by_cases h2 : j ≤ i
          · rw [if_pos h2, if_pos (by omega)]
          · rw [if_neg h2, if_neg (by omega)]; omega
        rw [List.getElem?_append_right (by omega), e2, Nat.sub_self, ← e2, e3]
        rfl
theorem minor_squ {n : Nat} {M : List (List Int)} (h : squ (n + 1) M) (i : Nat) (hi : i < n + 1) : squ n (minorTo M i (n + 1)) ∧ ∀ r c, r < n → c < n → natM (minorTo M i (n + 1)) r c = minor (natM M) i r c := by
  have hl : (minorTo M i (n + 1)).length = n := by rw [minorTo_len, if_neg (by omega), Nat.add_sub_cancel]
  have hmem : ∀ x ∈ minorTo M i (n + 1), ∃ q, q < n + 1 ∧ x = (rd_L1 M (q : Int)).drop 1 := by
    intro x hx
    obtain ⟨r, hr, e⟩ := List.getElem_of_mem hx
    have h2 := minorTo_get M i (n + 1) r hr
    rw [List.getElem?_eq_getElem hr] at h2
    exact ⟨skip i r, skip_lt (by omega) hi, by rw [← e]; exact Option.some.inj h2⟩
  have hin : ∀ q, q < n + 1 → rd_L1 M (q : Int) ∈ M := fun q hq => L1_mem q (by rw [h.1]; exact hq)
  refine ⟨⟨hl, fun x hx => ?_, fun x hx => ?_⟩, fun r c hr hc => ?_⟩
  · obtain ⟨q, hq, rfl⟩ := hmem x hx
    rw [List.length_drop, h.2.1 _ (hin q hq), Nat.add_sub_cancel]
  · obtain ⟨q, hq, rfl⟩ := hmem x hx
    rw [List.all_eq_true]
    intro y hy
    exact List.all_eq_true.1 (h.2.2 _ (hin q hq)) y (List.mem_of_mem_drop hy)
  · have h2 := minorTo_get M i (n + 1) r (by rw [hl]; exact hr)
    have hr2 : (minorTo M i (n + 1)).getD r [] = (M.getD (skip i r) []).drop 1 := by
      rw [List.getD_eq_getElem?_getD, h2]
      unfold rd_L1
      rw [Int.toNat_natCast]
      rfl
    show (((minorTo M i (n + 1)).getD r []).getD c 0).toNat = ((M.getD (skip i r) []).getD (c + 1) 0).toNat
    rw [hr2]
    congr 1
    simp only [List.getD_eq_getElem?_getD, List.getElem?_drop, Nat.add_comm 1 c]
theorem det_up {k k' : Nat} (h : k ≤ k') {M : List (List Int)} {r : Int} (h1 : quicksetref_det.f k M = some r) : quicksetref_det.f k' M = some r := at_rounds (fun q => (quicksetref_det.mono_l q).1 _) h h1
theorem det_up0 {k k' : Nat} (h : k ≤ k') {M : List (List Int)} {a b c r : Int} (h1 : quicksetref_det.l0 k M a b c = some r) : quicksetref_det.l0 k' M a b c = some r := at_rounds (fun q => (quicksetref_det.mono_l q).2.1 _ _ _ _) h h1
theorem l0_end {k : Nat} {M : List (List Int)} {x3 n i : Int} (h : ¬ i < n) : quicksetref_det.l0 (k + 1) M x3 n i = some x3 := by
  rw [quicksetref_det.l0, if_neg h]
theorem l0_skip {k : Nat} {M : List (List Int)} {x3 n i : Int} (h : i < n) (h0 : 0 ≤ i) (h1 : i < (M.length : Int)) (h2 : 0 < ((rd_L1 M i).length : Int)) (h3 : rd (rd_L1 M i) 0 = 0) : quicksetref_det.l0 (k + 1) M x3 n i = quicksetref_det.l0 k M x3 n (wrap64 (i + 1)) := by
  rw [quicksetref_det.l0, if_pos h, if_pos h0, if_pos h1, if_pos h2, if_pos h3]
theorem l0_go {k : Nat} {M : List (List Int)} {x3 n i : Int} (h : i < n) (h0 : 0 ≤ i) (h1 : i < (M.length : Int)) (h2 : 0 < ((rd_L1 M i).length : Int)) (h3 : ¬ rd (rd_L1 M i) 0 = 0) : quicksetref_det.l0 (k + 1) M x3 n i = quicksetref_det.l1 k M x3 i ([] : List (List Int)) n i (M.length : Int) 0 := by
  rw [quicksetref_det.l0, if_pos h, if_pos h0, if_pos h1, if_pos h2, if_neg h3]
theorem l1_skip {k : Nat} {M X : List (List Int)} {x3 i n e z j : Int} (h : j < e) (h0 : j = i) : quicksetref_det.l1 (k + 1) M x3 i X n z e j = quicksetref_det.l1 k M x3 i X n z e (wrap64 (j + 1)) := by
  rw [quicksetref_det.l1, if_pos h, if_pos h0]
theorem l1_add {k : Nat} {M X : List (List Int)} {x3 i n e z j : Int} (h : j < e) (h0 : ¬ j = i) (h1 : 0 ≤ j) (h2 : j < (M.length : Int)) (h3 : 1 ≤ ((rd_L1 M j).length : Int)) (h4 : X.length < 5864062014805) : quicksetref_det.l1 (k + 1) M x3 i X n z e j = quicksetref_det.l1 k M x3 i (X ++ [((rd_L1 M j).drop 1)]) n z e (wrap64 (j + 1)) := by
  rw [quicksetref_det.l1, if_pos h, if_neg h0, if_pos h1, if_pos h2, if_pos h3, if_pos h4]
theorem l1_end {k : Nat} {M X : List (List Int)} {x3 i n e z j : Int} (h : ¬ j < e) (h1 : 0 ≤ i) (h2 : i < (M.length : Int)) (h3 : 0 < ((rd_L1 M i).length : Int)) {d q : Int} (hd : quicksetref_det.f k X = some d) (hq : quicksetref_mulOf.f k (rd (rd_L1 M i) 0) d = some q) : quicksetref_det.l1 (k + 1) M x3 i X n z e j = quicksetref_det.l0 k M (Go.bits .xor .i64 x3 q) n (wrap64 (z + 1)) := by
  rw [quicksetref_det.l1, if_neg h, if_pos h1, if_pos h2, if_pos h3, hd, bsome, hq, bsome]
theorem f_one {k : Nat} {M : List (List Int)} (h : (M.length : Int) = 1) (h1 : 0 < ((rd_L1 M 0).length : Int)) : quicksetref_det.f (k + 1) M = some (rd (rd_L1 M 0) 0) := by
  rw [quicksetref_det.f, if_pos h, if_pos (by omega), if_pos h1]
theorem f_more {k : Nat} {M : List (List Int)} (h : ¬ (M.length : Int) = 1) : quicksetref_det.f (k + 1) M = quicksetref_det.l0 k M 0 (M.length : Int) 0 := by
  rw [quicksetref_det.f, if_neg h]
def term (n : Nat) (M : Mx) (i : Nat) : Nat := Gf.mul (M i 0) (det n (minor M i))
theorem det_term (n : Nat) (M : Mx) : det (n + 1) M = sumX (term n M) (n + 1) := rfl
theorem det_inner {n k kd : Nat} {M : List (List Int)} (h : squ (n + 1) M) (i : Nat) (hi : i < n + 1) (h8 : n + 1 ≤ 8) (x3 : Nat) (hx3 : x3 < 256) (r : Int) (hkd : quicksetref_det.f kd (minorTo M i (n + 1)) = some ((det n (minor (natM M) i) : Nat) : Int))
    (hk : quicksetref_det.l0 k M ((x3 ^^^ term n (natM M) i : Nat) : Int) ((n + 1 : Nat) : Int) ((i + 1 : Nat) : Int) = some r) :
    ∀ e j, j + e = n + 1 → ∃ k, quicksetref_det.l1 k M (x3 : Int) (i : Int) (minorTo M i j) ((n + 1 : Nat) : Int) (i : Int) ((n + 1 : Nat) : Int) (j : Int) = some r
  | 0, j, hj => by
    obtain rfl : j = n + 1 := by omega
    obtain ⟨k3, hk3⟩ : ∃ k3, k3 = max (max kd k) 17 := ⟨_, rfl⟩
    have g1 := det_up (k' := k3) (by omega) hkd
    have g2 := det_up0 (k' := k3) (by omega) hk
    have hs := natM_small M h.2.2
    have hmem : rd_L1 M (i : Int) ∈ M := L1_mem i (by rw [h.1]; exact hi)
    have hl := h.2.1 _ hmem
    have hd256 := det_lt n _ (small_minor hs i)
    have hq : quicksetref_mulOf.f k3 (rd (rd_L1 M (i : Int)) 0) ((det n (minor (natM M) i) : Nat) : Int) = some ((term n (natM M) i : Nat) : Int) := by
      have e0 := natM_at h i 0 hi (by omega)
      rw [show rd (rd_L1 M (i : Int)) 0 = ((natM M i 0 : Nat) : Int) from e0, mulof_is (hs i 0) hd256 (by omega)]
      rfl
    have ht : term n (natM M) i < 256 := Gf.mul_lt (hs i 0) _
    refine ⟨k3 + 1, ?_⟩
    rw [l1_end (by omega) (by omega) (by rw [h.1]; omega) (by rw [hl]; omega) g1 hq, bxor (by omega) (by omega), wrap_suc i (by omega)]
    exact g2
  | e + 1, j, hj => by
    obtain ⟨k2, hk2⟩ := det_inner h i hi h8 x3 hx3 r hkd hk e (j + 1) (by omega)
    refine ⟨k2 + 1, ?_⟩
    rw [minorTo] at hk2
    by_cases hji : j = i
    · rw [if_pos hji] at hk2
      rw [l1_skip (by omega) (by omega), wrap_suc j (by omega)]
      exact hk2
    · rw [if_neg hji] at hk2
      have hmem : rd_L1 M (j : Int) ∈ M := L1_mem j (by rw [h.1]; omega)
      have hl := h.2.1 _ hmem
      have hml := minorTo_len M i j
      have hml2 : (minorTo M i j).length ≤ j := by rw [hml]; split <;> omega
      rw [l1_add (by omega) (by omega) (by omega) (by rw [h.1]; omega) (by rw [hl]; omega) (by omega), wrap_suc j (by omega)]
      exact hk2
theorem det_outer {n : Nat} {M : List (List Int)} (h : squ (n + 1) M) (h8 : n + 1 ≤ 8) (hm : ∀ i, i < n + 1 → ∃ k, quicksetref_det.f k (minorTo M i (n + 1)) = some ((det n (minor (natM M) i) : Nat) : Int)) :
    ∀ d i, i + d = n + 1 → ∃ k, quicksetref_det.l0 k M ((sumX (term n (natM M)) i : Nat) : Int) ((n + 1 : Nat) : Int) (i : Int) = some ((det (n + 1) (natM M) : Nat) : Int)
  | 0, i, hi => by
    obtain rfl : i = n + 1 := by omega
    exact ⟨1, by rw [l0_end (by omega), det_term]⟩
  | d + 1, i, hi => by
    obtain ⟨k, hk⟩ := det_outer h h8 hm d (i + 1) (by omega)
    have hs := natM_small M h.2.2
    have hmem : rd_L1 M (i : Int) ∈ M := L1_mem i (by rw [h.1]; omega)
    have hl := h.2.1 _ hmem
    have e0 : rd (rd_L1 M (i : Int)) 0 = ((natM M i 0 : Nat) : Int) := natM_at h i 0 (by omega) (by omega)
    rw [sumX] at hk
    by_cases hz : natM M i 0 = 0
    · have ht : term n (natM M) i = 0 := by unfold term; rw [hz, Gf.zero_mul]
      rw [ht, Nat.xor_zero] at hk
      refine ⟨k + 1, ?_⟩
      rw [l0_skip (by omega) (by omega) (by rw [h.1]; omega) (by rw [hl]; omega) (by rw [e0, hz]; rfl), wrap_suc i (by omega)]
      exact hk
    · obtain ⟨kd, hkd⟩ := hm i (by omega)
      obtain ⟨k4, hk4⟩ := det_inner h i (by omega) h8 _ (sumX_lt (fun q _ => Gf.mul_lt (hs q 0) _)) _ hkd hk (n + 1) 0 (by omega)
      refine ⟨k4 + 1, ?_⟩
      rw [l0_go (by omega) (by omega) (by rw [h.1]; omega) (by rw [hl]; omega) (by rw [e0]; omega), h.1]
      exact hk4
theorem det_is : ∀ (n : Nat) (M : List (List Int)), squ n M → 1 ≤ n → n ≤ 8 → ∃ k, quicksetref_det.f k M = some ((det n (natM M) : Nat) : Int)
  | 0, _, _, h, _ => absurd h (by decide)
  | 1, M, h, _, _ => by
    have hmem : rd_L1 M ((0 : Nat) : Int) ∈ M := L1_mem 0 (by rw [h.1]; decide)
    have hr : (rd_L1 M 0).length = 1 := h.2.1 _ hmem
    have e : rd (rd_L1 M 0) 0 = ((natM M 0 0 : Nat) : Int) := natM_at h 0 0 (by decide) (by decide)
    have e2 : det 1 (natM M) = natM M 0 0 := by
      rw [det, sumX, sumX, det, Gf.mul_one (natM_small M h.2.2 0 0), Nat.zero_xor]
    exact ⟨1, by rw [f_one (by rw [h.1]; rfl) (by rw [hr]; decide), e, e2]⟩
  | n + 2, M, h, _, h8 => by
    obtain ⟨k, hk⟩ := det_outer h h8 (fun i hi => by
      obtain ⟨hsq, hmin⟩ := minor_squ h i hi
      obtain ⟨kd, hkd⟩ := det_is (n + 1) _ hsq (by omega) (by omega)
      exact ⟨kd, by rw [hkd, det_congr _ _ _ hmin]⟩) (n + 2) 0 (by omega)
    refine ⟨k + 1, ?_⟩
    rw [f_more (by rw [h.1]; omega), h.1]
    exact hk
end Go.Proofs.Ytpaenlplpaabjaa.Det
