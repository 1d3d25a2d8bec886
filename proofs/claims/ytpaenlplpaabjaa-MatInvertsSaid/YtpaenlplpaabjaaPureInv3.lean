/- Both ways of the reference's solver say what the inverse says. Plain numbers; no conditions. -/
import Derived.Test.YtpaenlplpaabjaaMatX
set_option linter.unusedVariables false
set_option linter.unusedSimpArgs false
namespace Go.Proofs.Ytpaenlplpaabjaa.Det
open Go.Proofs.Ytpaenlplpaabjaa.QMatInverts Go.RowKit Go.Proofs.YtpaenlplpaabjaaW.PrintWords Go.Proofs.YtpaenlplpaabjaaW.PrintLast Go.Proofs.YtpaenlplpaabjaaW.PrintMore
open Go.Proofs.Ytpaenlplpaabjaa.MatB
theorem cram_inv {n : Nat} {A W R' : Mx} (hW : small W) (hA : ∀ r j, r < n → j < n → W r j = A r j) (hI : ∀ r k, r < n → k < n → W r (n + k) = dlt r k) (h : redRun n (n + n) n 0 0 W = (n, R')) (v : Nat → Nat) (hv : ∀ k, v k < 256) (i : Nat) (hi : i < n) : cram n A v i = fn n n v R' i := by
  obtain ⟨_, _, _, h4⟩ := inverse_of hW hA hI h
  rw [h4 v hv i hi]
  unfold cram
  rw [det_congr n (colR A i n v) (fun r j => if j = i then v r else A r j) (fun r j hr hj => by
    unfold colR
    by_cases e : j = i
    · rw [if_pos ⟨e, hr⟩, if_pos e]
    · rw [if_neg (fun h => e h.1), if_neg e])]
theorem solE_inv {n : Nat} {A W R' V : Mx} (hW : small W) (hA : ∀ r j, r < n → j < n → W r j = A r j) (hI : ∀ r k, r < n → k < n → W r (n + k) = dlt r k) (h : redRun n (n + n) n 0 0 W = (n, R')) (hV : small V) (hVA : ∀ r j, r < n → j < n → V r j = A r j) (v : Nat → Nat) (hv : ∀ k, v k < 256) (hVv : ∀ r, r < n → V r n = v r)
    (hrank : swRun n n n 0 0 A = n) (i : Nat) (hi : i < n) : solE n V i = fn n n v R' i := by
  obtain ⟨_, _, h3, _⟩ := inverse_of hW hA hI h
  obtain ⟨g1, g2⟩ := solE_ok hV hVA hrank
  exact (h3 (solE n V) v g1 hv).1 (fun r hr => by rw [g2 r hr, hVv r hr]) i hi
theorem fn_unit {n k : Nat} {R' : Mx} (hR : small R') (hk : k < n) (i : Nat) : fn n n (fun q => dlt q k) R' i = R' i (n + k) := by
  have e0 : ∀ q, q ≠ k → dlt q k = 0 := fun q hq => by unfold dlt; rw [if_neg hq]
  have e1 : dlt k k = 1 := by unfold dlt; rw [if_pos rfl]
  unfold fn
  rw [sumX_one hk (fun q _ hq => by show Gf.mul (R' i (n + q)) (dlt q k) = 0; rw [e0 q hq, Gf.mul_zero (hR _ _)])]
  show Gf.mul (R' i (n + k)) (dlt k k) = _
  rw [e1, Gf.mul_one (hR _ _)]
theorem det_ne {n : Nat} {A W R' : Mx} (hW : small W) (hA : ∀ r j, r < n → j < n → W r j = A r j) (hI : ∀ r k, r < n → k < n → W r (n + k) = dlt r k) (h : redRun n (n + n) n 0 0 W = (n, R')) : det n A ≠ 0 := (inverse_of hW hA hI h).2.1
/-! ### A matrix with the one beside it, as plain numbers -/
theorem bes_take (l : List (List Int)) (more : Nat) : ∀ k i, i < k → (bes l more k).getD i [] = besRow (rd_L1 l (i : Int)) more i
  | 0, i, h => absurd h (Nat.not_lt_zero _)
  | k + 1, i, h => by
    rw [bes, List.getD_eq_getElem?_getD]
    by_cases e : i = k
    · subst e
      rw [List.getElem?_append_right (by rw [bes_len]; exact Nat.le_refl _), bes_len, Nat.sub_self]
      rfl
    · rw [List.getElem?_append_left (by rw [bes_len]; omega), ← List.getD_eq_getElem?_getD]
      exact bes_take l more k i (by omega)
theorem bes_left {n : Nat} {M : List (List Int)} (h : squ n M) (r j : Nat) (hr : r < n) (hj : j < n) : natM (bes M n n) r j = natM M r j := by
  have hl : (rd_L1 M (r : Int)).length = n := h.2.1 _ (L1_mem r (by rw [h.1]; exact hr))
  have e : (besRow (rd_L1 M (r : Int)) n r).getD j 0 = (rd_L1 M (r : Int)).getD j 0 := by
    unfold besRow
    rw [if_pos (by omega), List.getD_eq_getElem?_getD, List.getElem?_set_ne (by omega), List.getElem?_append_left (by omega), List.getD_eq_getElem?_getD]
  unfold natM
  rw [bes_take M n n r hr, e]
  unfold rd_L1
  rw [Int.toNat_natCast]
theorem bes_right {n : Nat} {M : List (List Int)} (h : squ n M) (r k : Nat) (hr : r < n) (hk : k < n) : natM (bes M n n) r (n + k) = dlt r k := by
  have hl : (rd_L1 M (r : Int)).length = n := h.2.1 _ (L1_mem r (by rw [h.1]; exact hr))
  unfold natM
  rw [bes_take M n n r hr]
  unfold besRow dlt
  rw [if_pos (by omega), List.getD_eq_getElem?_getD, hl, List.getElem?_set]
  by_cases e : r = k
  · subst e
    rw [if_pos rfl, if_pos (by rw [List.length_append, List.length_replicate]; omega), if_pos rfl]
    rfl
  · rw [if_neg (by omega), List.getElem?_append_right (by omega), hl, Nat.add_sub_cancel_left, List.getElem?_replicate, if_pos hk, if_neg e]
    rfl
end Go.Proofs.Ytpaenlplpaabjaa.Det
