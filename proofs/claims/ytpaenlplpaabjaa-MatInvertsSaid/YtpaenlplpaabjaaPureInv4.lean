/- The inverse's rows, as the solver's columns make them. Plain lists; no conditions. -/
import Derived.Test.YtpaenlplpaabjaaPureInv3
set_option linter.unusedVariables false
set_option linter.unusedSimpArgs false
namespace Go.Proofs.Ytpaenlplpaabjaa.QMatInverts
open Go.RowKit Go.Proofs.YtpaenlplpaabjaaW.PrintWords Go.Proofs.YtpaenlplpaabjaaW.PrintLast Go.Proofs.YtpaenlplpaabjaaW.PrintMore
open Go.Proofs.Ytpaenlplpaabjaa.MatB Go.Proofs.Ytpaenlplpaabjaa.Det
theorem rowsOf_eq (R : Mx) (n : Nat) : ∀ i, rowsOf R n i = (List.range i).map (rowOf R n)
  | 0 => rfl
  | i + 1 => by
    rw [rowsOf, rowsOf_eq R n i, List.range_succ, List.map_append]
    rfl
theorem listM_rows {X R : Mx} {n : Nat} (h : ∀ i j, i < n → j < n → X i j = R i (n + j)) : listM X n n = rowsOf R n n := by
  rw [rowsOf_eq]
  unfold listM rowOf
  refine List.map_congr_left (fun i hi => List.map_congr_left (fun j hj => ?_))
  rw [h i j (List.mem_range.1 hi) (List.mem_range.1 hj)]
theorem bes_small {n : Nat} {M : List (List Int)} (h : squ n M) : small (natM (bes M n n)) := natM_small _ (fun x hx => by
  obtain ⟨i, hi, rfl⟩ := bes_mem M n n x hx
  exact besRow_el _ _ _ (h.2.2 _ (L1_mem i (by rw [h.1]; exact hi))))
theorem inv_rows {n : Nat} {M : List (List Int)} {R' : Mx} (h : squ n M) (hR : small R') (hr : redRun n (n + n) n 0 0 (natM (bes M n n)) = (n, R')) : listM (fun i k => cram n (natM M) (fun a => dlt a k) i) n n = rowsOf R' n n :=
  listM_rows (fun i k hi hk => by
    rw [cram_inv (bes_small h) (fun r j hr hj => bes_left h r j hr hj) (fun r k hr hk => bes_right h r k hr hk) hr (fun a => dlt a k) (fun q => by unfold dlt; split <;> decide) i hi, fn_unit hR hk])
end Go.Proofs.Ytpaenlplpaabjaa.QMatInverts
