/- What Invert leaves is the inverse: the system's answers, and Cramer's rule; the ranks of both sides are one. Plain numbers; no conditions. -/
import Derived.Test.YtpaenlplpaabjaaPureDetL
set_option linter.unusedVariables false
set_option linter.unusedSimpArgs false
namespace Go.Proofs.Ytpaenlplpaabjaa.Det
open Go.Proofs.Ytpaenlplpaabjaa.QMatInverts Go.RowKit Go.Proofs.YtpaenlplpaabjaaW.PrintWords Go.Proofs.YtpaenlplpaabjaaW.PrintLast Go.Proofs.YtpaenlplpaabjaaW.PrintMore
open Go.Proofs.Ytpaenlplpaabjaa.MatB
theorem sum_dlt {y : Nat → Nat} (hy : ∀ k, y k < 256) {n r : Nat} (hr : r < n) : sumX (fun k => Gf.mul (dlt r k) (y k)) n = y r := by
  rw [sumX_one hr (fun k _ hkr => by unfold dlt; rw [if_neg (Ne.symm hkr), Gf.zero_mul])]
  unfold dlt
  rw [if_pos rfl, Gf.one_mul (hy r)]
theorem inverse_of {n : Nat} {A W R' : Mx} (hW : small W) (hA : ∀ r j, r < n → j < n → W r j = A r j) (hI : ∀ r k, r < n → k < n → W r (n + k) = dlt r k) (h : redRun n (n + n) n 0 0 W = (n, R')) :
    small R' ∧ det n A ≠ 0 ∧ (∀ x v : Nat → Nat, (∀ k, x k < 256) → (∀ k, v k < 256) → ((∀ r, r < n → sumX (fun j => Gf.mul (A r j) (x j)) n = v r) ↔ ∀ r, r < n → x r = fn n n v R' r)) ∧
    ∀ v : Nat → Nat, (∀ k, v k < 256) → ∀ i, i < n → fn n n v R' i = Gf.div (det n (fun r j => if j = i then v r else A r j)) (det n A) := by
  obtain ⟨hR, hU, ⟨s, hs0, hs, hd⟩, hh⟩ := run_inv n (n + n) (Nat.le_refl _) n 0 W R' (by omega) hW (fun r k _ hk => absurd hk (Nat.not_lt_zero _)) h
  have hW2 : ∀ v : Nat → Nat, (∀ k, v k < 256) → ∀ r, r < n → fn n n v W r = v r := fun v hv r hr => by
    unfold fn
    rw [← sum_dlt hv hr]
    exact sumX_congr (fun k hk => by rw [hI r k hr hk])
  have hdW : ∀ (i : Nat) (v : Nat → Nat), (∀ k, v k < 256) → det n (ext n i v W) = det n (fun r j => if j = i then v r else A r j) := fun i v hv => det_congr n _ _ (fun r j hr hj => by
    unfold ext
    by_cases e : j = i
    · rw [if_pos e, if_pos e, hW2 v hv r hr]
    · rw [if_neg e, if_neg e, hA r j hr hj])
  have hdR : ∀ (i : Nat) (v : Nat → Nat), (∀ k, v k < 256) → det n (ext n i v R') = if i < n then fn n n v R' i else 1 := fun i v hv => by
    rw [← det_unit n i (fn n n v R') (fun k => fn_lt hR k)]
    refine det_congr n _ _ (fun r j hr hj => ?_)
    unfold ext
    by_cases e : j = i
    · rw [if_pos e, if_pos e]
    · rw [if_neg e, if_neg e, hU r j hr hj]
  have hA1 : Gf.mul s (det n A) = 1 := by
    have h1 := hd n (fun _ => 0) (fun _ => by decide)
    rw [hdR _ _ (fun _ => by decide), if_neg (Nat.lt_irrefl _), hdW _ _ (fun _ => by decide)] at h1
    rw [h1]
    congr 1
    exact det_congr n _ _ (fun r j hr hj => by rw [if_neg (show ¬ j = n by omega)])
  have hAs : small (fun r j => if r < n ∧ j < n then A r j else 0) := fun r j => by
    show (if r < n ∧ j < n then A r j else 0) < 256
    split
    · rename_i e; rw [← hA r j e.1 e.2]; exact hW r j
    · decide
  have hdA : det n A < 256 := by
    rw [det_congr n A (fun r j => if r < n ∧ j < n then A r j else 0) (fun r j hr hj => by rw [if_pos ⟨hr, hj⟩])]
    exact det_lt n _ hAs
  have hA0 : det n A ≠ 0 := fun e => by rw [e, Gf.mul_zero hs] at hA1; omega
  refine ⟨hR, hA0, fun x v hx hv => ?_, fun v hv i hi => ?_⟩
  · have h1 := hh x v hx hv
    have e1 : hold n x v W ↔ ∀ r, r < n → sumX (fun j => Gf.mul (A r j) (x j)) n = v r := by
      have e : ∀ r, r < n → fn n 0 x W r = sumX (fun j => Gf.mul (A r j) (x j)) n := fun r hr => sumX_congr (fun k hk => by rw [Nat.zero_add, hA r k hr hk])
      constructor
      · intro h2 r hr; rw [← e r hr, h2 r hr, hW2 v hv r hr]
      · intro h2 r hr; rw [e r hr, h2 r hr, hW2 v hv r hr]
    have e2 : hold n x v R' ↔ ∀ r, r < n → x r = fn n n v R' r := by
      have e : ∀ r, r < n → fn n 0 x R' r = x r := fun r hr => by
        rw [← sum_dlt hx hr]
        exact sumX_congr (fun k hk => by rw [Nat.zero_add, hU r k hr hk])
      constructor
      · intro h2 r hr; rw [← e r hr]; exact h2 r hr
      · intro h2 r hr; rw [e r hr]; exact h2 r hr
    rw [← e1, ← e2]
    exact h1.symm
  · have h1 := hd i v hv
    rw [hdR i v hv, if_pos hi, hdW i v hv] at h1
    refine Gf.div_unique (fn_lt hR i) (Nat.pos_of_ne_zero hA0) hdA ?_
    have hD : det n (fun r j => if j = i then v r else A r j) < 256 := by
      rw [det_congr n _ (fun r j => if r < n ∧ j < n then (if j = i then v r else A r j) else 0) (fun r j hr hj => by
        show _ = (if r < n ∧ j < n then (if j = i then v r else A r j) else 0)
        rw [if_pos (show r < n ∧ j < n from ⟨hr, hj⟩)])]
      refine det_lt n _ (fun r j => ?_)
      show (if r < n ∧ j < n then (if j = i then v r else A r j) else 0) < 256
      split
      · rename_i e
        split
        · exact hv r
        · rw [← hA r j e.1 e.2]; exact hW r j
      · decide
    rw [h1, Gf.mul_comm hs hD, Gf.mul_assoc hD hs hdA, hA1, Gf.mul_one hD]
/-! ### The ranks of both sides -/
theorem fnz_same {R W : Mx} {c n : Nat} : ∀ d i, i + d ≤ n → (∀ a, i ≤ a → a < n → R a c = W a c) → fnz R c d i = fnz W c d i
  | 0, _, _, _ => rfl
  | d + 1, i, h, he => by
    rw [fnz, fnz, he i (Nat.le_refl _) (by omega), fnz_same d (i + 1) (by omega) (fun a h1 h2 => he a (by omega) h2)]
theorem sw_full (n m : Nat) : ∀ d c r (W : Mx), n ≤ r → swRun n m d c r W = r
  | 0, _, _, _, _ => rfl
  | d + 1, c, r, W, h => by
    have h2 := fnz_ge W c (n - r) r
    rw [swRun, if_neg (by omega)]
    exact sw_full n m d (c + 1) r W h
theorem swp_ge {r p a : Nat} (hp : r ≤ p) (ha : r ≤ a) : r ≤ swp r p a := by unfold swp; split; exact hp; split <;> omega
theorem step_same {R W : Mx} {n m M c r p : Nat} (hM : m ≤ M) (hR : small R) (he : ∀ a b, r ≤ a → a < n → b < m → R a b = W a b) (hp : r ≤ p) (hpn : p < n) (hc : c < m) (a b : Nat) (ha : r + 1 ≤ a) (han : a < n) (hb : b < m) :
    stepP n M c r p R a b = lowAll (swapR W r p) r c m n a b := by
  have hr : r ≤ swp r p a ∧ swp r p a < n := ⟨swp_ge hp (by omega), swp_lt (by omega) hpn han⟩
  have hrr : swp r p r = p := by unfold swp; rw [if_pos rfl]
  unfold stepP elimAll lowAll
  rw [if_pos ⟨han, by omega, by omega⟩, if_pos ⟨by omega, han, hb⟩]
  have e1 : ∀ j, normR (swapR R r p) r (Gf.inv (R p c)) M a j = R (swp r p a) j := fun j => by unfold normR; rw [if_neg (fun h => by omega)]; rfl
  have e2 : normR (swapR R r p) r (Gf.inv (R p c)) M r b = Gf.mul (R p b) (Gf.inv (R p c)) := by unfold normR; rw [if_pos ⟨rfl, by omega⟩]; unfold swapR; rw [hrr]
  rw [e1, e1, e2]
  unfold swapR Gf.div
  rw [hrr, ← he _ b hr.1 hr.2 hb, ← he _ c hr.1 hr.2 hc, ← he p c hp hpn hc, ← he p b hp hpn hb]
  have hi := Gf.inv_lt (hR p c)
  rw [Gf.mul_right_comm _ _ (hR _ _), Gf.mul_assoc (hR _ _) (hR _ _) hi]
theorem rank_same (n m M : Nat) (hM : m ≤ M) : ∀ d c r (R W : Mx), (∀ a b, r ≤ a → a < n → b < m → R a b = W a b) → c + d ≤ m → r ≤ n → small R → (redRun n M d c r R).1 = swRun n m d c r W
  | 0, _, _, _, _, _, _, _, _ => rfl
  | d + 1, c, r, R, W, he, hd, hrn, hR => by
    rw [redRun]
    by_cases hr : r < n
    · have hf := fnz_same (R := R) (W := W) (c := c) (n := n) (n - r) r (by omega) (fun a h1 h2 => he a c h1 h2 (by omega))
      rw [if_pos hr, swRun, hf]
      by_cases hp : fnz W c (n - r) r < n
      · rw [if_pos hp, if_pos hp]
        refine rank_same n m M hM d (c + 1) (r + 1) _ _ (fun a b h1 h2 h3 => ?_) (by omega) (by omega) (small_step hR _ _ _ _ _)
        exact step_same hM hR he (fnz_ge W c (n - r) r).1 hp (by omega) a b h1 h2 h3
      · rw [if_neg hp, if_neg hp]
        exact rank_same n m M hM d (c + 1) r R W he (by omega) hrn hR
    · rw [if_neg hr, sw_full n m _ c r W (by omega)]
end Go.Proofs.Ytpaenlplpaabjaa.Det
