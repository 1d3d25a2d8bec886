/- What Gauss and Jordan's steps leave beside a matrix: its inverse, and Cramer's rule. Plain numbers; no conditions. -/
import Derived.Test.YtpaenlplpaabjaaPureDet
set_option linter.unusedVariables false
set_option linter.unusedSimpArgs false
namespace Go.Proofs.Ytpaenlplpaabjaa.Det
open Go.Proofs.Ytpaenlplpaabjaa.QMatInverts Go.RowKit Go.Proofs.YtpaenlplpaabjaaW.PrintWords Go.Proofs.YtpaenlplpaabjaaW.PrintLast Go.Proofs.YtpaenlplpaabjaaW.PrintMore
open Go.Proofs.Ytpaenlplpaabjaa.MatB
def fn (n o : Nat) (y : Nat → Nat) (W : Mx) (a : Nat) : Nat := sumX (fun k => Gf.mul (W a (o + k)) (y k)) n
theorem fn_lt {n o : Nat} {y : Nat → Nat} {W : Mx} (h : small W) (a : Nat) : fn n o y W a < 256 := sumX_lt (fun k _ => Gf.mul_lt (h _ _) _)
theorem fn_norm {n o m : Nat} {y : Nat → Nat} {W : Mx} (hW : small W) (hy : ∀ k, y k < 256) {u : Nat} (hu : u < 256) (r a : Nat) (ho : o + n ≤ m) : fn n o y (normR W r u m) a = if a = r then Gf.mul u (fn n o y W r) else fn n o y W a := by
  unfold fn
  by_cases h : a = r
  · rw [if_pos h, ← sumX_mul hu (fun k _ => Gf.mul_lt (hW _ _) _)]
    subst h
    refine sumX_congr (fun k hk => ?_)
    unfold normR
    rw [if_pos ⟨rfl, by omega⟩, Gf.mul_comm (hW _ _) hu, Gf.mul_assoc hu (hW _ _) (hy k)]
  · rw [if_neg h]
    refine sumX_congr (fun k hk => ?_)
    unfold normR
    rw [if_neg (fun h2 => h h2.1)]
theorem fn_elim {n o m : Nat} {y : Nat → Nat} {W : Mx} (hW : small W) (hy : ∀ k, y k < 256) {f : Nat} (hf : f < 256) (r i a : Nat) (ho : o + n ≤ m) : fn n o y (elimR W r i f m) a = if a = i then fn n o y W i ^^^ Gf.mul f (fn n o y W r) else fn n o y W a := by
  unfold fn
  by_cases h : a = i
  · rw [if_pos h, ← sumX_mul hf (fun k _ => Gf.mul_lt (hW _ _) _), ← sumX_xor]
    subst h
    refine sumX_congr (fun k hk => ?_)
    unfold elimR
    rw [if_pos ⟨rfl, by omega⟩, Gf.xor_mul _ (hW _ _) (Gf.mul_lt hf _), Gf.mul_assoc hf (hW _ _) (hy k)]
  · rw [if_neg h]
    refine sumX_congr (fun k hk => ?_)
    unfold elimR
    rw [if_neg (fun h2 => h h2.1)]
/-! ### Which lists a system's rows hold for -/
def hold (n : Nat) (x v : Nat → Nat) (W : Mx) : Prop := ∀ r, r < n → fn n 0 x W r = fn n n v W r
theorem hold_swap {n a b : Nat} {x v : Nat → Nat} {W : Mx} (ha : a < n) (hb : b < n) : hold n x v (swapR W a b) ↔ hold n x v W := by
  constructor
  · intro h r hr
    have := h (swp a b r) (swp_lt ha hb hr)
    unfold fn swapR at this
    rw [swp_swp] at this
    exact this
  · intro h r hr
    exact h (swp a b r) (swp_lt ha hb hr)
theorem hold_norm {n m : Nat} {x v : Nat → Nat} {W : Mx} (hW : small W) (hx : ∀ k, x k < 256) (hv : ∀ k, v k < 256) {u : Nat} (hu : u < 256) (hu0 : u ≠ 0) (r : Nat) (hm : n + n ≤ m) : hold n x v (normR W r u m) ↔ hold n x v W := by
  constructor
  · intro h a ha
    have := h a ha
    rw [fn_norm hW hx hu r a (by omega), fn_norm hW hv hu r a hm] at this
    by_cases e : a = r
    · rw [if_pos e, if_pos e] at this
      subst e
      have h2 : Gf.mul u (fn n 0 x W a ^^^ fn n n v W a) = 0 := by rw [Gf.mul_xor hu (fn_lt hW a) (fn_lt hW a), this, Nat.xor_self]
      rcases Gf.mul_eq_zero hu (Gf.xor_lt (fn_lt hW a) (fn_lt hW a)) h2 with h3 | h3
      · exact absurd h3 hu0
      · exact Gf.xor_eq_zero h3
    · rw [if_neg e, if_neg e] at this
      exact this
  · intro h a ha
    rw [fn_norm hW hx hu r a (by omega), fn_norm hW hv hu r a hm]
    by_cases e : a = r
    · rw [if_pos e, if_pos e]; subst e; rw [h a ha]
    · rw [if_neg e, if_neg e]; exact h a ha
theorem hold_elim {n m : Nat} {x v : Nat → Nat} {W : Mx} (hW : small W) (hx : ∀ k, x k < 256) (hv : ∀ k, v k < 256) {f : Nat} (hf : f < 256) {r i : Nat} (hr : r < n) (hir : i ≠ r) (hm : n + n ≤ m) : hold n x v (elimR W r i f m) ↔ hold n x v W := by
  have key : ∀ a, fn n 0 x (elimR W r i f m) a = (if a = i then fn n 0 x W i ^^^ Gf.mul f (fn n 0 x W r) else fn n 0 x W a) ∧ fn n n v (elimR W r i f m) a = (if a = i then fn n n v W i ^^^ Gf.mul f (fn n n v W r) else fn n n v W a) := fun a => ⟨fn_elim hW hx hf r i a (by omega), fn_elim hW hv hf r i a hm⟩
  constructor
  · intro h
    have h1 := h r hr
    rw [(key r).1, (key r).2, if_neg (Ne.symm hir), if_neg (Ne.symm hir)] at h1
    intro a ha
    have h2 := h a ha
    rw [(key a).1, (key a).2] at h2
    by_cases e : a = i
    · rw [if_pos e, if_pos e, h1] at h2
      subst e
      have h3 := congrArg (fun z => z ^^^ Gf.mul f (fn n n v W r)) h2
      simp only [Nat.xor_assoc, Nat.xor_self, Nat.xor_zero] at h3
      exact h3
    · rw [if_neg e, if_neg e] at h2
      exact h2
  · intro h a ha
    rw [(key a).1, (key a).2]
    by_cases e : a = i
    · rw [if_pos e, if_pos e, h r hr]; subst e; rw [h a ha]
    · rw [if_neg e, if_neg e]; exact h a ha
theorem hold_all {n m : Nat} {x v : Nat → Nat} {W : Mx} (hW : small W) (hx : ∀ k, x k < 256) (hv : ∀ k, v k < 256) {r c : Nat} (hr : r < n) (hm : n + n ≤ m) : ∀ i, hold n x v (elimAll W r c m i) ↔ hold n x v W
  | 0 => by rw [all_zero]
  | i + 1 => by
    rw [all_row]
    split
    · exact hold_all hW hx hv hr hm i
    · rename_i e
      rw [hold_elim (small_all hW _ _ _ _) hx hv (hW i c) hr e hm]
      exact hold_all hW hx hv hr hm i
theorem hold_step {n m : Nat} {x v : Nat → Nat} {R : Mx} (hR : small R) (hx : ∀ k, x k < 256) (hv : ∀ k, v k < 256) {c r p : Nat} (hr : r < n) (hp : p < n) (h0 : R p c ≠ 0) (hm : n + n ≤ m) : hold n x v (stepP n m c r p R) ↔ hold n x v R := by
  unfold stepP
  have hi : Gf.inv (R p c) ≠ 0 := fun e => by
    have := Gf.mul_inv (Nat.pos_of_ne_zero h0) (hR p c)
    rw [e, Gf.mul_zero (hR p c)] at this
    omega
  rw [hold_all (small_norm (small_swap hR _ _) _ _ _) hx hv hr hm, hold_norm (small_swap hR _ _) hx hv (Gf.inv_lt (hR p c)) hi r hm, hold_swap hr hp]
/-! ### Determinants with a column in the place of another -/
def ext (n i : Nat) (v : Nat → Nat) (W : Mx) : Mx := fun r j => if j = i then fn n n v W r else W r j
theorem small_ext {n i : Nat} {v : Nat → Nat} {W : Mx} (h : small W) : small (ext n i v W) := fun r j => by
  unfold ext; split
  · exact fn_lt h r
  · exact h r j
theorem ext_norm {n m i : Nat} {v : Nat → Nat} {W : Mx} (hW : small W) (hv : ∀ k, v k < 256) {u : Nat} (hu : u < 256) {r : Nat} (hr : r < n) (hm : n + n ≤ m) : det n (ext n i v (normR W r u m)) = Gf.mul u (det n (ext n i v W)) := by
  have e : det n (ext n i v (normR W r u m)) = det n (setRow (ext n i v W) r (fun c => Gf.mul u (ext n i v W r c))) := by
    refine det_congr n _ _ (fun a j ha hj => ?_)
    unfold ext setRow
    dsimp only
    rw [fn_norm hW hv hu r a hm]
    by_cases h1 : a = r
    · subst h1
      rw [if_pos rfl, if_pos rfl]
      by_cases h2 : j = i
      · rw [if_pos h2, if_pos h2]
      · rw [if_neg h2, if_neg h2]
        unfold normR
        rw [if_pos ⟨rfl, by omega⟩, Gf.mul_comm (hW _ _) hu]
    · rw [if_neg h1, if_neg h1]
      by_cases h2 : j = i
      · rw [if_pos h2, if_pos h2]
      · rw [if_neg h2, if_neg h2]
        unfold normR
        rw [if_neg (fun h3 => h1 h3.1)]
  rw [e, det_scale n _ r u _ (small_ext hW) hu (small_ext hW r) hr, set_self]
theorem ext_elim {n m i : Nat} {v : Nat → Nat} {W : Mx} (hW : small W) (hv : ∀ k, v k < 256) {f : Nat} (hf : f < 256) {r q : Nat} (hr : r < n) (hq : q < n) (hqr : q ≠ r) (hm : n + n ≤ m) : det n (ext n i v (elimR W r q f m)) = det n (ext n i v W) := by
  have e : det n (ext n i v (elimR W r q f m)) = det n (addRow (ext n i v W) q r f) := by
    refine det_congr n _ _ (fun a j ha hj => ?_)
    unfold ext addRow setRow
    dsimp only
    rw [fn_elim hW hv hf r q a hm]
    by_cases h1 : a = q
    · subst h1
      rw [if_pos rfl, if_pos rfl]
      by_cases h2 : j = i
      · rw [if_pos h2, if_pos h2, if_pos h2]
      · rw [if_neg h2, if_neg h2, if_neg h2]
        unfold elimR
        rw [if_pos ⟨rfl, by omega⟩]
    · rw [if_neg h1, if_neg h1]
      by_cases h2 : j = i
      · rw [if_pos h2, if_pos h2]
      · rw [if_neg h2, if_neg h2]
        unfold elimR
        rw [if_neg (fun h3 => h1 h3.1)]
  rw [e, det_add (small_ext hW) hf hq hr hqr]
theorem ext_all {n m i : Nat} {v : Nat → Nat} {W : Mx} (hW : small W) (hv : ∀ k, v k < 256) {r c : Nat} (hr : r < n) (hm : n + n ≤ m) : ∀ q, q ≤ n → det n (ext n i v (elimAll W r c m q)) = det n (ext n i v W)
  | 0, _ => by rw [all_zero]
  | q + 1, hq => by
    rw [all_row]
    split
    · exact ext_all hW hv hr hm q (by omega)
    · rename_i e
      rw [ext_elim (small_all hW _ _ _ _) hv (hW q c) hr (by omega) e hm]
      exact ext_all hW hv hr hm q (by omega)
theorem ext_step {n m i : Nat} {v : Nat → Nat} {R : Mx} (hR : small R) (hv : ∀ k, v k < 256) {c r p : Nat} (hr : r < n) (hp : p < n) (hm : n + n ≤ m) : det n (ext n i v (stepP n m c r p R)) = Gf.mul (Gf.inv (R p c)) (det n (ext n i v R)) := by
  unfold stepP
  rw [ext_all (small_norm (small_swap hR _ _) _ _ _) hv hr hm n (Nat.le_refl _), ext_norm (small_swap hR _ _) hv (Gf.inv_lt (hR p c)) hr hm]
  congr 1
  exact det_swap (M := ext n i v R) (small_ext hR) hr hp
/-! ### What is left of the left half -/
def dlt (r c : Nat) : Nat := if r = c then 1 else 0
def unitTo (n c : Nat) (W : Mx) : Prop := ∀ r k, r < n → k < c → W r k = dlt r k
theorem unit_step {n m c p : Nat} {R : Mx} (hR : small R) (hu : unitTo n c R) (hc : c < n) (hcp : c ≤ p) (hp : p < n) (h0 : R p c ≠ 0) (hm : n + n ≤ m) : unitTo n (c + 1) (stepP n m c c p R) := by
  intro r k hr hk
  have hsw : ∀ a q, a < n → q < c → swapR R c p a q = dlt a q := fun a q ha hq => by
    unfold swapR
    rw [hu _ _ (swp_lt hc hp ha) hq]
    unfold dlt swp
    by_cases h1 : a = c
    · rw [if_pos h1, if_neg (by omega), if_neg (by omega)]
    · by_cases h2 : a = p
      · rw [if_neg h1, if_pos h2, if_neg (by omega), if_neg (by omega)]
      · rw [if_neg h1, if_neg h2]
  have hpiv : swapR R c p c c = R p c := swap_at _ _ _ _
  have hX : ∀ a q, a < n → q < c → normR (swapR R c p) c (Gf.inv (R p c)) m a q = dlt a q := fun a q ha hq => by
    unfold normR
    by_cases h1 : a = c
    · rw [if_pos ⟨h1, by omega⟩, hsw a q ha hq]
      unfold dlt
      rw [if_neg (by omega), Gf.zero_mul]
    · rw [if_neg (fun h2 => h1 h2.1)]
      exact hsw a q ha hq
  have hX1 : normR (swapR R c p) c (Gf.inv (R p c)) m c c = 1 := by
    unfold normR
    rw [if_pos ⟨rfl, by omega⟩, hpiv, Gf.mul_inv (Nat.pos_of_ne_zero h0) (hR p c)]
  have hXs := small_norm (small_swap hR c p) c (Gf.inv (R p c)) m
  unfold stepP elimAll
  by_cases hkc : k = c
  · subst hkc
    by_cases h1 : r = k
    · subst h1
      rw [if_neg (fun h2 => h2.2.1 rfl), hX1]
      unfold dlt
      rw [if_pos rfl]
    · rw [if_pos ⟨hr, h1, by omega⟩, hX1, Gf.mul_one (hXs r k), Nat.xor_self]
      unfold dlt
      rw [if_neg h1]
  · have hk2 : k < c := by omega
    by_cases h1 : r = c
    · subst h1
      rw [if_neg (fun h2 => h2.2.1 rfl)]
      exact hX r k hr hk2
    · rw [if_pos ⟨hr, h1, by omega⟩, hX c k hc hk2, hX r k hr hk2]
      have : dlt c k = 0 := by unfold dlt; rw [if_neg (by omega)]
      rw [this, Gf.mul_zero (hXs r c), Nat.xor_zero]
theorem rank_le (n m : Nat) : ∀ d c r (R : Mx), (redRun n m d c r R).1 ≤ r + d
  | 0, _, _, _ => Nat.le_refl _
  | d + 1, c, r, R => by
    rw [redRun]
    split
    · split
      · have := rank_le n m d (c + 1) (r + 1) (stepP n m c r (fnz R c (n - r) r) R); omega
      · have := rank_le n m d (c + 1) r R; omega
    · show r ≤ r + (d + 1); omega
theorem run_inv (n m : Nat) (hm : n + n ≤ m) : ∀ d c (R R' : Mx), c + d = n → small R → unitTo n c R → redRun n m d c c R = (n, R') →
    small R' ∧ unitTo n n R' ∧ (∃ s, s ≠ 0 ∧ s < 256 ∧ ∀ i v, (∀ k, v k < 256) → det n (ext n i v R') = Gf.mul s (det n (ext n i v R))) ∧ ∀ x v, (∀ k, x k < 256) → (∀ k, v k < 256) → (hold n x v R' ↔ hold n x v R)
  | 0, c, R, R', hcd, hR, hu, h => by
    rw [redRun] at h
    injection h with h1 h2
    subst h2
    have hcn : c = n := by omega
    subst hcn
    exact ⟨hR, hu, ⟨1, by decide, by decide, fun i v hv => (Gf.one_mul (det_lt _ _ (small_ext hR))).symm⟩, fun x v _ _ => Iff.rfl⟩
  | d + 1, c, R, R', hcd, hR, hu, h => by
    rw [redRun, if_pos (by omega)] at h
    by_cases hp : fnz R c (n - c) c < n
    · rw [if_pos hp] at h
      have hge := (fnz_ge R c (n - c) c).1
      have hne := fnz_ne R c (n - c) c (by omega)
      obtain ⟨g1, g2, ⟨s, g3, g4, g5⟩, g6⟩ := run_inv n m hm d (c + 1) _ R' (by omega) (small_step hR _ _ _ _ _) (unit_step hR hu (by omega) hge hp hne hm) h
      have hi : Gf.inv (R (fnz R c (n - c) c) c) ≠ 0 := fun e => by
        have := Gf.mul_inv (Nat.pos_of_ne_zero hne) (hR _ _)
        rw [e, Gf.mul_zero (hR _ _)] at this
        omega
      have hil := Gf.inv_lt (hR (fnz R c (n - c) c) c)
      refine ⟨g1, g2, ⟨Gf.mul s (Gf.inv (R (fnz R c (n - c) c) c)), Gf.mul_ne_zero g4 hil g3 hi, Gf.mul_lt g4 _, fun i v hv => ?_⟩, fun x v hx hv => ?_⟩
      · rw [g5 i v hv, ext_step hR hv (by omega) hp hm, Gf.mul_assoc g4 hil (det_lt _ _ (small_ext hR))]
      · rw [g6 x v hx hv, hold_step hR hx hv (by omega) hp hne hm]
    · rw [if_neg hp] at h
      have h2 := rank_le n m d (c + 1) c R
      rw [h] at h2
      have h3 : n ≤ c + d := h2
      omega
/-! ### The matrix that changes nothing, with a column in the place of another -/
theorem det_zero_row {n : Nat} {M : Mx} {a : Nat} (hM : small M) (ha : a < n) (h0 : ∀ c, M a c = 0) : det n M = 0 := by
  have e : M = setRow M a (fun c => Gf.mul 0 (M a c)) := by
    funext r c
    unfold setRow
    by_cases h : r = a
    · rw [if_pos h]
      show M r c = Gf.mul 0 (M a c)
      rw [Gf.zero_mul, h, h0]
    · rw [if_neg h]
  rw [e, det_scale n M a 0 (M a) hM (by decide) (hM a) ha, Gf.zero_mul]
theorem skip_zero (r : Nat) : skip 0 r = r + 1 := by unfold skip; rw [if_neg (by omega)]
theorem dlt_suc (r c : Nat) : dlt (r + 1) (c + 1) = dlt r c := by
  unfold dlt
  by_cases h : r = c
  · rw [if_pos h, if_pos (by omega)]
  · rw [if_neg h, if_neg (by omega)]
theorem det_unit : ∀ (n i : Nat) (y : Nat → Nat), (∀ k, y k < 256) → det n (fun r j => if j = i then y r else dlt r j) = if i < n then y i else 1
  | 0, i, y, _ => by rw [det, if_neg (Nat.not_lt_zero _)]
  | n + 1, i, y, hy => by
    have hsm : small (fun r j => if j = i then y r else dlt r j) := fun r j => by
      show (if j = i then y r else dlt r j) < 256
      split
      · exact hy r
      · unfold dlt; split <;> decide
    rw [det]
    rw [sumX_one (a := 0) (by omega) (fun r hr hr0 => ?_)]
    · cases i with
      | zero =>
        have e : det n (minor (fun r j => if j = 0 then y r else dlt r j) 0) = 1 := by
          have h1 := det_unit n n (fun _ => 0) (fun _ => by decide)
          rw [if_neg (Nat.lt_irrefl _)] at h1
          rw [← h1]
          refine det_congr n _ _ (fun r c hr hc => ?_)
          show (if c + 1 = 0 then y (skip 0 r) else dlt (skip 0 r) (c + 1)) = (if c = n then 0 else dlt r c)
          rw [if_neg (show ¬ c + 1 = 0 by omega), if_neg (show ¬ c = n by omega), skip_zero, dlt_suc]
        rw [e, if_pos rfl, if_pos (by omega), Gf.mul_one (hy 0)]
      | succ i =>
        have e : det n (minor (fun r j => if j = i + 1 then y r else dlt r j) 0) = if i < n then y (i + 1) else 1 := by
          have h1 := det_unit n i (fun k => y (k + 1)) (fun k => hy _)
          rw [← h1]
          refine det_congr n _ _ (fun r c hr hc => ?_)
          show (if c + 1 = i + 1 then y (skip 0 r) else dlt (skip 0 r) (c + 1)) = (if c = i then y (r + 1) else dlt r c)
          rw [skip_zero, dlt_suc]
          by_cases h3 : c = i
          · rw [if_pos (show c + 1 = i + 1 by omega), if_pos h3]
          · rw [if_neg (show ¬ c + 1 = i + 1 by omega), if_neg h3]
        rw [e, if_neg (by omega)]
        have e2 : dlt 0 0 = 1 := rfl
        rw [e2]
        by_cases h : i < n
        · rw [if_pos h, if_pos (by omega), Gf.one_mul (hy _)]
        · rw [if_neg h, if_neg (by omega), Gf.one_mul (by decide)]
    · cases i with
      | zero =>
        have hz : det n (minor (fun r j => if j = 0 then y r else dlt r j) r) = 0 := by
          refine det_zero_row (a := 0) (small_minor hsm r) (by omega) (fun c => ?_)
          show (if c + 1 = 0 then y (skip r 0) else dlt (skip r 0) (c + 1)) = 0
          have e0 : skip r 0 = 0 := by unfold skip; rw [if_pos (by omega)]
          rw [if_neg (show ¬ c + 1 = 0 by omega), e0]
          unfold dlt
          rw [if_neg (by omega)]
        rw [hz, if_pos rfl, Gf.mul_zero (hy r)]
      | succ i =>
        rw [if_neg (by omega)]
        have : dlt r 0 = 0 := by unfold dlt; rw [if_neg hr0]
        rw [this, Gf.zero_mul]
end Go.Proofs.Ytpaenlplpaabjaa.Det
