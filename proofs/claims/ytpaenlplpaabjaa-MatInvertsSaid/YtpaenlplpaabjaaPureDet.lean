/- Determinants over the field, by the first column: what row steps do to them. Plain numbers; no conditions. -/
import Derived.Test.YtpaenlplpaabjaaMatV
set_option linter.unusedVariables false
set_option linter.unusedSimpArgs false
namespace Go.Proofs.Ytpaenlplpaabjaa.Det
open Go.Proofs.Ytpaenlplpaabjaa.QMatInverts Go.RowKit Go.Proofs.YtpaenlplpaabjaaW.PrintWords Go.Proofs.YtpaenlplpaabjaaW.PrintLast Go.Proofs.YtpaenlplpaabjaaW.PrintMore
open Go.Proofs.Ytpaenlplpaabjaa.MatB
def sumX (f : Nat → Nat) : Nat → Nat
  | 0 => 0
  | n + 1 => sumX f n ^^^ f n
theorem sumX_lt {f : Nat → Nat} : ∀ {n : Nat}, (∀ i, i < n → f i < 256) → sumX f n < 256
  | 0, _ => by simp [sumX]
  | n + 1, h => Gf.xor_lt (sumX_lt fun i hi => h i (by omega)) (h n (by omega))
theorem sumX_congr {f g : Nat → Nat} : ∀ {n : Nat}, (∀ i, i < n → f i = g i) → sumX f n = sumX g n
  | 0, _ => rfl
  | n + 1, h => by rw [sumX, sumX, sumX_congr (fun i hi => h i (by omega)), h n (by omega)]
theorem sumX_xor (f g : Nat → Nat) : ∀ n, sumX (fun i => f i ^^^ g i) n = sumX f n ^^^ sumX g n
  | 0 => by simp [sumX]
  | n + 1 => by rw [sumX, sumX, sumX, sumX_xor f g n, Gf.xor_swap]
theorem sumX_mul {f : Nat → Nat} {u : Nat} (hu : u < 256) : ∀ {n : Nat}, (∀ i, i < n → f i < 256) → sumX (fun i => Gf.mul u (f i)) n = Gf.mul u (sumX f n)
  | 0, _ => (Gf.mul_zero hu).symm
  | n + 1, h => by rw [sumX, sumX, sumX_mul hu (fun i hi => h i (by omega)), Gf.mul_xor hu (sumX_lt fun i hi => h i (by omega)) (h n (by omega))]
theorem sumX_zero {f : Nat → Nat} : ∀ {n : Nat}, (∀ i, i < n → f i = 0) → sumX f n = 0
  | 0, _ => rfl
  | n + 1, h => by rw [sumX, sumX_zero (fun i hi => h i (by omega)), h n (by omega)]; rfl
theorem sumX_one {f : Nat → Nat} {a : Nat} : ∀ {n : Nat}, a < n → (∀ i, i < n → i ≠ a → f i = 0) → sumX f n = f a
  | 0, h, _ => absurd h (Nat.not_lt_zero _)
  | n + 1, h, h0 => by
    rw [sumX]
    by_cases e : a = n
    · subst e
      rw [sumX_zero (fun i hi => h0 i (by omega) (by omega)), Nat.zero_xor]
    · rw [sumX_one (by omega) (fun i hi => h0 i (by omega)), h0 n (by omega) (fun e2 => e e2.symm), Nat.xor_zero]
theorem sumX_pair {f : Nat → Nat} {a : Nat} : ∀ {n : Nat}, a + 1 < n → f a = f (a + 1) → (∀ i, i < n → i ≠ a → i ≠ a + 1 → f i = 0) → sumX f n = 0
  | 0, h, _, _ => absurd h (Nat.not_lt_zero _)
  | n + 1, h, he, h0 => by
    rw [sumX]
    by_cases e : a + 1 = n
    · rw [sumX_one (a := a) (by omega) (fun i hi hia => h0 i (by omega) hia (by omega)), he, e, Nat.xor_self]
    · rw [sumX_pair (by omega) he (fun i hi => h0 i (by omega)), h0 n (by omega) (by omega) (fun e2 => e e2.symm)]; rfl
def skip (i r : Nat) : Nat := if r < i then r else r + 1
def minor (M : Mx) (i : Nat) : Mx := fun r c => M (skip i r) (c + 1)
def det : Nat → Mx → Nat
  | 0, _ => 1
  | n + 1, M => sumX (fun i => Gf.mul (M i 0) (det n (minor M i))) (n + 1)
theorem small_minor {M : Mx} (h : small M) (i : Nat) : small (minor M i) := fun _ _ => h _ _
theorem det_lt : ∀ (n : Nat) (M : Mx), small M → det n M < 256
  | 0, _, _ => by rw [det]; decide
  | n + 1, M, h => sumX_lt (fun i _ => Gf.mul_lt (h i 0) _)
theorem skip_lt {i r n : Nat} (hr : r < n) (hi : i < n + 1) : skip i r < n + 1 := by unfold skip; split <;> omega
theorem det_congr : ∀ (n : Nat) (M M' : Mx), (∀ r c, r < n → c < n → M r c = M' r c) → det n M = det n M'
  | 0, _, _, _ => rfl
  | n + 1, M, M', h => by
    rw [det, det]
    refine sumX_congr (fun i hi => ?_)
    rw [h i 0 hi (by omega), det_congr n (minor M i) (minor M' i) (fun r c hr hc => h _ _ (skip_lt hr hi) (by omega))]
def setRow (M : Mx) (a : Nat) (f : Nat → Nat) : Mx := fun r c => if r = a then f c else M r c
def back (i a : Nat) : Nat := if a < i then a else a - 1
theorem minor_same (M : Mx) (a : Nat) (f : Nat → Nat) : minor (setRow M a f) a = minor M a := by
  funext r c
  unfold minor setRow skip
  rw [if_neg (by split <;> omega)]
theorem minor_set (M : Mx) (a i : Nat) (f : Nat → Nat) (h : i ≠ a) : minor (setRow M a f) i = setRow (minor M i) (back i a) (fun c => f (c + 1)) := by
  funext r c
  unfold minor setRow
  have e : (skip i r = a) ↔ (r = back i a) := by unfold skip back; split <;> split <;> omega
  by_cases h2 : r = back i a
  · rw [if_pos (e.2 h2), if_pos h2]
  · rw [if_neg (fun h3 => h2 (e.1 h3)), if_neg h2]
theorem back_lt {i a n : Nat} (h : i ≠ a) (ha : a < n + 1) (hi : i < n + 1) : back i a < n := by unfold back; split <;> omega
theorem small_set {M : Mx} (h : small M) (a : Nat) {f : Nat → Nat} (hf : ∀ c, f c < 256) : small (setRow M a f) := fun r c => by
  unfold setRow; split
  · exact hf c
  · exact h r c
theorem det_lin : ∀ (n : Nat) (M : Mx) (a : Nat) (f g : Nat → Nat), small M → (∀ c, f c < 256) → (∀ c, g c < 256) → a < n → det n (setRow M a (fun c => f c ^^^ g c)) = det n (setRow M a f) ^^^ det n (setRow M a g)
  | 0, _, _, _, _, _, _, _, h => absurd h (Nat.not_lt_zero _)
  | n + 1, M, a, f, g, hM, hf, hg, ha => by
    rw [det, det, det, ← sumX_xor]
    refine sumX_congr (fun i hi => ?_)
    by_cases e : i = a
    · subst e
      rw [minor_same, minor_same, minor_same]
      have e1 : ∀ q : Nat → Nat, setRow M i q i 0 = q 0 := fun q => by unfold setRow; rw [if_pos rfl]
      rw [e1, e1, e1, Gf.xor_mul _ (hf 0) (hg 0)]
    · rw [minor_set _ _ _ _ e, minor_set _ _ _ _ e, minor_set _ _ _ _ e]
      have e1 : ∀ q : Nat → Nat, setRow M a q i 0 = M i 0 := fun q => by unfold setRow; rw [if_neg e]
      rw [e1, e1, e1, det_lin n (minor M i) (back i a) (fun c => f (c + 1)) (fun c => g (c + 1)) (small_minor hM i) (fun c => hf _) (fun c => hg _) (back_lt e ha hi)]
      exact Gf.mul_xor (hM i 0) (det_lt _ _ (small_set (small_minor hM i) _ (fun c => hf _))) (det_lt _ _ (small_set (small_minor hM i) _ (fun c => hg _)))
theorem det_scale : ∀ (n : Nat) (M : Mx) (a u : Nat) (f : Nat → Nat), small M → u < 256 → (∀ c, f c < 256) → a < n → det n (setRow M a (fun c => Gf.mul u (f c))) = Gf.mul u (det n (setRow M a f))
  | 0, _, _, _, _, _, _, _, h => absurd h (Nat.not_lt_zero _)
  | n + 1, M, a, u, f, hM, hu, hf, ha => by
    rw [det, det, ← sumX_mul hu (fun i _ => Gf.mul_lt (small_set hM a hf i 0) _)]
    refine sumX_congr (fun i hi => ?_)
    by_cases e : i = a
    · subst e
      rw [minor_same, minor_same]
      have e1 : ∀ q : Nat → Nat, setRow M i q i 0 = q 0 := fun q => by unfold setRow; rw [if_pos rfl]
      rw [e1, e1, Gf.mul_assoc hu (hf 0) (det_lt _ _ (small_minor hM i))]
    · rw [minor_set _ _ _ _ e, minor_set _ _ _ _ e]
      have e1 : ∀ q : Nat → Nat, setRow M a q i 0 = M i 0 := fun q => by unfold setRow; rw [if_neg e]
      have hd := det_lt n _ (small_set (small_minor hM i) (back i a) (fun c => hf (c + 1)))
      rw [e1, e1, det_scale n (minor M i) (back i a) u (fun c => f (c + 1)) (small_minor hM i) hu (fun c => hf _) (back_lt e ha hi)]
      rw [← Gf.mul_assoc (hM i 0) hu hd, Gf.mul_comm (hM i 0) hu, Gf.mul_assoc hu (hM i 0) hd]
theorem det_adj : ∀ (n : Nat) (M : Mx) (a : Nat), small M → a + 1 < n → (∀ c, M a c = M (a + 1) c) → det n M = 0
  | 0, _, _, _, h, _ => absurd h (Nat.not_lt_zero _)
  | n + 1, M, a, hM, ha, he => by
    rw [det]
    have hmm : minor M a = minor M (a + 1) := by
      funext r c
      unfold minor skip
      by_cases h1 : r < a
      · rw [if_pos h1, if_pos (by omega)]
      · by_cases h2 : r = a
        · subst h2
          rw [if_neg h1, if_pos (by omega)]
          exact (he (c + 1)).symm
        · rw [if_neg h1, if_neg (by omega)]
    refine sumX_pair ha (by rw [hmm, he 0]) (fun i hi h1 h2 => ?_)
    have hz : det n (minor M i) = 0 := by
      by_cases h3 : i < a
      · refine det_adj n (minor M i) (a - 1) (small_minor hM i) (by omega) (fun c => ?_)
        unfold minor skip
        rw [if_neg (by omega), if_neg (by omega), show a - 1 + 1 = a from by omega]
        exact he (c + 1)
      · refine det_adj n (minor M i) a (small_minor hM i) (by omega) (fun c => ?_)
        unfold minor skip
        rw [if_pos (by omega), if_pos (by omega)]
        exact he (c + 1)
    rw [hz, Gf.mul_zero (hM i 0)]
def addRow (M : Mx) (a b f : Nat) : Mx := setRow M a (fun c => M a c ^^^ Gf.mul f (M b c))
theorem small_add {M : Mx} (h : small M) (a b : Nat) {f : Nat} (hf : f < 256) : small (addRow M a b f) := small_set h a (fun c => Gf.xor_lt (h a c) (Gf.mul_lt hf _))
theorem set_self (M : Mx) (a : Nat) : setRow M a (M a) = M := by
  funext r c
  unfold setRow
  split
  · rename_i e; rw [e]
  · rfl
theorem add_of_zero {n : Nat} {M : Mx} {a b f : Nat} (hM : small M) (hf : f < 256) (ha : a < n) (hz : det n (setRow M a (M b)) = 0) : det n (addRow M a b f) = det n M := by
  unfold addRow
  rw [det_lin n M a (M a) (fun c => Gf.mul f (M b c)) hM (hM a) (fun c => Gf.mul_lt hf _) ha, det_scale n M a f (M b) hM hf (hM b) ha, hz, Gf.mul_zero hf, Nat.xor_zero, set_self]
theorem det_adj_add {n : Nat} {M : Mx} {a f : Nat} (hM : small M) (hf : f < 256) (ha : a + 1 < n) : det n (addRow M a (a + 1) f) = det n M ∧ det n (addRow M (a + 1) a f) = det n M := by
  constructor
  · refine add_of_zero hM hf (by omega) (det_adj n _ a (small_set hM _ (hM _)) ha (fun c => ?_))
    unfold setRow
    rw [if_pos rfl, if_neg (by omega)]
  · refine add_of_zero hM hf ha (det_adj n _ a (small_set hM _ (hM _)) ha (fun c => ?_))
    unfold setRow
    rw [if_neg (by omega), if_pos rfl]
/-- Two rows change places by three sums. -/
theorem swap_sums {M : Mx} {a b : Nat} (hM : small M) (hab : a ≠ b) : addRow (addRow (addRow M a b 1) b a 1) a b 1 = swapR M a b := by
  funext r c
  have h1 := hM a c
  have h2 := hM b c
  have e1 : ∀ x, x < 256 → Gf.mul 1 x = x := fun x hx => Gf.one_mul hx
  unfold addRow setRow swapR swp
  by_cases hra : r = a
  · subst hra
    simp only [if_true, if_neg hab, if_neg (Ne.symm hab)]
    rw [e1 _ h2, e1 _ (Gf.xor_lt h1 h2), e1 _ (Gf.xor_lt h2 (Gf.xor_lt h1 h2))]
    rw [Nat.xor_comm (M r c) (M b c), ← Nat.xor_assoc (M b c) (M b c), Nat.xor_self, Nat.zero_xor, Nat.xor_assoc, Nat.xor_self, Nat.xor_zero]
  · by_cases hrb : r = b
    · subst hrb
      simp only [if_true, if_neg hra, if_neg (Ne.symm hra)]
      rw [e1 _ h2, e1 _ (Gf.xor_lt h1 h2), Nat.xor_comm (M a c), ← Nat.xor_assoc, Nat.xor_self, Nat.zero_xor]
    · simp only [if_neg hra, if_neg hrb]
theorem det_adj_swap {n : Nat} {M : Mx} {a : Nat} (hM : small M) (ha : a + 1 < n) : det n (swapR M a (a + 1)) = det n M := by
  have h1 := small_add hM a (a + 1) (f := 1) (by decide)
  have h2 := small_add h1 (a + 1) a (f := 1) (by decide)
  rw [← swap_sums hM (by omega), (det_adj_add h2 (by decide) ha).1, (det_adj_add h1 (by decide) ha).2, (det_adj_add hM (by decide) ha).1]
theorem det_equal {n : Nat} : ∀ (d : Nat) (M : Mx) (a : Nat), small M → a + 1 + d < n → (∀ c, M a c = M (a + 1 + d) c) → det n M = 0
  | 0, M, a, hM, ha, he => det_adj n M a hM ha he
  | d + 1, M, a, hM, ha, he => by
    rw [← det_adj_swap (a := a + 1 + d) hM (by omega)]
    refine det_equal d _ a (small_swap hM _ _) (by omega) (fun c => ?_)
    unfold swapR swp
    rw [if_neg (by omega), if_neg (by omega), if_pos rfl]
    exact he c
theorem det_same {n : Nat} {M : Mx} {a b : Nat} (hM : small M) (ha : a < n) (hb : b < n) (hab : a ≠ b) (he : ∀ c, M a c = M b c) : det n M = 0 := by
  rcases Nat.lt_or_gt_of_ne hab with h | h
  · obtain ⟨d, rfl⟩ : ∃ d, b = a + 1 + d := ⟨b - (a + 1), by omega⟩
    exact det_equal d M a hM hb he
  · obtain ⟨d, rfl⟩ : ∃ d, a = b + 1 + d := ⟨a - (b + 1), by omega⟩
    exact det_equal d M b hM ha (fun c => (he c).symm)
theorem det_add {n : Nat} {M : Mx} {a b f : Nat} (hM : small M) (hf : f < 256) (ha : a < n) (hb : b < n) (hab : a ≠ b) : det n (addRow M a b f) = det n M := by
  refine add_of_zero hM hf ha (det_same (small_set hM _ (hM _)) ha hb hab (fun c => ?_))
  unfold setRow
  rw [if_pos rfl, if_neg (Ne.symm hab)]
theorem det_swap {n : Nat} {M : Mx} {a b : Nat} (hM : small M) (ha : a < n) (hb : b < n) : det n (swapR M a b) = det n M := by
  by_cases hab : a = b
  · subst hab
    have e : swapR M a a = M := by
      funext r c
      unfold swapR swp
      by_cases e : r = a
      · rw [if_pos e, e]
      · rw [if_neg e, if_neg e]
    rw [e]
  · have h1 := small_add hM a b (f := 1) (by decide)
    have h2 := small_add h1 b a (f := 1) (by decide)
    rw [← swap_sums hM hab, det_add h2 (by decide) ha hb hab, det_add h1 (by decide) hb ha (Ne.symm hab), det_add hM (by decide) ha hb hab]
end Go.Proofs.Ytpaenlplpaabjaa.Det
