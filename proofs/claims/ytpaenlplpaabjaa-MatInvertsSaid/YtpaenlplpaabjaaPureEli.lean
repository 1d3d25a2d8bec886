/- Elimination and substitution from the last row on give a list that the system holds for. Plain numbers; no conditions. -/
import Derived.Test.YtpaenlplpaabjaaPureInv2
set_option linter.unusedVariables false
set_option linter.unusedSimpArgs false
namespace Go.Proofs.Ytpaenlplpaabjaa.Det
open Go.Proofs.Ytpaenlplpaabjaa.QMatInverts Go.RowKit Go.Proofs.YtpaenlplpaabjaaW.PrintWords Go.Proofs.YtpaenlplpaabjaaW.PrintLast Go.Proofs.YtpaenlplpaabjaaW.PrintMore
open Go.Proofs.Ytpaenlplpaabjaa.MatB
def lowC (R : Mx) (c m i : Nat) : Mx := fun a b => if c < a ∧ a < i ∧ c ≤ b ∧ b < m then R a b ^^^ Gf.mul (Gf.div (R a c) (R c c)) (R c b) else R a b
def eliRun (n : Nat) : Nat → Nat → Mx → Mx
  | 0, _, R => R
  | d + 1, c, R => eliRun n d (c + 1) (lowC (swapR R c (fnz R c (n - c) c)) c (n + 1) n)
theorem small_lowC {R : Mx} (h : small R) (c m i : Nat) : small (lowC R c m i) := fun a b => by
  unfold lowC; split
  · exact Gf.xor_lt (h _ _) (Gf.mul_lt (Gf.div_lt (h _ _) (h _ _)) _)
  · exact h _ _
def hold1 (n : Nat) (x : Nat → Nat) (R : Mx) : Prop := ∀ r, r < n → fn n 0 x R r = R r n
def lowZ (n c : Nat) (R : Mx) : Prop := ∀ a b, b < c → b < a → a < n → R a b = 0
theorem hold1_swap {n a b : Nat} {x : Nat → Nat} {R : Mx} (ha : a < n) (hb : b < n) (h : hold1 n x (swapR R a b)) : hold1 n x R := by
  intro r hr
  have := h (swp a b r) (swp_lt ha hb hr)
  unfold fn swapR at this
  rw [swp_swp] at this
  exact this
theorem lowC_row {n c : Nat} {R : Mx} (hR : small R) (hz : ∀ b, b < c → R c b = 0) (a b : Nat) (hca : c < a) (ha : a < n) (hb : b < n + 1) : lowC R c (n + 1) n a b = R a b ^^^ Gf.mul (Gf.div (R a c) (R c c)) (R c b) := by
  unfold lowC
  by_cases h : c ≤ b
  · rw [if_pos ⟨hca, ha, h, hb⟩]
  · rw [if_neg (fun h2 => h h2.2.2.1), hz b (by omega), Gf.mul_zero (Gf.div_lt (hR _ _) (hR _ _)), Nat.xor_zero]
theorem lowC_top {n c m i : Nat} {R : Mx} (a b : Nat) (h : a ≤ c) : lowC R c m i a b = R a b := by unfold lowC; rw [if_neg (fun h2 => by omega)]
theorem hold1_low {n c : Nat} {x : Nat → Nat} {R : Mx} (hR : small R) (hx : ∀ k, x k < 256) (hc : c < n) (hz : ∀ b, b < c → R c b = 0) (h : hold1 n x (lowC R c (n + 1) n)) : hold1 n x R := by
  have hcr := h c hc
  have e0 : ∀ a, a ≤ c → fn n 0 x (lowC R c (n + 1) n) a = fn n 0 x R a := fun a ha => sumX_congr (fun k hk => by rw [lowC_top (n := n) a _ ha])
  rw [e0 c (Nat.le_refl _), lowC_top (n := n) c n (Nat.le_refl _)] at hcr
  intro r hr
  by_cases hrc : r ≤ c
  · have := h r hr
    rw [e0 r hrc, lowC_top (n := n) r n hrc] at this
    exact this
  · have h2 := h r hr
    have hf := Gf.div_lt (hR r c) (hR c c)
    have e : fn n 0 x (lowC R c (n + 1) n) r = fn n 0 x R r ^^^ Gf.mul (Gf.div (R r c) (R c c)) (fn n 0 x R c) := by
      unfold fn
      rw [← sumX_mul hf (fun k _ => Gf.mul_lt (hR _ _) _), ← sumX_xor]
      refine sumX_congr (fun k hk => ?_)
      rw [lowC_row hR hz r (0 + k) (by omega) hr (by omega), Gf.xor_mul _ (hR _ _) (Gf.mul_lt hf _), Gf.mul_assoc hf (hR _ _) (hx k)]
    rw [e, lowC_row hR hz r n (by omega) hr (by omega), hcr] at h2
    have h3 := congrArg (fun z => z ^^^ Gf.mul (Gf.div (R r c) (R c c)) (R c n)) h2
    simp only [Nat.xor_assoc, Nat.xor_self, Nat.xor_zero] at h3
    exact h3
/-- The elimination's end: upper rows, none of whose first numbers is 0, and what they hold for the first rows hold for. -/
theorem eli_ok (n : Nat) : ∀ d c (R W : Mx), c + d = n → small R → lowZ n c R → (∀ a, a < c → R a a ≠ 0) → (∀ a b, c ≤ a → a < n → b < n → R a b = W a b) → swRun n n d c c W = n →
    small (eliRun n d c R) ∧ lowZ n n (eliRun n d c R) ∧ (∀ a, a < n → eliRun n d c R a a ≠ 0) ∧ (∀ e, e < d → True) ∧ ∀ x, (∀ k, x k < 256) → hold1 n x (eliRun n d c R) → hold1 n x R
  | 0, c, R, W, hcd, hR, hz, hd, hW, h => by
    have hcn : c = n := by omega
    subst hcn
    exact ⟨hR, hz, hd, fun _ _ => trivial, fun x _ h => h⟩
  | d + 1, c, R, W, hcd, hR, hz, hd, hW, h => by
    have hf := fnz_same (R := R) (W := W) (c := c) (n := n) (n - c) c (by omega) (fun a h1 h2 => hW a c h1 h2 (by omega))
    rw [swRun] at h
    by_cases hp : fnz W c (n - c) c < n
    · rw [if_pos hp] at h
      obtain ⟨p, hpe⟩ : ∃ p, p = fnz R c (n - c) c := ⟨_, rfl⟩
      have hge : c ≤ p := by rw [hpe]; exact (fnz_ge R c (n - c) c).1
      have hpn : p < n := by rw [hpe, hf]; exact hp
      have hne : R p c ≠ 0 := by rw [hpe]; exact fnz_ne R c (n - c) c (by rw [hf]; omega)
      rw [← hf, ← hpe] at h
      have hRs := small_swap hR c p
      have hpiv : swapR R c p c c = R p c := swap_at _ _ _ _
      have hzs : ∀ a b, b < c → b < a → a < n → swapR R c p a b = 0 := fun a b hb hba ha => by
        unfold swapR
        by_cases h1 : a < c
        · have e : swp c p a = a := by unfold swp; rw [if_neg (by omega), if_neg (by omega)]
          rw [e]
          exact hz a b hb hba ha
        · exact hz _ b hb (by have := swp_ge hge (show c ≤ a by omega); omega) (swp_lt (by omega) hpn ha)
      have hzc : ∀ b, b < c → swapR R c p c b = 0 := fun b hb => hzs c b hb hb (by omega)
      have hz2 : lowZ n (c + 1) (lowC (swapR R c p) c (n + 1) n) := fun a b hb hba ha => by
        by_cases h1 : a ≤ c
        · rw [lowC_top (n := n) a b h1]
          exact hzs a b (by omega) hba ha
        · rw [lowC_row hRs hzc a b (by omega) ha (by omega)]
          by_cases h2 : b < c
          · rw [hzs a b h2 hba ha, hzc b h2, Gf.mul_zero (Gf.div_lt (hRs _ _) (hRs _ _))]; rfl
          · have hbc : b = c := by omega
            subst hbc
            rw [Gf.div_mul (hRs _ _) (Nat.pos_of_ne_zero (by rw [hpiv]; exact hne)) (hRs _ _), Nat.xor_self]
      have hd2 : ∀ a, a < c + 1 → lowC (swapR R c p) c (n + 1) n a a ≠ 0 := fun a ha => by
        rw [lowC_top (n := n) a a (by omega)]
        by_cases h1 : a = c
        · subst h1; rw [hpiv]; exact hne
        · unfold swapR
          have e : swp c p a = a := by unfold swp; rw [if_neg h1, if_neg (by omega)]
          rw [e]
          exact hd a (by omega)
      have hW2 : ∀ a b, c + 1 ≤ a → a < n → b < n → lowC (swapR R c p) c (n + 1) n a b = swStep n n c c p W a b := fun a b h1 h2 h3 => by
        have hsw : ∀ q b, c ≤ q → q < n → b < n → swapR R c p q b = swapR W c p q b := fun q b h4 h5 h6 => hW _ b (swp_ge hge h4) (swp_lt (by omega) hpn h5) h6
        rw [lowC_row hRs hzc a b (by omega) h2 (by omega)]
        unfold swStep lowAll
        rw [if_pos ⟨by omega, h2, h3⟩, hsw a b (by omega) h2 h3, hsw a c (by omega) h2 (by omega), hsw c c (Nat.le_refl _) (by omega) (by omega), hsw c b (Nat.le_refl _) (by omega) h3]
      obtain ⟨g1, g2, g3, g4, g5⟩ := eli_ok n d (c + 1) _ _ (by omega) (small_lowC hRs c (n + 1) n) hz2 hd2 hW2 h
      rw [eliRun, ← hpe]
      exact ⟨g1, g2, g3, fun _ _ => trivial, fun x hx hh => hold1_swap (by omega) hpn (hold1_low hRs hx (by omega) hzc (g5 x hx hh))⟩
    · rw [if_neg hp] at h
      exfalso
      have key : ∀ d c r (W : Mx), swRun n n d c r W ≤ r + d := by
        intro d
        induction d with
        | zero => intro c r W; exact Nat.le_refl _
        | succ d ih =>
          intro c r W
          rw [swRun]
          split
          · have := ih (c + 1) (r + 1) (swStep n n c r (fnz W c (n - r) r) W); omega
          · have := ih (c + 1) r W; omega
      have := key d (c + 1) c W
      omega
/-! ### Substitution, from the last row on -/
def sAcc (R : Mx) (x : Nat → Nat) (n i : Nat) : Nat → Nat
  | 0 => R i n
  | e + 1 => sAcc R x n i e ^^^ Gf.mul (R i (i + 1 + e)) (x (i + 1 + e))
def subX (R : Mx) (n : Nat) : Nat → Nat → Nat
  | 0 => fun _ => 0
  | d + 1 => fun k => if k = n - 1 - d then Gf.div (sAcc R (subX R n d) n (n - 1 - d) d) (R (n - 1 - d) (n - 1 - d)) else subX R n d k
theorem sAcc_is (R : Mx) (x : Nat → Nat) (n i : Nat) : ∀ e, sAcc R x n i e = R i n ^^^ sumX (fun q => Gf.mul (R i (i + 1 + q)) (x (i + 1 + q))) e
  | 0 => by rw [sAcc, sumX, Nat.xor_zero]
  | e + 1 => by rw [sAcc, sumX, sAcc_is R x n i e, Nat.xor_assoc]
theorem sumX_from {f : Nat → Nat} {i : Nat} (h : ∀ j, j < i → f j = 0) : ∀ e, sumX f (i + 1 + e) = f i ^^^ sumX (fun q => f (i + 1 + q)) e
  | 0 => by
    show sumX f i ^^^ f i = f i ^^^ 0
    rw [sumX_zero h, Nat.zero_xor, Nat.xor_zero]
  | e + 1 => by
    show sumX f (i + 1 + e) ^^^ f (i + 1 + e) = f i ^^^ (sumX (fun q => f (i + 1 + q)) e ^^^ f (i + 1 + e))
    rw [sumX_from h e, Nat.xor_assoc]
theorem sub_ok {n : Nat} {R : Mx} (hR : small R) (hz : lowZ n n R) (hd : ∀ a, a < n → R a a ≠ 0) : ∀ d, d ≤ n → (∀ k, subX R n d k < 256) ∧ ∀ i, n - d ≤ i → i < n → fn n 0 (subX R n d) R i = R i n
  | 0, _ => ⟨fun k => by show (0 : Nat) < 256; decide, fun i h1 h2 => by omega⟩
  | d + 1, h => by
    obtain ⟨g1, g2⟩ := sub_ok hR hz hd d (by omega)
    obtain ⟨i, hi⟩ : ∃ i, i = n - 1 - d := ⟨_, rfl⟩
    have hin : i < n := by omega
    have hs : sAcc R (subX R n d) n i d < 256 := by
      rw [sAcc_is]
      exact Gf.xor_lt (hR _ _) (sumX_lt (fun q _ => Gf.mul_lt (hR _ _) _))
    have hx : ∀ k, subX R n (d + 1) k = if k = i then Gf.div (sAcc R (subX R n d) n i d) (R i i) else subX R n d k := fun k => by rw [subX, ← hi]
    have hsm : ∀ k, subX R n (d + 1) k < 256 := fun k => by
      rw [hx]
      split
      · exact Gf.div_lt hs (hR _ _)
      · exact g1 k
    refine ⟨hsm, fun r h1 h2 => ?_⟩
    by_cases hri : r = i
    · subst hri
      have hn : n = r + 1 + d := by omega
      have e : fn n 0 (subX R n (d + 1)) R r = Gf.mul (R r r) (subX R n (d + 1) r) ^^^ sumX (fun q => Gf.mul (R r (r + 1 + q)) (subX R n d (r + 1 + q))) d := by
        have h3 : fn n 0 (subX R n (d + 1)) R r = sumX (fun j => Gf.mul (R r j) (subX R n (d + 1) j)) (r + 1 + d) := by
          unfold fn
          rw [← hn]
          exact sumX_congr (fun k hk => by rw [Nat.zero_add])
        rw [h3, sumX_from (fun j hj => by rw [hz r j (by omega) hj h2, Gf.zero_mul])]
        congr 1
        refine sumX_congr (fun q hq => ?_)
        rw [hx (r + 1 + q), if_neg (by omega)]
      rw [e, hx r, if_pos rfl, Gf.mul_comm (hR _ _) (Gf.div_lt hs (hR _ _)), Gf.div_mul hs (Nat.pos_of_ne_zero (hd r h2)) (hR _ _), sAcc_is, Nat.xor_assoc, Nat.xor_self, Nat.xor_zero]
    · rw [← g2 r (by omega) h2]
      unfold fn
      refine sumX_congr (fun k hk => ?_)
      by_cases hki : k = i
      · subst hki
        rw [Nat.zero_add, hz r k (by omega) (by omega) h2, Gf.zero_mul, Gf.zero_mul]
      · rw [hx k, if_neg hki]
/-- What the solver says for more than four rows. -/
def solE (n : Nat) (W : Mx) : Nat → Nat := subX (eliRun n n 0 W) n n
theorem solE_ok {n : Nat} {A W : Mx} (hW : small W) (hA : ∀ r j, r < n → j < n → W r j = A r j) (hrank : swRun n n n 0 0 A = n) : (∀ k, solE n W k < 256) ∧ ∀ r, r < n → sumX (fun j => Gf.mul (A r j) (solE n W j)) n = W r n := by
  obtain ⟨g1, g2, g3, _, g5⟩ := eli_ok n n 0 W A (by omega) hW (fun a b hb _ _ => absurd hb (Nat.not_lt_zero _)) (fun a ha => absurd ha (Nat.not_lt_zero _)) (fun a b _ ha hb => hA a b ha hb) hrank
  obtain ⟨h1, h2⟩ := sub_ok g1 g2 g3 n (Nat.le_refl _)
  refine ⟨h1, fun r hr => ?_⟩
  rw [← g5 (solE n W) h1 (fun q hq => h2 q (by omega) hq) r hr]
  unfold fn
  exact sumX_congr (fun k hk => by rw [Nat.zero_add, hA r k hr hk])
end Go.Proofs.Ytpaenlplpaabjaa.Det
