/- The solver's elimination over plain numbers: its steps, one by one. No conditions. -/
import Derived.Test.YtpaenlplpaabjaaPureEli
set_option linter.unusedVariables false
set_option linter.unusedSimpArgs false
namespace Go.Proofs.Ytpaenlplpaabjaa.Det
open Go.Proofs.Ytpaenlplpaabjaa.QMatInverts Go.RowKit Go.Proofs.YtpaenlplpaabjaaW.PrintWords Go.Proofs.YtpaenlplpaabjaaW.PrintLast Go.Proofs.YtpaenlplpaabjaaW.PrintMore
open Go.Proofs.Ytpaenlplpaabjaa.MatB
/-- Every column's first number that is not 0 lies among the rows. -/
def pivs (n : Nat) : Nat → Nat → Mx → Prop
  | 0, _, _ => True
  | d + 1, c, R => fnz R c (n - c) c < n ∧ pivs n d (c + 1) (lowC (swapR R c (fnz R c (n - c) c)) c (n + 1) n)
theorem pivs_ok (n : Nat) : ∀ d c (R W : Mx), c + d = n → small R → lowZ n c R → (∀ a b, c ≤ a → a < n → b < n → R a b = W a b) → swRun n n d c c W = n → pivs n d c R
  | 0, c, R, W, hcd, hR, hz, hW, h => trivial
  | d + 1, c, R, W, hcd, hR, hz, hW, h => by
    have hf := fnz_same (R := R) (W := W) (c := c) (n := n) (n - c) c (by omega) (fun a h1 h2 => hW a c h1 h2 (by omega))
    rw [swRun] at h
    by_cases hp : fnz W c (n - c) c < n
    · rw [if_pos hp] at h
      obtain ⟨p, hpe⟩ : ∃ p, p = fnz R c (n - c) c := ⟨_, rfl⟩
      have hge : c ≤ p := by rw [hpe]; exact (fnz_ge R c (n - c) c).1
      have hpn : p < n := by rw [hpe, hf]; exact hp
      have hne : R p c ≠ 0 := by rw [hpe]; exact fnz_ne R c (n - c) c (by rw [hf]; omega)
      rw [← hf, ← hpe] at h
      have hRs := small_swap hR c p
      have hpiv : swapR R c p c c = R p c := swap_at _ _ _ _
      have hzs : ∀ a b, b < c → b < a → a < n → swapR R c p a b = 0 := fun a b hb hba ha => by
        unfold swapR
        by_cases h1 : a < c
        · have e : swp c p a = a := by unfold swp; rw [if_neg (by omega), if_neg (by omega)]
          rw [e]
          exact hz a b hb hba ha
        · exact hz _ b hb (by have := swp_ge hge (show c ≤ a by omega); omega) (swp_lt (by omega) hpn ha)
      have hzc : ∀ b, b < c → swapR R c p c b = 0 := fun b hb => hzs c b hb hb (by omega)
      have hz2 : lowZ n (c + 1) (lowC (swapR R c p) c (n + 1) n) := fun a b hb hba ha => by
        by_cases h1 : a ≤ c
        · rw [lowC_top (n := n) a b h1]
          exact hzs a b (by omega) hba ha
        · rw [lowC_row hRs hzc a b (by omega) ha (by omega)]
          by_cases h2 : b < c
          · rw [hzs a b h2 hba ha, hzc b h2, Gf.mul_zero (Gf.div_lt (hRs _ _) (hRs _ _))]; rfl
          · have hbc : b = c := by omega
            subst hbc
            rw [Gf.div_mul (hRs _ _) (Nat.pos_of_ne_zero (by rw [hpiv]; exact hne)) (hRs _ _), Nat.xor_self]
      have hW2 : ∀ a b, c + 1 ≤ a → a < n → b < n → lowC (swapR R c p) c (n + 1) n a b = swStep n n c c p W a b := fun a b h1 h2 h3 => by
        have hsw : ∀ q b, c ≤ q → q < n → b < n → swapR R c p q b = swapR W c p q b := fun q b h4 h5 h6 => hW _ b (swp_ge hge h4) (swp_lt (by omega) hpn h5) h6
        rw [lowC_row hRs hzc a b (by omega) h2 (by omega)]
        unfold swStep lowAll
        rw [if_pos ⟨by omega, h2, h3⟩, hsw a b (by omega) h2 h3, hsw a c (by omega) h2 (by omega), hsw c c (Nat.le_refl _) (by omega) (by omega), hsw c b (Nat.le_refl _) (by omega) h3]
      rw [pivs, ← hpe]
      exact ⟨hpn, pivs_ok n d (c + 1) _ _ (by omega) (small_lowC hRs c (n + 1) n) hz2 hW2 h⟩
    · exfalso
      rw [if_neg hp] at h
      have key : ∀ d c r (W : Mx), swRun n n d c r W ≤ r + d := by
        intro d
        induction d with
        | zero => intro c r W; exact Nat.le_refl _
        | succ d ih =>
          intro c r W
          rw [swRun]
          split
          · have := ih (c + 1) (r + 1) (swStep n n c r (fnz W c (n - r) r) W); omega
          · have := ih (c + 1) r W; omega
      have := key d (c + 1) c W
      omega
theorem pivs_next {n d c p : Nat} {R : Mx} (h : pivs n (d + 1) c R) (hp : fnz R c (n - c) c = p) : p < n ∧ pivs n d (c + 1) (lowC (swapR R c p) c (n + 1) n) := by subst hp; exact h
theorem eli_next {n d c p : Nat} {R R' : Mx} (h : eliRun n (d + 1) c R = R') (hp : fnz R c (n - c) c = p) : eliRun n d (c + 1) (lowC (swapR R c p) c (n + 1) n) = R' := by subst hp; exact h
/-- Row j's part of the step: columns c to k - 1. -/
def elimF (R : Mx) (c j f k : Nat) : Mx := fun a b => if a = j ∧ c ≤ b ∧ b < k then R a b ^^^ Gf.mul f (R c b) else R a b
theorem elimF_zero (R : Mx) (c j f : Nat) : elimF R c j f c = R := by funext a b; unfold elimF; rw [if_neg (fun h => by omega)]
theorem elimF_at (R : Mx) (c j f k : Nat) : elimF R c j f k j k = R j k := by unfold elimF; rw [if_neg (fun h => by omega)]
theorem elimF_piv (R : Mx) (c j f k b : Nat) (h : j ≠ c) : elimF R c j f k c b = R c b := by unfold elimF; rw [if_neg (fun h2 => h h2.1.symm)]
theorem elimF_set (R : Mx) (c j f k : Nat) (hck : c ≤ k) (hjc : j ≠ c) : setM (fun a b => ((elimF R c j f k a b : Nat) : Int)) j k ((R j k ^^^ Gf.mul f (R c k) : Nat) : Int) = fun a b => ((elimF R c j f (k + 1) a b : Nat) : Int) := by
  funext a b
  unfold setM elimF
  dsimp only
  by_cases ha : a = j
  · subst ha
    by_cases hb : b = k
    · subst hb; rw [if_pos ⟨rfl, rfl⟩, if_pos ⟨rfl, hck, by omega⟩]
    · rw [if_neg (fun h => hb h.2)]
      by_cases hk : c ≤ b ∧ b < k
      · rw [if_pos ⟨rfl, hk⟩, if_pos ⟨rfl, by omega, by omega⟩]
      · rw [if_neg (fun h => hk h.2), if_neg (fun h => hk ⟨h.2.1, by have := h.2; omega⟩)]
  · rw [if_neg (fun h => ha h.1), if_neg (fun h => ha h.1), if_neg (fun h => ha h.1)]
theorem lowC_zero (R : Mx) (c m : Nat) : lowC R c m (c + 1) = R := by funext a b; unfold lowC; rw [if_neg (fun h => by omega)]
theorem lowC_at (R : Mx) (c m j b : Nat) : lowC R c m j j b = R j b := by unfold lowC; rw [if_neg (fun h => by omega)]
theorem lowC_piv (R : Mx) (c m j b : Nat) : lowC R c m j c b = R c b := by unfold lowC; rw [if_neg (fun h => by omega)]
theorem lowC_step (R : Mx) (c m j : Nat) (hcj : c < j) : lowC R c m (j + 1) = elimF (lowC R c m j) c j (Gf.div (R j c) (R c c)) m := by
  funext a b
  unfold elimF
  by_cases ha : a = j ∧ c ≤ b ∧ b < m
  · rw [if_pos ha]
    obtain ⟨ha, hb⟩ := ha
    subst ha
    unfold lowC
    rw [if_pos ⟨hcj, by omega, hb⟩, if_neg (fun h => by omega), if_neg (fun h => by omega)]
  · rw [if_neg ha]
    unfold lowC
    by_cases h : c < a ∧ a < j ∧ c ≤ b ∧ b < m
    · rw [if_pos h, if_pos ⟨h.1, by omega, h.2.2⟩]
    · rw [if_neg h, if_neg (fun h2 => ?_)]
      by_cases h3 : a = j
      · exact ha ⟨h3, h2.2.2⟩
      · exact h ⟨h2.1, by omega, h2.2.2⟩
theorem swp_comm (a b i : Nat) : swp a b i = swp b a i := by unfold swp; split <;> split <;> simp_all
theorem swapR_comm (R : Mx) (a b : Nat) : swapR R a b = swapR R b a := by funext i; unfold swapR; rw [swp_comm]
/-- The matrix with v beside its first i rows. -/
def widM (A : Mx) (n : Nat) (v : Nat → Nat) (i : Nat) : Mx := fun a b => if a < i ∧ b = n then v a else A a b
theorem wid_zero (A : Mx) (n : Nat) (v : Nat → Nat) : widM A n v 0 = A := by funext a b; unfold widM; rw [if_neg (fun h => by omega)]
theorem small_wid {A : Mx} (h : small A) (n : Nat) {v : Nat → Nat} (hv : ∀ a, v a < 256) (i : Nat) : small (widM A n v i) := fun a b => by
  unfold widM; split
  · exact hv a
  · exact h a b
/-- What substitution has found, from the last row on, as a list. -/
def outE (R : Mx) (n e : Nat) : List Int := (List.range n).map (fun q => ((subX R n e q : Nat) : Int))
theorem outE_len (R : Mx) (n e : Nat) : (outE R n e).length = n := by unfold outE; rw [List.length_map, List.length_range]
theorem outE_zero (R : Mx) (n : Nat) : outE R n 0 = List.replicate n 0 := by
  unfold outE
  apply List.ext_getElem?
  intro j
  by_cases h : j < n
  · rw [List.getElem?_map, List.getElem?_eq_getElem (by rw [List.length_range]; exact h), List.getElem?_replicate, if_pos h]; rfl
  · rw [List.getElem?_eq_none (by rw [List.length_map, List.length_range]; omega), List.getElem?_eq_none (by rw [List.length_replicate]; omega)]
theorem outE_at (R : Mx) (n e k : Nat) (h : k < n) : (outE R n e).getD k 0 = ((subX R n e k : Nat) : Int) := by
  unfold outE
  rw [List.getD_eq_getElem?_getD, List.getElem?_map, List.getElem?_eq_getElem (by rw [List.length_range]; exact h), List.getElem_range]
  rfl
theorem outE_set (R : Mx) (n e i : Nat) (h : i + 1 + e = n) : (outE R n e).set i ((Gf.div (sAcc R (subX R n e) n i e) (R i i) : Nat) : Int) = outE R n (e + 1) := by
  have hi : i = n - 1 - e := by omega
  apply List.ext_getElem?
  intro j
  rw [List.getElem?_set, outE_len]
  by_cases hj : j < n
  · have hx : subX R n (e + 1) j = if j = i then Gf.div (sAcc R (subX R n e) n i e) (R i i) else subX R n e j := by rw [subX, ← hi]
    unfold outE
    rw [List.getElem?_map, List.getElem?_map, List.getElem?_eq_getElem (by rw [List.length_range]; exact hj), List.getElem_range]
    show _ = some (((subX R n (e + 1) j : Nat)) : Int)
    rw [hx]
    by_cases e2 : i = j
    · subst e2
      rw [if_pos rfl, if_pos hj, if_pos rfl]
    · rw [if_neg e2, if_neg (Ne.symm e2)]
      rfl
  · rw [if_neg (by omega), List.getElem?_eq_none (by rw [outE_len]; omega), List.getElem?_eq_none (by rw [outE_len]; omega)]
theorem sAcc_lt {R : Mx} (hR : small R) {x : Nat → Nat} (n i : Nat) : ∀ e, sAcc R x n i e < 256
  | 0 => hR _ _
  | e + 1 => Gf.xor_lt (sAcc_lt hR n i e) (Gf.mul_lt (hR _ _) _)
theorem subX_lt {R : Mx} (hR : small R) (n : Nat) : ∀ d k, subX R n d k < 256
  | 0, k => by show (0 : Nat) < 256; decide
  | d + 1, k => by
    rw [subX]
    show (if k = n - 1 - d then Gf.div (sAcc R (subX R n d) n (n - 1 - d) d) (R (n - 1 - d) (n - 1 - d)) else subX R n d k) < 256
    split
    · exact Gf.div_lt (sAcc_lt hR _ _ _) (hR _ _)
    · exact subX_lt hR n d k
theorem small_eli {n : Nat} : ∀ d c (R : Mx), small R → small (eliRun n d c R)
  | 0, _, R, h => h
  | d + 1, c, R, h => small_eli d (c + 1) _ (small_lowC (small_swap h _ _) _ _ _)
end Go.Proofs.Ytpaenlplpaabjaa.Det
