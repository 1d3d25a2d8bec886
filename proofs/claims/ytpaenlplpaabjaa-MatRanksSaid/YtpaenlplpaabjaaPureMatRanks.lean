/- MatRanks: the two answers are one, over plain numbers and lists, for every argument; no conditions. -/
import Derived.Test.YtpaenlplpaabjaaQMatRanksx3
set_option linter.unusedVariables false
set_option linter.unusedSimpArgs false
namespace Go.Proofs.Ytpaenlplpaabjaa.Pure
open Go.Proofs.Ytpaenlplpaabjaa.QMatRanks Go.RowKit Go.Proofs.YtpaenlplpaabjaaW.PrintWords Go.Proofs.YtpaenlplpaabjaaW.PrintLast Go.Proofs.YtpaenlplpaabjaaW.PrintMore
open Go.RowKit Go.Proofs.YtpaenlplpaabjaaW.PrintWords Go.Proofs.YtpaenlplpaabjaaW.PrintLast Go.Proofs.Ytpaenlplpaabjaa.MatB
theorem element_is (a : Int) : quicksetref_Element.f a = some (elB a) := by
  unfold quicksetref_Element.f elB
  by_cases h : a ≥ 0
  · rw [if_pos h, decide_eq_true (show 0 ≤ a from h), Bool.true_and]
    congr 1
    rw [decide_eq_decide]; omega
  · rw [if_neg h, decide_eq_false (show ¬ 0 ≤ a from h), Bool.false_and]
def refRows (n : Nat) (l : List (List Int)) : Bool := l.all fun r => decide (r.length = n) && r.all elB
theorem refmay_row (m : List (List Int)) (i : Nat) (r : List Int) (hl : r.length < 1000000000000000) (q : Bool) (hq : ∃ k, quicksetref_MatMay.l0 k m m (m.length : Int) (wrap64 ((i : Int) + 1)) = some q) :
    ∀ d j, j + d = r.length → ∃ k, quicksetref_MatMay.l1 k m m (m.length : Int) (i : Int) r (r.length : Int) (j : Int) = some ((r.drop j).all elB && q)
  | 0, j, hj => by
    obtain ⟨k, hk⟩ := hq
    refine ⟨k + 1, ?_⟩
    simp only [quicksetref_MatMay.l1]
    rw [if_neg (by omega), List.drop_eq_nil_of_le (by omega), hk]; rfl
  | d + 1, j, hj => by
    obtain ⟨k, hk⟩ := refmay_row m i r hl q hq d (j + 1) (by omega)
    refine ⟨k + 1, ?_⟩
    simp only [quicksetref_MatMay.l1]
    rw [if_pos (by omega), if_pos (by omega), if_pos (by omega), element_is, bsome, wrap_suc j (by omega), hk, rd_cons r j (by omega), List.all_cons]
    cases elB (rd r j) <;> simp
theorem refmay_loop (m : List (List Int)) (hl : m.length ≤ 8) (hr : ∀ r ∈ m, r.length < 1000000000000000) : ∀ d i, i + d = m.length → ∃ k, quicksetref_MatMay.l0 k m m (m.length : Int) (i : Int) = some (refRows (rd_L1 m 0).length (m.drop i))
  | 0, i, hi => ⟨1, by simp only [quicksetref_MatMay.l0]; rw [if_neg (by omega), List.drop_eq_nil_of_le (by omega)]; rfl⟩
  | d + 1, i, hi => by
    have hn := refmay_loop m hl hr d (i + 1) (by omega)
    rw [← wrap_suc i (by omega)] at hn
    obtain ⟨k, hk⟩ := refmay_row m i (rd_L1 m i) (hr _ (L1_mem i (by omega))) _ hn (rd_L1 m i).length 0 (by omega)
    refine ⟨k + 1, ?_⟩
    simp only [quicksetref_MatMay.l0]
    rw [if_pos (by omega), if_pos (by omega), if_pos (by omega), if_pos (by omega), L1_cons m i (by omega)]
    simp only [refRows, List.all_cons] at hk ⊢
    by_cases h0 : ((rd_L1 m i).length : Int) = ((rd_L1 m 0).length : Int)
    · rw [if_pos h0, decide_eq_true (show (rd_L1 m i).length = (rd_L1 m 0).length from by omega), Bool.true_and, show (0 : Int) = ((0 : Nat) : Int) from rfl, hk]
      simp
    · rw [if_neg h0, decide_eq_false (show ¬ (rd_L1 m i).length = (rd_L1 m 0).length from by omega)]
      simp
theorem refRows_is (m : List (List Int)) (hl : 1 ≤ m.length) : (decide ((rd_L1 m 0).length ≠ 0) && decide ((rd_L1 m 0).length ≤ 8) && refRows (rd_L1 m 0).length m) = m.all (rowB (rd_L1 m 0).length) := by
  rw [Bool.eq_iff_iff]
  simp only [refRows, rowB, Bool.and_eq_true, decide_eq_true_eq, List.all_eq_true]
  constructor
  · rintro ⟨⟨h1, h2⟩, h3⟩ r hr
    have := h3 r hr
    exact ⟨⟨⟨this.1, by omega⟩, by omega⟩, this.2⟩
  · intro h
    have h0 := h (rd_L1 m 0) (L1_mem 0 (by omega))
    exact ⟨⟨by omega, by omega⟩, fun r hr => ⟨(h r hr).1.1.1, (h r hr).2⟩⟩
theorem refmay_is (m : List (List Int)) (hr : ∀ r ∈ m, r.length < 1000000000000000) : ∃ k, quicksetref_MatMay.f k m = some (mayB m) := by
  by_cases h0 : (m.length : Int) = 0
  · refine ⟨1, ?_⟩
    simp only [quicksetref_MatMay.f, quicksetref_MatMay.j0]
    rw [if_pos h0, if_pos trivial]; simp [mayB, show ¬ 1 ≤ m.length from by omega]
  · by_cases h1 : (m.length : Int) > 8
    · refine ⟨1, ?_⟩
      simp only [quicksetref_MatMay.f, quicksetref_MatMay.j0]
      rw [if_neg h0, if_pos h1, if_pos trivial]; simp [mayB, show ¬ m.length ≤ 8 from by omega]
    · have e := refRows_is m (by omega)
      have eb : mayB m = (decide ((rd_L1 m 0).length ≠ 0) && decide ((rd_L1 m 0).length ≤ 8) && refRows (rd_L1 m 0).length m) := by
        rw [e]; simp [mayB, show 1 ≤ m.length from by omega, show m.length ≤ 8 from by omega]
      rw [eb]
      by_cases h2 : ((rd_L1 m 0).length : Int) = 0
      · refine ⟨1, ?_⟩
        simp only [quicksetref_MatMay.f, quicksetref_MatMay.j0]
        rw [if_neg h0, if_neg h1, if_pos (by omega), if_pos h2, if_pos trivial]; simp [show (rd_L1 m 0).length = 0 from by omega]
      · by_cases h3 : ((rd_L1 m 0).length : Int) > 8
        · refine ⟨1, ?_⟩
          simp only [quicksetref_MatMay.f, quicksetref_MatMay.j0]
          rw [if_neg h0, if_neg h1, if_pos (by omega), if_neg h2, if_pos (by simpa using h3)]; simp [show ¬ (rd_L1 m 0).length ≤ 8 from by omega]
        · obtain ⟨k, hk⟩ := refmay_loop m (by omega) hr m.length 0 (by omega)
          refine ⟨k + 1, ?_⟩
          simp only [quicksetref_MatMay.f, quicksetref_MatMay.j0]
          rw [if_neg h0, if_neg h1, if_pos (by omega), if_neg h2, if_neg (by simpa using h3), show (0 : Int) = ((0 : Nat) : Int) from rfl, hk]
          have n0 : (rd_L1 m 0).length ≠ 0 := by omega
          have n8 : (rd_L1 m 0).length ≤ 8 := by omega
          simp [n0, n8]
theorem fnz_same {R W : Mx} {c n : Nat} : ∀ d i, i + d ≤ n → (∀ a, i ≤ a → a < n → R a c = W a c) → fnz R c d i = fnz W c d i
  | 0, _, _, _ => rfl
  | d + 1, i, h, he => by
    rw [fnz, fnz, he i (Nat.le_refl _) (by omega), fnz_same d (i + 1) (by omega) (fun a h1 h2 => he a (by omega) h2)]
theorem sw_full (n m : Nat) : ∀ d c r (W : Mx), n ≤ r → swRun n m d c r W = r
  | 0, _, _, _, _ => rfl
  | d + 1, c, r, W, h => by
    have h2 := fnz_ge W c (n - r) r
    rw [swRun, if_neg (by omega)]
    exact sw_full n m d (c + 1) r W h
theorem swp_ge {r p a : Nat} (hp : r ≤ p) (ha : r ≤ a) : r ≤ swp r p a := by unfold swp; split; exact hp; split <;> omega
theorem step_same {R W : Mx} {n m c r p : Nat} (hR : small R) (he : ∀ a b, r ≤ a → a < n → b < m → R a b = W a b) (hp : r ≤ p) (hpn : p < n) (hc : c < m) (a b : Nat) (ha : r + 1 ≤ a) (han : a < n) (hb : b < m) :
    stepP n m c r p R a b = lowAll (swapR W r p) r c m n a b := by
  have hr : r ≤ swp r p a ∧ swp r p a < n := ⟨swp_ge hp (by omega), swp_lt (by omega) hpn han⟩
  have hrr : swp r p r = p := by unfold swp; rw [if_pos rfl]
  unfold stepP elimAll lowAll
  rw [if_pos ⟨han, by omega, hb⟩, if_pos ⟨by omega, han, hb⟩]
  have e1 : ∀ j, normR (swapR R r p) r (Gf.inv (R p c)) m a j = R (swp r p a) j := fun j => by unfold normR; rw [if_neg (fun h => by omega)]; rfl
  have e2 : normR (swapR R r p) r (Gf.inv (R p c)) m r b = Gf.mul (R p b) (Gf.inv (R p c)) := by unfold normR; rw [if_pos ⟨rfl, hb⟩]; unfold swapR; rw [hrr]
  rw [e1, e1, e2]
  unfold swapR Gf.div
  rw [hrr, ← he _ b hr.1 hr.2 hb, ← he _ c hr.1 hr.2 hc, ← he p c hp hpn hc, ← he p b hp hpn hb]
  have hi := Gf.inv_lt (hR p c)
  rw [Gf.mul_right_comm _ _ (hR _ _), Gf.mul_assoc (hR _ _) (hR _ _) hi]
theorem rank_same (n m : Nat) : ∀ d c r (R W : Mx), (∀ a b, r ≤ a → a < n → b < m → R a b = W a b) → c + d ≤ m → r ≤ n → small R → (redRun n m d c r R).1 = swRun n m d c r W
  | 0, _, _, _, _, _, _, _, _ => rfl
  | d + 1, c, r, R, W, he, hd, hrn, hR => by
    rw [redRun]
    by_cases hr : r < n
    · have hf := fnz_same (R := R) (W := W) (c := c) (n := n) (n - r) r (by omega) (fun a h1 h2 => he a c h1 h2 (by omega))
      rw [if_pos hr, swRun, hf]
      by_cases hp : fnz W c (n - r) r < n
      · rw [if_pos hp, if_pos hp]
        refine rank_same n m d (c + 1) (r + 1) _ _ (fun a b h1 h2 h3 => ?_) (by omega) (by omega) (small_step hR _ _ _ _ _)
        exact step_same hR he (fnz_ge W c (n - r) r).1 hp (by omega) a b h1 h2 h3
      · rw [if_neg hp, if_neg hp]
        exact rank_same n m d (c + 1) r R W he (by omega) hrn hR
    · rw [if_neg hr, sw_full n m _ c r W (by omega)]
theorem MatRanks (l0 : List (List Int)) (h0 : l0.length * 24 ≤ 140737488351232) (h1 : ∀ x ∈ l0, (x.length * 8 ≤ 140737488351232 ∧ ∀ y ∈ x, (Lit.int .i64 y).wf = true)) : ∃ k, quicksetlaw_MatRanks.f k l0 = some true := by
  have hr : ∀ r ∈ l0, r.length < 1000000000000000 := fun r hr => by have := (h1 r hr).1; omega
  obtain ⟨k, h1, h2⟩ := together (fun k => mat_May.mono l0 k) (fun k => quicksetref_MatMay.mono l0 k) (may_is l0 hr) (refmay_is l0 hr)
  refine ⟨k, ?_⟩
  unfold quicksetlaw_MatRanks.f mat_Rank.f quicksetref_MatRank.f quicksetref_swept.f
  rw [h1, h2, bsome, bsome]
  by_cases hm : mayB l0 = true
  · have hs := rank_same l0.length (rd_L1 l0 0).length (rd_L1 l0 0).length 0 0 (natM l0) (natM l0) (fun _ _ _ _ _ => rfl) (by omega) (Nat.zero_le _) (natM_small l0 (may_all hm).2)
    simp only [if_pos hm, bsome]
    rw [hs, if_pos rfl]
    rfl
  · simp only [if_neg hm, bsome]
    rfl
end Go.Proofs.Ytpaenlplpaabjaa.Pure
