/- CombAts: the two answers are one, over plain numbers and lists, for every argument; no conditions. -/
import Derived.Test.YtgibkbiofdmiaaaHCombAtsx2
set_option linter.unusedVariables false
set_option linter.unusedSimpArgs false
namespace Go.Proofs.Ytgibkbiofdmiaaa.Pure
open Go.RowKit Go.Proofs.Ytgibkbiofdmiaaa Go.Proofs.Ytgibkbiofdmiaaa.PCombAts Go.Proofs.YtgibkbiofdmiaaaW.PrintWords Go.Proofs.YtgibkbiofdmiaaaW.PrintLast Go.Proofs.YtgibkbiofdmiaaaW.PrintMore

theorem bsome {α β : Type} (x : α) (f : α → Option β) : (some x).bind f = f x := by
  have h : ∀ o, o = some x → o.bind f = f x := by
    intro o ho
    subst ho
    rfl
  exact h _ rfl
theorem wf64 {a : Int} (h : (Lit.int .i64 a).wf = true) : -9223372036854775808 ≤ a ∧ a ≤ 9223372036854775807 := by
  simp only [Lit.wf, IntKind.min, IntKind.max, IntKind.signed, IntKind.bits, Bool.and_eq_true, decide_eq_true_eq, if_true] at h
  omega
theorem wrap_id {n : Int} (h0 : -9223372036854775808 ≤ n) (h1 : n ≤ 9223372036854775807) : wrap64 n = n := by unfold wrap64; omega
theorem wrap01 : wrap64 (0 + 1) = 1 := wrap_id (n := 0 + 1) (by decide) (by decide)

/-! Picks, and how many there are: Pascal's numbers -/
def bin : Nat → Nat → Nat
  | _, 0 => 1
  | 0, _ + 1 => 0
  | n + 1, k + 1 => bin n k + bin n (k + 1)
def picksN : Nat → Nat → Nat → List (List Int)
  | _, _, 0 => [[]]
  | 0, _, _ + 1 => []
  | d + 1, x, k + 1 => (picksN d (x + 1) k).map (fun p => (x : Int) :: p) ++ picksN d (x + 1) (k + 1)
theorem picksN_len : ∀ d x k, (picksN d x k).length = bin d k
  | 0, _, 0 => rfl
  | _ + 1, _, 0 => rfl
  | 0, _, _ + 1 => rfl
  | d + 1, x, k + 1 => by simp only [picksN, bin, List.length_append, List.length_map, picksN_len d]
theorem picksN_each : ∀ d x k (p : List Int), p ∈ picksN d x k → p.length = k
  | 0, _, 0, p, h => by simp [picksN] at h; simp [h]
  | _ + 1, _, 0, p, h => by simp [picksN] at h; simp [h]
  | 0, _, _ + 1, p, h => by simp [picksN] at h
  | d + 1, x, k + 1, p, h => by
    simp only [picksN, List.mem_append, List.mem_map] at h
    rcases h with ⟨q, hq, rfl⟩ | h
    · simp [picksN_each d _ _ q hq]
    · exact picksN_each d _ _ p h
theorem bin_le : ∀ d k, bin d k ≤ 2 ^ d
  | 0, 0 => by decide
  | d + 1, 0 => by simp only [bin]; exact Nat.one_le_two_pow
  | 0, k + 1 => by simp [bin]
  | d + 1, k + 1 => by simp only [bin]; have := bin_le d k; have := bin_le d (k + 1); rw [Nat.pow_succ]; omega
theorem bin_zero : ∀ d k, d < k → bin d k = 0
  | 0, 0, h => by omega
  | d + 1, 0, h => by omega
  | 0, k + 1, _ => rfl
  | d + 1, k + 1, h => by simp only [bin]; rw [bin_zero d k (by omega), bin_zero d (k + 1) (by omega)]
theorem bin_small {d : Nat} (k : Nat) (h : d ≤ 12) : bin d k ≤ 4096 := Nat.le_trans (bin_le d k) (by have := Nat.pow_le_pow_right (show 0 < 2 by decide) h; simpa using this)
def allB (p : Nat → Bool) : Nat → Bool
  | 0 => true
  | n + 1 => p n && allB p n
theorem allB_at {p : Nat → Bool} : ∀ {n : Nat}, allB p n = true → ∀ i, i < n → p i = true
  | 0, _, i, hi => absurd hi (Nat.not_lt_zero i)
  | n + 1, h, i, hi => by
    simp only [allB, Bool.and_eq_true] at h
    rcases Nat.lt_or_ge i n with hl | hl
    · exact allB_at h.2 i hl
    · have : i = n := by omega
      subst this; exact h.1

def choOk (n k : Nat) : Bool := comb_choose.f 14 (n : Int) (k : Int) == some ((bin n k : Nat) : Int)
theorem cho_all : allB (fun n => allB (fun k => choOk n k) 13) 13 = true := by decide +kernel
theorem choose_is {n k : Nat} (hn : n ≤ 12) (hk : k ≤ 12) {K : Nat} (hK : 14 ≤ K) : comb_choose.f K (n : Int) (k : Int) = some ((bin n k : Nat) : Int) := by
  have h := allB_at (allB_at cho_all n (by omega)) k (by omega)
  simp only [choOk, beq_iff_eq] at h
  exact at_rounds (fun k' => comb_choose.mono _ _ k') hK h

theorem fine_is (n k : Int) : comb_fine.f n k = some (decide (0 ≤ n ∧ n ≤ 12 ∧ 0 ≤ k ∧ k ≤ n)) := by
  unfold comb_fine.f
  repeat' split
  all_goals (congr 1; first | (rw [decide_eq_decide]; omega) | (symm; rw [decide_eq_false_iff_not]; omega))

theorem pickRange_is (n k : Int) : quicksetref_pickRange.f n k = some (!decide (0 ≤ n ∧ n ≤ 12 ∧ 0 ≤ k ∧ k ≤ n)) := by
  unfold quicksetref_pickRange.f
  repeat' split
  all_goals (congr 1; rw [← decide_not]; first | (rw [decide_eq_decide]; omega) | (symm; rw [decide_eq_true_eq]; omega))

theorem rdL_at {L : List (List Int)} {i : Nat} (h : i < L.length) : rd_L1 L (i : Int) = L[i] := by simp [rd_L1, h]
theorem picks_loop (n : Nat) (x k : Nat) (hx : x ≤ 12) (L rest : List (List Int)) (hL : L.length ≤ 4096) (hR : rest.length ≤ 4096) (hp : ∀ p ∈ L, p.length ≤ 12) (hk : ∃ K, quicksetref_picks.f K ((x + 1 : Nat) : Int) (n : Int) (k : Int) = some rest) : ∀ (e i : Nat), i + e = L.length →
    ∃ K, quicksetref_picks.l0 K (x : Int) (n : Int) (k : Int) ((L.take i).map (fun p => (x : Int) :: p)) L (L.length : Int) (i : Int) = some (L.map (fun p => (x : Int) :: p) ++ rest) := by
  intro e
  induction e with
  | zero =>
    intro i hi
    obtain ⟨K, hK⟩ := hk
    refine ⟨K + 1, ?_⟩
    simp only [quicksetref_picks.l0]
    rw [if_neg (by omega), wrap_id (by omega) (by omega), show ((x : Int) + 1) = ((x + 1 : Nat) : Int) from by omega, hK, bsome, List.take_of_length_le (by omega), if_pos (by simp; omega)]
  | succ e ih =>
    intro i hi
    obtain ⟨K, hK⟩ := ih (i + 1) (by omega)
    refine ⟨K + 1, ?_⟩
    have hlt : i < L.length := by omega
    have hpl := hp L[i] (List.getElem_mem hlt)
    simp only [quicksetref_picks.l0]
    rw [if_pos (by omega), if_pos (by omega), if_pos (by omega), bsome, rdL_at hlt, if_pos (by simp; omega), if_pos (by simp; omega), wrap_id (by omega) (by omega), show ((i : Int) + 1) = ((i + 1 : Nat) : Int) from by omega]
    rw [List.take_succ_eq_append_getElem hlt, List.map_append] at hK
    exact hK
theorem picks_is (n : Nat) (hn : n ≤ 12) : ∀ (d x k : Nat), x + d = n → k ≤ 13 → ∃ K, quicksetref_picks.f K (x : Int) (n : Int) (k : Int) = some (picksN d x k) := by
  intro d
  induction d with
  | zero =>
    intro x k hx hk
    refine ⟨1, ?_⟩
    simp only [quicksetref_picks.f]
    cases k with
    | zero => rfl
    | succ k => rw [if_neg (by omega), if_pos (by omega)]; rfl
  | succ d ih =>
    intro x k hx hk
    cases k with
    | zero => exact ⟨1, by simp only [quicksetref_picks.f]; rfl⟩
    | succ k =>
      have hl := picksN_len d (x + 1) k
      have hl' := picksN_len d (x + 1) (k + 1)
      have hb := bin_small (d := d) k (by omega)
      have hb' := bin_small (d := d) (k + 1) (by omega)
      obtain ⟨K2, h2⟩ := picks_loop n x (k + 1) (by omega) (picksN d (x + 1) k) (picksN d (x + 1) (k + 1)) (by omega) (by omega)
        (fun p hp => by
          rcases Nat.lt_or_ge d k with h | h
          · have h0 := bin_zero d k h
            rw [← hl] at h0
            rw [List.eq_nil_of_length_eq_zero h0] at hp
            cases hp
          · have := picksN_each d _ _ p hp
            omega)
        (ih (x + 1) (k + 1) (by omega) (by omega)) (picksN d (x + 1) k).length 0 (by omega)
      obtain ⟨K, h3, h4⟩ := together (fun K => quicksetref_picks.mono _ _ _ K) (fun K => (quicksetref_picks.mono_l K).2 _ _ _ _ _ _ _) (ih (x + 1) k (by omega) (by omega)) ⟨K2, h2⟩
      refine ⟨K + 1, ?_⟩
      simp only [quicksetref_picks.f]
      rw [if_neg (by omega), if_neg (by omega), wrap_id (by omega) (by omega), wrap_id (by omega) (by omega), show ((x : Int) + 1) = ((x + 1 : Nat) : Int) from by omega, show (((k + 1 : Nat) : Int) - 1) = (k : Int) from by omega, h3, bsome]
      exact h4

theorem same_loop (l : List Int) (hl : l.length < 1000000000000000) : ∀ (e i : Nat), i + e = l.length → ∃ k, quicksetlaw_sameInts.l0 k l l (i : Int) = some true := by
  intro e
  induction e with
  | zero =>
    intro i hi
    refine ⟨1, ?_⟩
    simp only [quicksetlaw_sameInts.l0]
    rw [if_neg (by omega)]
  | succ e ih =>
    intro i hi
    obtain ⟨k, hk⟩ := ih (i + 1) (by omega)
    refine ⟨k + 1, ?_⟩
    simp only [quicksetlaw_sameInts.l0]
    rw [if_pos (by omega), if_pos (by omega), if_pos (by omega), if_pos trivial, wrap_id (by omega) (by omega), show ((i : Int) + 1) = ((i + 1 : Nat) : Int) from by omega]
    exact hk
theorem same_is (l : List Int) (hl : l.length < 1000000000000000) : ∃ k, quicksetlaw_sameInts.f k l l = some true := by
  obtain ⟨k, hk⟩ := same_loop l hl l.length 0 (by omega)
  refine ⟨k, ?_⟩
  unfold quicksetlaw_sameInts.f
  rw [if_pos rfl]
  exact hk

theorem getD_left {α : Type} {d : α} {a b : List α} {i : Nat} (h : i < a.length) : (a ++ b).getD i d = a.getD i d := by simp [List.getD_eq_getElem?_getD, List.getElem?_append_left h]
theorem getD_right {α : Type} {d : α} {a b : List α} {i : Nat} (h : a.length ≤ i) : (a ++ b).getD i d = b.getD (i - a.length) d := by simp [List.getD_eq_getElem?_getD, List.getElem?_append_right h]
theorem at_loop (n k : Nat) (hn : n ≤ 12) (hk : k ≤ n) : ∀ (d x r m : Nat) (out : List Int), x + d = n → out.length + r = k → m < bin d r →
    ∃ K, comb_At.l0 K (n : Int) (k : Int) (m : Int) out (x : Int) = some (out ++ (picksN d x r).getD m [], 0) := by
  intro d
  induction d with
  | zero =>
    intro x r m out hx hr hm
    cases r with
    | succ r => simp [bin] at hm
    | zero =>
      refine ⟨1, ?_⟩
      simp only [comb_At.l0]
      have : m = 0 := by simp [bin] at hm; exact hm
      subst this
      rw [if_neg (by omega)]
      simp [picksN]
  | succ d ih =>
    intro x r m out hx hr hm
    cases r with
    | zero =>
      refine ⟨1, ?_⟩
      simp only [comb_At.l0]
      have : m = 0 := by simp [bin] at hm; exact hm
      subst this
      rw [if_neg (by omega)]
      simp [picksN]
    | succ r =>
      have hb := bin_small (d := d) r (by omega)
      have hb' := bin_small (d := d) (r + 1) (by omega)
      have hlen := picksN_len d (x + 1) r
      simp only [bin] at hm
      have hc : ∀ K, 14 ≤ K → comb_choose.f K (wrap64 (wrap64 ((n : Int) - (x : Int)) - 1)) (wrap64 (wrap64 ((k : Int) - (out.length : Int)) - 1)) = some ((bin d r : Nat) : Int) := by
        intro K hK
        rw [wrap_id (n := (n : Int) - x) (by omega) (by omega), wrap_id (n := (n : Int) - x - 1) (by omega) (by omega), wrap_id (n := (k : Int) - out.length) (by omega) (by omega), wrap_id (n := (k : Int) - out.length - 1) (by omega) (by omega),
          show (n : Int) - x - 1 = (d : Int) from by omega, show (k : Int) - out.length - 1 = (r : Int) from by omega]
        exact choose_is (by omega) (by omega) hK
      by_cases hge : bin d r ≤ m
      · obtain ⟨K, hK⟩ := ih (x + 1) (r + 1) (m - bin d r) out (by omega) (by omega) (by omega)
        refine ⟨max K 14 + 1, ?_⟩
        simp only [comb_At.l0]
        rw [if_pos (by omega), hc _ (by omega), bsome, if_pos (by omega), wrap_id (by omega) (by omega), wrap_id (by omega) (by omega), show (m : Int) - ((bin d r : Nat) : Int) = ((m - bin d r : Nat) : Int) from by omega, show ((x : Int) + 1) = ((x + 1 : Nat) : Int) from by omega]
        refine Eq.trans (at_rounds (fun k' => (comb_At.mono_l k').2 _ _ _ _ _) (show K ≤ max K 14 by omega) hK) ?_
        simp only [picksN]
        rw [getD_right (by rw [List.length_map]; omega), List.length_map, hlen]
      · obtain ⟨K, hK⟩ := ih (x + 1) r m (out ++ [(x : Int)]) (by omega) (by simp; omega) (by omega)
        refine ⟨max K 14 + 1, ?_⟩
        simp only [comb_At.l0]
        rw [if_pos (by omega), hc _ (by omega), bsome, if_neg (by omega), if_pos (by omega), wrap_id (by omega) (by omega), show ((x : Int) + 1) = ((x + 1 : Nat) : Int) from by omega]
        refine Eq.trans (at_rounds (fun k' => (comb_At.mono_l k').2 _ _ _ _ _) (show K ≤ max K 14 by omega) hK) ?_
        simp only [picksN]
        rw [getD_left (by rw [List.length_map]; omega)]
        have hlt : m < (picksN d (x + 1) r).length := by omega
        simp [List.getD_eq_getElem?_getD, hlt]
theorem both {n k m : Int} (l : List Int) (e : Int) (hl : l.length < 1000) (A : ∃ K, comb_At.f K n k m = some (l, e)) (B : ∃ K, quicksetref_CombAt.f K n k m = some (l, e)) : ∃ K, quicksetlaw_CombAts.f K n k m = some true := by
  obtain ⟨k1, h1⟩ := A
  obtain ⟨k2, h2⟩ := B
  obtain ⟨k3, h3⟩ := same_is l (by omega)
  refine ⟨max k1 (max k2 k3), ?_⟩
  have g1 := at_rounds (fun k' => comb_At.mono n k m k') (show k1 ≤ max k1 (max k2 k3) by omega) h1
  have g2 := at_rounds (fun k' => quicksetref_CombAt.mono n k m k') (show k2 ≤ max k1 (max k2 k3) by omega) h2
  have g3 := at_rounds (fun k' => quicksetlaw_sameInts.mono l l k') (show k3 ≤ max k1 (max k2 k3) by omega) h3
  unfold quicksetlaw_CombAts.f
  rw [g1, g2, bsome, bsome, g3, bsome, if_pos rfl]
  simp
theorem CombAts : quicksetlaw_CombAts.Pure := by
  intro n k m wn wk wm
  by_cases h : 0 ≤ n ∧ n ≤ 12 ∧ 0 ≤ k ∧ k ≤ n
  · obtain ⟨n, rfl⟩ := Int.eq_ofNat_of_zero_le (show 0 ≤ n by omega)
    obtain ⟨k, rfl⟩ := Int.eq_ofNat_of_zero_le (show 0 ≤ k by omega)
    have hlen := picksN_len n 0 k
    have hb := bin_small (d := n) k (by omega)
    obtain ⟨K0, hp⟩ := picks_is n (by omega) n 0 k (by omega) (by omega)
    rw [show ((0 : Nat) : Int) = 0 from rfl] at hp
    by_cases hm : 0 ≤ m ∧ m < (bin n k : Int)
    · obtain ⟨m, rfl⟩ := Int.eq_ofNat_of_zero_le hm.1
      obtain ⟨K1, h1⟩ := at_loop n k (by omega) (by omega) n 0 k m [] (by omega) (by simp) (by omega)
      have hlt : m < (picksN n 0 k).length := by omega
      have hmem : (picksN n 0 k).getD m [] ∈ picksN n 0 k := by simp [List.getD_eq_getElem?_getD, hlt]
      refine both ((picksN n 0 k).getD m []) 0 (by rw [picksN_each _ _ _ _ hmem]; omega) ⟨max K1 14 + 1, ?_⟩ ⟨K0, ?_⟩
      · unfold comb_At.f
        rw [fine_is, decide_eq_true h, bsome, if_pos rfl, if_neg (by omega), choose_is (by omega) (by omega) (by omega), bsome, decide_eq_false (by omega)]
        simp only [comb_At.j0]
        rw [if_neg (by decide)]
        exact at_rounds (fun k' => (comb_At.mono_l k').2 _ _ _ _ _) (show K1 ≤ max K1 14 by omega) h1
      · unfold quicksetref_CombAt.f
        rw [pickRange_is, decide_eq_true h, bsome, if_neg (by decide), hp, bsome, if_neg (by omega), if_neg (by omega), if_pos (by omega), if_pos (by omega)]
        simp [rd_L1]
    · refine both [] 2 (by decide) ⟨15, ?_⟩ ⟨K0, ?_⟩
      · unfold comb_At.f
        rw [fine_is, decide_eq_true h, bsome, if_pos rfl]
        by_cases h0 : m < 0
        · rw [if_pos h0]; rfl
        · rw [if_neg h0, choose_is (by omega) (by omega) (by omega), bsome, decide_eq_true (by omega)]; rfl
      · unfold quicksetref_CombAt.f
        rw [pickRange_is, decide_eq_true h, bsome, if_neg (by decide), hp, bsome]
        by_cases h0 : m < 0
        · rw [if_pos h0]
        · rw [if_neg h0, if_pos (by omega)]
  · refine both [] 2 (by decide) ⟨1, ?_⟩ ⟨1, ?_⟩
    · unfold comb_At.f
      rw [fine_is, decide_eq_false h]; rfl
    · unfold quicksetref_CombAt.f
      rw [pickRange_is, decide_eq_false h]; rfl

end Go.Proofs.Ytgibkbiofdmiaaa.Pure
