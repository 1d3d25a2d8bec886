/- CombNumbers: the two answers are one, over plain numbers and lists, for every argument; no conditions. -/
import Derived.Test.YtgibkbiofdmiaaaHCombNumbersx2
set_option linter.unusedVariables false
set_option linter.unusedSimpArgs false
namespace Go.Proofs.Ytgibkbiofdmiaaa.Pure
open Go.RowKit Go.Proofs.Ytgibkbiofdmiaaa Go.Proofs.Ytgibkbiofdmiaaa.PCombNumbers Go.Proofs.YtgibkbiofdmiaaaW.PrintWords Go.Proofs.YtgibkbiofdmiaaaW.PrintLast Go.Proofs.YtgibkbiofdmiaaaW.PrintMore

theorem bsome {α β : Type} (x : α) (f : α → Option β) : (some x).bind f = f x := by
  have h : ∀ o, o = some x → o.bind f = f x := by
    intro o ho
    subst ho
    rfl
  exact h _ rfl
theorem wf64 {a : Int} (h : (Lit.int .i64 a).wf = true) : -9223372036854775808 ≤ a ∧ a ≤ 9223372036854775807 := by
  simp only [Lit.wf, IntKind.min, IntKind.max, IntKind.signed, IntKind.bits, Bool.and_eq_true, decide_eq_true_eq, if_true] at h
  omega
theorem wrap_id {n : Int} (h0 : -9223372036854775808 ≤ n) (h1 : n ≤ 9223372036854775807) : wrap64 n = n := by unfold wrap64; omega
theorem wrap01 : wrap64 (0 + 1) = 1 := wrap_id (n := 0 + 1) (by decide) (by decide)

/-! Picks, and how many there are: Pascal's numbers -/
def bin : Nat → Nat → Nat
  | _, 0 => 1
  | 0, _ + 1 => 0
  | n + 1, k + 1 => bin n k + bin n (k + 1)
def picksN : Nat → Nat → Nat → List (List Int)
  | _, _, 0 => [[]]
  | 0, _, _ + 1 => []
  | d + 1, x, k + 1 => (picksN d (x + 1) k).map (fun p => (x : Int) :: p) ++ picksN d (x + 1) (k + 1)
theorem picksN_len : ∀ d x k, (picksN d x k).length = bin d k
  | 0, _, 0 => rfl
  | _ + 1, _, 0 => rfl
  | 0, _, _ + 1 => rfl
  | d + 1, x, k + 1 => by simp only [picksN, bin, List.length_append, List.length_map, picksN_len d]
theorem picksN_each : ∀ d x k (p : List Int), p ∈ picksN d x k → p.length = k
  | 0, _, 0, p, h => by simp [picksN] at h; simp [h]
  | _ + 1, _, 0, p, h => by simp [picksN] at h; simp [h]
  | 0, _, _ + 1, p, h => by simp [picksN] at h
  | d + 1, x, k + 1, p, h => by
    simp only [picksN, List.mem_append, List.mem_map] at h
    rcases h with ⟨q, hq, rfl⟩ | h
    · simp [picksN_each d _ _ q hq]
    · exact picksN_each d _ _ p h
theorem bin_le : ∀ d k, bin d k ≤ 2 ^ d
  | 0, 0 => by decide
  | d + 1, 0 => by simp only [bin]; exact Nat.one_le_two_pow
  | 0, k + 1 => by simp [bin]
  | d + 1, k + 1 => by simp only [bin]; have := bin_le d k; have := bin_le d (k + 1); rw [Nat.pow_succ]; omega
theorem bin_zero : ∀ d k, d < k → bin d k = 0
  | 0, 0, h => by omega
  | d + 1, 0, h => by omega
  | 0, k + 1, _ => rfl
  | d + 1, k + 1, h => by simp only [bin]; rw [bin_zero d k (by omega), bin_zero d (k + 1) (by omega)]
theorem bin_small {d : Nat} (k : Nat) (h : d ≤ 12) : bin d k ≤ 4096 := Nat.le_trans (bin_le d k) (by have := Nat.pow_le_pow_right (show 0 < 2 by decide) h; simpa using this)
def allB (p : Nat → Bool) : Nat → Bool
  | 0 => true
  | n + 1 => p n && allB p n
theorem allB_at {p : Nat → Bool} : ∀ {n : Nat}, allB p n = true → ∀ i, i < n → p i = true
  | 0, _, i, hi => absurd hi (Nat.not_lt_zero i)
  | n + 1, h, i, hi => by
    simp only [allB, Bool.and_eq_true] at h
    rcases Nat.lt_or_ge i n with hl | hl
    · exact allB_at h.2 i hl
    · have : i = n := by omega
      subst this; exact h.1

def choOk (n k : Nat) : Bool := comb_choose.f 14 (n : Int) (k : Int) == some ((bin n k : Nat) : Int)
theorem cho_all : allB (fun n => allB (fun k => choOk n k) 13) 13 = true := by decide +kernel
theorem choose_is {n k : Nat} (hn : n ≤ 12) (hk : k ≤ 12) {K : Nat} (hK : 14 ≤ K) : comb_choose.f K (n : Int) (k : Int) = some ((bin n k : Nat) : Int) := by
  have h := allB_at (allB_at cho_all n (by omega)) k (by omega)
  simp only [choOk, beq_iff_eq] at h
  exact at_rounds (fun k' => comb_choose.mono _ _ k') hK h

theorem rdL_at {L : List (List Int)} {i : Nat} (h : i < L.length) : rd_L1 L (i : Int) = L[i] := by simp [rd_L1, h]
theorem picks_loop (n : Nat) (x k : Nat) (hx : x ≤ 12) (L rest : List (List Int)) (hL : L.length ≤ 4096) (hR : rest.length ≤ 4096) (hp : ∀ p ∈ L, p.length ≤ 12) (hk : ∃ K, quicksetref_picks.f K ((x + 1 : Nat) : Int) (n : Int) (k : Int) = some rest) : ∀ (e i : Nat), i + e = L.length →
    ∃ K, quicksetref_picks.l0 K (x : Int) (n : Int) (k : Int) ((L.take i).map (fun p => (x : Int) :: p)) L (L.length : Int) (i : Int) = some (L.map (fun p => (x : Int) :: p) ++ rest) := by
  intro e
  induction e with
  | zero =>
    intro i hi
    obtain ⟨K, hK⟩ := hk
    refine ⟨K + 1, ?_⟩
    simp only [quicksetref_picks.l0]
    rw [if_neg (by omega), wrap_id (by omega) (by omega), show ((x : Int) + 1) = ((x + 1 : Nat) : Int) from by omega, hK, bsome, List.take_of_length_le (by omega), if_pos (by simp; omega)]
  | succ e ih =>
    intro i hi
    obtain ⟨K, hK⟩ := ih (i + 1) (by omega)
    refine ⟨K + 1, ?_⟩
    have hlt : i < L.length := by omega
    have hpl := hp L[i] (List.getElem_mem hlt)
    simp only [quicksetref_picks.l0]
    rw [if_pos (by omega), if_pos (by omega), if_pos (by omega), bsome, rdL_at hlt, if_pos (by simp; omega), if_pos (by simp; omega), wrap_id (by omega) (by omega), show ((i : Int) + 1) = ((i + 1 : Nat) : Int) from by omega]
    rw [List.take_succ_eq_append_getElem hlt, List.map_append] at hK
    exact hK
theorem picks_is (n : Nat) (hn : n ≤ 12) : ∀ (d x k : Nat), x + d = n → k ≤ 13 → ∃ K, quicksetref_picks.f K (x : Int) (n : Int) (k : Int) = some (picksN d x k) := by
  intro d
  induction d with
  | zero =>
    intro x k hx hk
    refine ⟨1, ?_⟩
    simp only [quicksetref_picks.f]
    cases k with
    | zero => rfl
    | succ k => rw [if_neg (by omega), if_pos (by omega)]; rfl
  | succ d ih =>
    intro x k hx hk
    cases k with
    | zero => exact ⟨1, by simp only [quicksetref_picks.f]; rfl⟩
    | succ k =>
      have hl := picksN_len d (x + 1) k
      have hl' := picksN_len d (x + 1) (k + 1)
      have hb := bin_small (d := d) k (by omega)
      have hb' := bin_small (d := d) (k + 1) (by omega)
      obtain ⟨K2, h2⟩ := picks_loop n x (k + 1) (by omega) (picksN d (x + 1) k) (picksN d (x + 1) (k + 1)) (by omega) (by omega)
        (fun p hp => by
          rcases Nat.lt_or_ge d k with h | h
          · have h0 := bin_zero d k h
            rw [← hl] at h0
            rw [List.eq_nil_of_length_eq_zero h0] at hp
            cases hp
          · have := picksN_each d _ _ p hp
            omega)
        (ih (x + 1) (k + 1) (by omega) (by omega)) (picksN d (x + 1) k).length 0 (by omega)
      obtain ⟨K, h3, h4⟩ := together (fun K => quicksetref_picks.mono _ _ _ K) (fun K => (quicksetref_picks.mono_l K).2 _ _ _ _ _ _ _) (ih (x + 1) k (by omega) (by omega)) ⟨K2, h2⟩
      refine ⟨K + 1, ?_⟩
      simp only [quicksetref_picks.f]
      rw [if_neg (by omega), if_neg (by omega), wrap_id (by omega) (by omega), wrap_id (by omega) (by omega), show ((x : Int) + 1) = ((x + 1 : Nat) : Int) from by omega, show (((k + 1 : Nat) : Int) - 1) = (k : Int) from by omega, h3, bsome]
      exact h4

/-- The number of a pick (from x on, d numbers): none where it is no pick. -/
def rkN : Nat → Nat → List Int → Option Nat
  | _, _, [] => some 0
  | 0, _, _ :: _ => none
  | d + 1, x, a :: p => if a = (x : Int) then rkN d (x + 1) p else if a < (x : Int) then none else (rkN d (x + 1) (a :: p)).map (· + bin d p.length)
theorem rkN_lt : ∀ (d x : Nat) (a : Int) (p : List Int), a < (x : Int) → rkN d x (a :: p) = none
  | 0, _, _, _, _ => rfl
  | d + 1, x, a, p, h => by simp only [rkN]; rw [if_neg (by omega), if_pos h]
theorem rkN_ge : ∀ (d x : Nat) (a : Int) (p : List Int), (x + d : Nat) ≤ a → rkN d x (a :: p) = none
  | 0, _, _, _, _ => rfl
  | d + 1, x, a, p, h => by simp only [rkN]; rw [if_neg (by omega), if_neg (by omega), rkN_ge d (x + 1) a p (by omega)]; rfl
theorem rkN_len : ∀ (d x : Nat) (p : List Int) (i : Nat), rkN d x p = some i → p.length ≤ d
  | _, _, [], _, _ => Nat.zero_le _
  | 0, _, _ :: _, _, h => by simp [rkN] at h
  | d + 1, x, a :: p, i, h => by
    simp only [rkN] at h
    split at h
    · have := rkN_len d _ _ _ h; simp; omega
    · split at h
      · cases h
      · obtain ⟨j, hj, _⟩ := Option.map_eq_some_iff.1 h
        have := rkN_len d _ _ _ hj
        omega
theorem rkN_bound : ∀ (d x : Nat) (p : List Int) (i : Nat), rkN d x p = some i → i < bin d p.length
  | _, _, [], i, h => by simp [rkN] at h; subst h; simp [bin]
  | 0, _, _ :: _, _, h => by simp [rkN] at h
  | d + 1, x, a :: p, i, h => by
    simp only [rkN] at h
    simp only [List.length_cons, bin]
    split at h
    · have := rkN_bound d _ _ _ h; omega
    · split at h
      · cases h
      · obtain ⟨j, hj, rfl⟩ := Option.map_eq_some_iff.1 h
        have := rkN_bound d _ _ _ hj
        simp only [List.length_cons] at this
        omega
/-- It stands there, and nowhere ahead of it. -/
theorem rkN_at : ∀ (d x : Nat) (p : List Int) (i : Nat), rkN d x p = some i → (picksN d x p.length)[i]? = some p ∧ ∀ j, j < i → (picksN d x p.length)[j]? ≠ some p
  | 0, _, [], i, h => by simp [rkN] at h; subst h; exact ⟨rfl, fun j hj => by omega⟩
  | _ + 1, _, [], i, h => by simp [rkN] at h; subst h; exact ⟨rfl, fun j hj => by omega⟩
  | 0, _, _ :: _, _, h => by simp [rkN] at h
  | d + 1, x, a :: p, i, h => by
    simp only [rkN] at h
    simp only [List.length_cons, picksN]
    have hl := picksN_len d (x + 1) p.length
    split at h
    · rename_i ha
      subst ha
      obtain ⟨h1, h2⟩ := rkN_at d _ _ _ h
      have hb := rkN_bound d _ _ _ h
      refine ⟨?_, fun j hj => ?_⟩
      · rw [List.getElem?_append_left (by rw [List.length_map]; omega), List.getElem?_map, h1]; rfl
      · rw [List.getElem?_append_left (by rw [List.length_map]; omega), List.getElem?_map]
        intro he
        obtain ⟨q, hq, hq'⟩ := Option.map_eq_some_iff.1 he
        simp only [List.cons.injEq, true_and] at hq'
        subst hq'
        exact h2 j hj hq
    · split at h
      · cases h
      · rename_i ha hlt
        obtain ⟨i', hi, rfl⟩ := Option.map_eq_some_iff.1 h
        obtain ⟨h1, h2⟩ := rkN_at d _ _ _ hi
        simp only [List.length_cons] at h1 h2
        refine ⟨?_, fun j hj => ?_⟩
        · rw [List.getElem?_append_right (by rw [List.length_map]; omega), List.length_map, hl, Nat.add_sub_cancel, h1]
        · rcases Nat.lt_or_ge j (bin d p.length) with hjl | hjl
          · rw [List.getElem?_append_left (by rw [List.length_map]; omega), List.getElem?_map]
            intro he
            obtain ⟨q, hq, hq'⟩ := Option.map_eq_some_iff.1 he
            simp only [List.cons.injEq] at hq'
            exact ha hq'.1.symm
          · rw [List.getElem?_append_right (by rw [List.length_map]; omega), List.length_map, hl]
            exact h2 _ (by omega)
theorem rkN_no : ∀ (d x : Nat) (p : List Int), rkN d x p = none → p ∉ picksN d x p.length
  | _, _, [], h => by simp [rkN] at h
  | 0, _, _ :: _, _ => by simp [picksN]
  | d + 1, x, a :: p, h => by
    simp only [rkN] at h
    simp only [List.length_cons, picksN, List.mem_append, List.mem_map, not_or]
    split at h
    · rename_i ha
      subst ha
      refine ⟨?_, ?_⟩
      · rintro ⟨q, hq, hq'⟩
        simp only [List.cons.injEq, true_and] at hq'
        subst hq'
        exact rkN_no d _ _ h hq
      · have := rkN_no d (x + 1) ((x : Int) :: p) (rkN_lt d (x + 1) _ p (by omega))
        simpa using this
    · rename_i ha
      refine ⟨?_, ?_⟩
      · rintro ⟨q, hq, hq'⟩
        simp only [List.cons.injEq] at hq'
        exact ha hq'.1.symm
      · split at h
        · rename_i hlt
          have := rkN_no d (x + 1) (a :: p) (rkN_lt d (x + 1) _ p (by omega))
          simpa using this
        · have := rkN_no d (x + 1) (a :: p) (by simpa using h)
          simpa using this
def outOf : Option Nat → Int → Int × Int
  | none, _ => (0, 4)
  | some v, acc => (acc + (v : Int), 0)
section
variable (n : Nat) (hn : n ≤ 12) (pick : List Int) (hp : pick.length < 100000000000000)
include hn hp
/-- Where the rest behind a number is taken: from y on up to the number a. -/
theorem number_inner (i : Nat) (hi : i < pick.length) (a : Nat) (ha : a < n) (p : List Int) (hpl : p.length + i + 1 = pick.length)
    (after : ∀ (acc : Int), 0 ≤ acc → acc ≤ 60000 * ((a : Int) + 1) → ∃ K, comb_Number.l0 K (n : Int) pick acc (a : Int) pick (pick.length : Int) ((i + 1 : Nat) : Int) = some (outOf (rkN (n - a - 1) (a + 1) p) acc)) :
    ∀ (e y d : Nat) (acc : Int), y + e = a → y + d = n → 0 ≤ acc → acc ≤ 60000 * (y : Int) + 4096 * 12 → (acc + 4096 * (e : Int) ≤ 60000 * ((a : Int) + 1)) →
      ∃ K, comb_Number.l1 K (n : Int) pick acc (i : Int) (a : Int) (y : Int) pick (pick.length : Int) (i : Int) = some (outOf (rkN d y ((a : Int) :: p)) acc) := by
  intro e
  induction e with
  | zero =>
    intro y d acc hy hd h0 h1 h2
    have : y = a := by omega
    subst this
    obtain ⟨K, hK⟩ := after acc h0 (by omega)
    obtain ⟨d', rfl⟩ : ∃ d', d = d' + 1 := ⟨d - 1, by omega⟩
    refine ⟨K + 1, ?_⟩
    simp only [comb_Number.l1, rkN]
    rw [if_neg (by omega), if_pos trivial, wrap_id (by omega) (by omega), show ((i : Int) + 1) = ((i + 1 : Nat) : Int) from by omega, hK, show n - y - 1 = d' from by omega]
  | succ e ih =>
    intro y d acc hy hd h0 h1 h2
    obtain ⟨d', rfl⟩ : ∃ d', d = d' + 1 := ⟨d - 1, by omega⟩
    have hb := bin_small (d := d') p.length (by omega)
    have hr : rkN (d' + 1) y ((a : Int) :: p) = (rkN d' (y + 1) ((a : Int) :: p)).map (· + bin d' p.length) := by
      simp only [rkN]
      rw [if_neg (by omega), if_neg (by omega)]
    have w1 : wrap64 (wrap64 ((pick.length : Int) - (i : Int)) - 1) = (p.length : Int) := by
      rw [wrap_id (n := (pick.length : Int) - i) (by omega) (by omega), wrap_id (by omega) (by omega)]; omega
    have w2 : wrap64 (wrap64 ((n : Int) - (y : Int)) - 1) = (d' : Int) := by
      rw [wrap_id (n := (n : Int) - y) (by omega) (by omega), wrap_id (by omega) (by omega)]; omega
    by_cases hle : p.length ≤ d'
    · obtain ⟨K, hK⟩ := ih (y + 1) d' (acc + ((bin d' p.length : Nat) : Int)) (by omega) (by omega) (by omega) (by omega) (by omega)
      refine ⟨max K 14 + 1, ?_⟩
      simp only [comb_Number.l1]
      rw [if_pos (by omega), w1, w2, if_pos (by omega), choose_is (by omega) (by omega) (by omega), bsome, wrap_id (by omega) (by omega), wrap_id (by omega) (by omega), show ((y : Int) + 1) = ((y + 1 : Nat) : Int) from by omega]
      refine Eq.trans (at_rounds (fun k' => (comb_Number.mono_l k').2.2.2 _ _ _ _ _ _ _ _ _) (show K ≤ max K 14 by omega) hK) ?_
      rw [hr]
      cases rkN d' (y + 1) ((a : Int) :: p) with
      | none => rfl
      | some v => simp only [Option.map_some, outOf]; congr 2; omega
    · -- no room any more: what is left adds nothing
      obtain ⟨K, hK⟩ := after acc h0 (by omega)
      refine ⟨K + 1, ?_⟩
      simp only [comb_Number.l1]
      rw [if_pos (by omega), w1, w2, if_neg (by omega), wrap_id (by omega) (by omega), show ((i : Int) + 1) = ((i + 1 : Nat) : Int) from by omega, hK]
      have hz : ∀ (d y : Nat), y ≤ a → y + d = n → d < p.length + 1 → rkN d y ((a : Int) :: p) = none := by
        intro d y _ _ hlt
        cases hq : rkN d y ((a : Int) :: p) with
        | none => rfl
        | some v => have := rkN_len d y _ v hq; simp at this; omega
      have hz2 : rkN (n - a - 1) (a + 1) p = none := by
        cases hq : rkN (n - a - 1) (a + 1) p with
        | none => rfl
        | some v => have := rkN_len _ _ _ v hq; omega
      rw [hz2, hr, hz d' (y + 1) (by omega) (by omega) (by omega)]
      rfl
theorem number_loop : ∀ (p : List Int) (i y : Nat) (acc : Int), pick.drop i = p → y ≤ n → 0 ≤ acc → acc ≤ 60000 * (y : Int) →
    ∃ K, comb_Number.l0 K (n : Int) pick acc ((y : Int) - 1) pick (pick.length : Int) (i : Int) = some (outOf (rkN (n - y) y p) acc) := by
  intro p
  induction p with
  | nil =>
    intro i y acc hd hy h0 h1
    have hl : pick.length ≤ i := List.drop_eq_nil_iff.1 hd
    refine ⟨1, ?_⟩
    simp only [comb_Number.l0, rkN, outOf]
    rw [if_neg (by omega)]
    simp
  | cons a p ih =>
    intro i y acc hd hy h0 h1
    have hl : i < pick.length := by
      rcases Nat.lt_or_ge i pick.length with h | h
      · exact h
      · rw [List.drop_eq_nil_of_le h] at hd; cases hd
    have hdrop := List.drop_eq_getElem_cons hl
    rw [hd] at hdrop
    simp only [List.cons.injEq] at hdrop
    have hrd : rd pick (i : Int) = a := by simp [rd, hl, hdrop.1]
    have hpl : p.length + i + 1 = pick.length := by rw [hdrop.2, List.length_drop]; omega
    by_cases hlow : a ≤ (y : Int) - 1
    · refine ⟨2, ?_⟩
      simp only [comb_Number.l0, comb_Number.j2]
      rw [if_pos (by omega), if_pos (by omega), if_pos (by omega), hrd, if_pos hlow, if_pos trivial, rkN_lt _ _ _ _ (by omega)]
      rfl
    · by_cases hhigh : a ≥ (n : Int)
      · refine ⟨2, ?_⟩
        simp only [comb_Number.l0, comb_Number.j2]
        rw [if_pos (by omega), if_pos (by omega), if_pos (by omega), hrd, if_neg hlow, decide_eq_true hhigh, if_pos rfl, rkN_ge _ _ _ _ (by omega)]
        rfl
      · obtain ⟨a, rfl⟩ := Int.eq_ofNat_of_zero_le (show 0 ≤ a by omega)
        obtain ⟨K, hK⟩ := number_inner n hn pick hp i hl a (by omega) p hpl
          (fun acc h0 h1 => by
            have := ih (i + 1) (a + 1) acc hdrop.2.symm (by omega) h0 (by omega)
            rw [show (((a + 1 : Nat) : Int) - 1) = (a : Int) from by omega, show n - (a + 1) = n - a - 1 from by omega] at this
            exact this) (a - y) y (n - y) acc (by omega) (by omega) h0 (by omega) (by omega)
        refine ⟨K + 2, ?_⟩
        simp only [comb_Number.l0, comb_Number.j2]
        rw [if_pos (by omega), if_pos (by omega), if_pos (by omega), hrd, if_neg hlow, decide_eq_false hhigh, if_neg (by decide), wrap_id (by omega) (by omega), show ((y : Int) - 1 + 1) = (y : Int) from by omega]
        exact hK
end
/-- The reference looks at each pick, place by place. -/
theorem ref_inner (pick q : List Int) (L : List (List Int)) (i : Nat) (hq : q.length = pick.length) (hl : pick.length < 1000) (r1 r2 : Int × Int)
    (yes : q = pick → r1 = ((i : Int), 0)) (no : q ≠ pick → ∃ K, quicksetref_CombNumber.l0 K pick L (L.length : Int) ((i + 1 : Nat) : Int) = some r2) (hi : i < 100000) :
    ∀ (e j : Nat), j + e = q.length → ∃ K, quicksetref_CombNumber.l1 K pick (i : Int) q (decide (q.take j = pick.take j)) L (L.length : Int) (i : Int) (q.length : Int) (j : Int) = some (if q = pick then r1 else r2) := by
  intro e
  induction e with
  | zero =>
    intro j hj
    rw [List.take_of_length_le (by omega), List.take_of_length_le (by omega)]
    by_cases he : q = pick
    · refine ⟨1, ?_⟩
      simp only [quicksetref_CombNumber.l1]
      rw [if_neg (by omega), decide_eq_true he, if_pos rfl, if_pos he, yes he]
    · obtain ⟨K, hK⟩ := no he
      refine ⟨K + 1, ?_⟩
      simp only [quicksetref_CombNumber.l1]
      rw [if_neg (by omega), decide_eq_false he, if_neg (by decide), if_neg he, wrap_id (by omega) (by omega), show ((i : Int) + 1) = ((i + 1 : Nat) : Int) from by omega]
      exact hK
  | succ e ih =>
    intro j hj
    obtain ⟨K, hK⟩ := ih (j + 1) (by omega)
    refine ⟨K + 1, ?_⟩
    have h1 : j < q.length := by omega
    have h2 : j < pick.length := by omega
    have e1 : rd q (j : Int) = q[j] := by simp [rd, h1]
    have e2 : rd pick (j : Int) = pick[j] := by simp [rd, h2]
    rw [List.take_succ_eq_append_getElem h1, List.take_succ_eq_append_getElem h2] at hK
    simp only [quicksetref_CombNumber.l1]
    rw [if_pos (by omega), wrap_id (by omega) (by omega), show ((j : Int) + 1) = ((j + 1 : Nat) : Int) from by omega]
    by_cases ht : q.take j = pick.take j
    · rw [decide_eq_true ht, if_pos rfl, if_pos (by omega), if_pos (by omega), if_pos (by omega), e1, e2]
      rw [ht] at hK
      have : decide (pick.take j ++ [q[j]] = pick.take j ++ [pick[j]]) = (q[j] == pick[j]) := by
        rw [Bool.eq_iff_iff, decide_eq_true_eq, beq_iff_eq]
        exact ⟨fun h => by simpa using List.append_cancel_left h, fun h => by rw [h]⟩
      rw [this] at hK
      exact hK
    · rw [decide_eq_false ht, if_neg (by decide)]
      have : decide (q.take j ++ [q[j]] = pick.take j ++ [pick[j]]) = false := by
        rw [decide_eq_false_iff_not]
        intro h
        exact ht (List.append_inj_left h (by simp [h1, h2]; omega))
      rw [this] at hK
      exact hK
theorem ref_scan (pick : List Int) (hl : pick.length < 1000) (L : List (List Int)) (hL : L.length < 10000) (hq : ∀ q ∈ L, q.length = pick.length) (r : Int × Int)
    (hr : ∀ i : Nat, L[i]? = some pick → (∀ j : Nat, j < i → L[j]? ≠ some pick) → r = ((i : Int), 0)) (hn : pick ∉ L → r = (0, 4)) : ∀ (e i : Nat), i + e = L.length → (∀ j : Nat, j < i → L[j]? ≠ some pick) →
    ∃ K, quicksetref_CombNumber.l0 K pick L (L.length : Int) (i : Int) = some r := by
  intro e
  induction e with
  | zero =>
    intro i hi hj
    refine ⟨1, ?_⟩
    simp only [quicksetref_CombNumber.l0]
    rw [if_neg (by omega), hn]
    intro hm
    obtain ⟨j, hj'⟩ := List.getElem?_of_mem hm
    have := (List.getElem?_eq_some_iff.1 hj').1
    exact hj j (by omega) hj'
  | succ e ih =>
    intro i hi hj
    have hlt : i < L.length := by omega
    have hrd : rd_L1 L (i : Int) = L[i] := rdL_at hlt
    obtain ⟨K, hK⟩ := ref_inner pick L[i] L i (hq _ (List.getElem_mem hlt)) hl r r
      (fun he => hr i (by rw [List.getElem?_eq_getElem hlt, he]) hj)
      (fun he => ih (i + 1) (by omega) (fun j hj' => by
        rcases Nat.lt_or_ge j i with h | h
        · exact hj j h
        · have : j = i := by omega
          subst this
          rw [List.getElem?_eq_getElem hlt]
          exact fun h => he (Option.some.inj h))) (by omega) L[i].length 0 (by omega)
    refine ⟨K + 1, ?_⟩
    simp only [quicksetref_CombNumber.l0]
    rw [if_pos (by omega), if_pos (by omega), if_pos (by omega), hrd]
    simp only [List.take_zero, decide_true, ite_self] at hK
    exact hK
theorem both {n : Int} {l : List Int} (r : Int × Int) (A : ∃ K, comb_Number.f K n l = some r) (B : ∃ K, quicksetref_CombNumber.f K n l = some r) : ∃ K, quicksetlaw_CombNumbers.f K n l = some true := by
  obtain ⟨k, h1, h2⟩ := together (fun k' => comb_Number.mono n l k') (fun k' => quicksetref_CombNumber.mono n l k') A B
  refine ⟨k, ?_⟩
  unfold quicksetlaw_CombNumbers.f
  rw [h1, h2, bsome, bsome, if_pos rfl]
  simp
theorem CombNumbers : quicksetlaw_CombNumbers.Pure := by
  intro n pick wn _ hp8 _
  by_cases h : 0 ≤ n ∧ n ≤ 12
  · obtain ⟨n, rfl⟩ := Int.eq_ofNat_of_zero_le h.1
    obtain ⟨K1, h1⟩ := number_loop n (by omega) pick (by omega) pick 0 0 0 rfl (Nat.zero_le _) (by omega) (by omega)
    have hA : ∃ K, comb_Number.f K (n : Int) pick = some (outOf (rkN n 0 pick) 0) := by
      refine ⟨K1 + 1, ?_⟩
      unfold comb_Number.f
      rw [if_neg (by omega), decide_eq_false (by omega)]
      simp only [comb_Number.j0]
      rw [if_neg (by decide)]
      simpa using h1
    refine both (outOf (rkN n 0 pick) 0) hA ?_
    by_cases hle : pick.length ≤ n
    · obtain ⟨K2, h2⟩ := picks_is n (by omega) n 0 pick.length (by omega) (by omega)
      rw [show ((0 : Nat) : Int) = 0 from rfl] at h2
      have hlen := picksN_len n 0 pick.length
      have hb := bin_small (d := n) pick.length (by omega)
      obtain ⟨K3, h3⟩ := ref_scan pick (by omega) (picksN n 0 pick.length) (by omega) (fun q hq => picksN_each _ _ _ q hq) (outOf (rkN n 0 pick) 0)
        (fun i hi hj => by
          cases hk : rkN n 0 pick with
          | none => exact absurd (List.mem_of_getElem? hi) (rkN_no n 0 pick hk)
          | some v =>
            obtain ⟨g1, g2⟩ := rkN_at n 0 pick v hk
            rcases Nat.lt_trichotomy i v with hlt | he | hgt
            · exact absurd hi (g2 i hlt)
            · subst he; simp [outOf]
            · exact absurd g1 (hj v hgt))
        (fun hm => by
          cases hk : rkN n 0 pick with
          | none => rfl
          | some v => exact absurd (List.mem_of_getElem? (rkN_at n 0 pick v hk).1) hm) (picksN n 0 pick.length).length 0 (by omega) (fun j hj => by omega)
      refine ⟨max K2 K3 + 1, ?_⟩
      unfold quicksetref_CombNumber.f
      rw [if_neg (by omega), decide_eq_false (by omega)]
      simp only [quicksetref_CombNumber.j0]
      rw [if_neg (by decide), if_pos (by omega), at_rounds (fun k' => quicksetref_picks.mono _ _ _ k') (show K2 ≤ max K2 K3 by omega) h2, bsome]
      exact at_rounds (fun k' => (quicksetref_CombNumber.mono_l k').2.1 _ _ _ _) (show K3 ≤ max K2 K3 by omega) h3
    · refine ⟨1, ?_⟩
      unfold quicksetref_CombNumber.f
      rw [if_neg (by omega), decide_eq_false (by omega)]
      simp only [quicksetref_CombNumber.j0]
      rw [if_neg (by decide), if_neg (by omega)]
      cases hk : rkN n 0 pick with
      | none => rfl
      | some v => exact absurd (rkN_len n 0 pick v hk) hle
  · refine both (0, 2) ⟨1, ?_⟩ ⟨1, ?_⟩
    · unfold comb_Number.f
      by_cases h0 : n < 0
      · rw [if_pos h0]; rfl
      · rw [if_neg h0, decide_eq_true (by omega)]; rfl
    · unfold quicksetref_CombNumber.f
      by_cases h0 : n < 0
      · rw [if_pos h0]; rfl
      · rw [if_neg h0, decide_eq_true (by omega)]; rfl

end Go.Proofs.Ytgibkbiofdmiaaa.Pure
