/- Gauss and Jordan's steps of package mat over a matrix of the call's own, walked; no conditions. -/
import Derived.Test.YtpaenlplpaabjaaQMatInvertsx0
import Derived.Test.YtpaenlplpaabjaaQMatInvertsx1
import Derived.Test.YtpaenlplpaabjaaQMatInvertsx2
import Derived.Test.YtpaenlplpaabjaaQMatInvertsx3
import Derived.Test.YtpaenlplpaabjaaQMatInvertsx4
import Derived.Test.YtpaenlplpaabjaaMatB
import Derived.Test.YtpaenlplpaabjaaGfMath
import Derived.Deep.RegionLaw
import Derived.StillTailTactics
set_option linter.unusedVariables false
set_option linter.unusedSimpArgs false
namespace Go.Proofs.Ytpaenlplpaabjaa.QMatInverts
open Go.RowKit Go.Proofs.YtpaenlplpaabjaaW.PrintWords Go.Proofs.YtpaenlplpaabjaaW.PrintLast Go.Proofs.YtpaenlplpaabjaaW.PrintMore
open Go.Proofs.Ytpaenlplpaabjaa.Sep Go.Proofs.Ytpaenlplpaabjaa.MatB
/-- Laid so that simp does not take it for a change of sight alone (the kernel would then compare great terms by computing). -/
theorem bsome {α β : Type} (x : α) (f : α → Option β) : (some x).bind f = f x := by
  have h : ∀ o, o = some x → o.bind f = f x := by
    intro o ho
    subst ho
    rfl
  exact h _ rfl
/-! Numbers of Go, read as plain ones -/
theorem wf64 {a : Int} (h : (Lit.int .i64 a).wf = true) : -9223372036854775808 ≤ a ∧ a ≤ 9223372036854775807 := by
  simp only [Lit.wf, IntKind.min, IntKind.max, IntKind.signed, IntKind.bits, Bool.and_eq_true, decide_eq_true_eq, if_true] at h
  omega
theorem wrap_id {n : Int} (h0 : -9223372036854775808 ≤ n) (h1 : n ≤ 9223372036854775807) : wrap64 n = n := by unfold wrap64; omega
theorem wrap01 : wrap64 (0 + 1) = 1 := wrap_id (n := 0 + 1) (by decide) (by decide)
theorem wrap11 : wrap64 (1 + 1) = 2 := wrap_id (n := 1 + 1) (by decide) (by decide)
theorem iwrap_id {n : Int} (h0 : 0 ≤ n) (h1 : n ≤ 9223372036854775807) : IntKind.i64.wrap n = n := by rw [IntKind.wrap_i64]; omega
theorem mod64 {a : Nat} (h : a < 256) : a % 2 ^ 64 = a := Nat.mod_eq_of_lt (Nat.lt_of_lt_of_le h (by decide))
theorem mod64' {a : Nat} (h : a < 65536) : a % 2 ^ 64 = a := Nat.mod_eq_of_lt (Nat.lt_of_lt_of_le h (by decide))
theorem bxor {a b : Nat} (ha : a < 65536) (hb : b < 65536) : Go.bits .xor .i64 (a : Int) (b : Int) = ((a ^^^ b : Nat) : Int) := by
  have hx : a ^^^ b < 65536 := Nat.xor_lt_two_pow (n := 16) ha hb
  have e : (BitVec.ofInt 64 (a : Int) ^^^ BitVec.ofInt 64 (b : Int)).toNat = a ^^^ b := by
    rw [BitVec.ofInt_natCast, BitVec.ofInt_natCast, BitVec.toNat_xor, BitVec.toNat_ofNat, BitVec.toNat_ofNat, mod64' ha, mod64' hb]
  show IntKind.i64.wrap (((BitVec.ofInt 64 (a : Int) ^^^ BitVec.ofInt 64 (b : Int)).toNat : Nat) : Int) = _
  rw [e]
  exact iwrap_id (n := ((a ^^^ b : Nat) : Int)) (by omega) (by omega)
theorem band {a b : Nat} (ha : a < 65536) (hb : b < 65536) : Go.bits .and .i64 (a : Int) (b : Int) = ((a &&& b : Nat) : Int) := by
  have hx : a &&& b < 65536 := Nat.and_lt_two_pow (n := 16) _ hb
  have e : (BitVec.ofInt 64 (a : Int) &&& BitVec.ofInt 64 (b : Int)).toNat = a &&& b := by
    rw [BitVec.ofInt_natCast, BitVec.ofInt_natCast, BitVec.toNat_and, BitVec.toNat_ofNat, BitVec.toNat_ofNat, mod64' ha, mod64' hb]
  show IntKind.i64.wrap (((BitVec.ofInt 64 (a : Int) &&& BitVec.ofInt 64 (b : Int)).toNat : Nat) : Int) = _
  rw [e]
  exact iwrap_id (n := ((a &&& b : Nat) : Int)) (by omega) (by omega)
theorem bor {a b : Nat} (ha : a < 65536) (hb : b < 65536) : Go.bits .or .i64 (a : Int) (b : Int) = ((a ||| b : Nat) : Int) := by
  have hx : a ||| b < 65536 := Nat.or_lt_two_pow (n := 16) ha hb
  have e : (BitVec.ofInt 64 (a : Int) ||| BitVec.ofInt 64 (b : Int)).toNat = a ||| b := by
    rw [BitVec.ofInt_natCast, BitVec.ofInt_natCast, BitVec.toNat_or, BitVec.toNat_ofNat, BitVec.toNat_ofNat, mod64' ha, mod64' hb]
  show IntKind.i64.wrap (((BitVec.ofInt 64 (a : Int) ||| BitVec.ofInt 64 (b : Int)).toNat : Nat) : Int) = _
  rw [e]
  exact iwrap_id (n := ((a ||| b : Nat) : Int)) (by omega) (by omega)
theorem band1 {a : Nat} (ha : a < 65536) : Go.bits .and .i64 (a : Int) 1 = ((a % 2 : Nat) : Int) := by
  have := band (b := 1) ha (by decide)
  rw [Nat.and_one_is_mod] at this
  exact this
/-- A number with no bit of 256 on is an element, and none else. -/
theorem not255 {a : Int} (h0 : -9223372036854775808 ≤ a) (h1 : a ≤ 9223372036854775807) : Go.bits .andNot .i64 a 255 = 0 ↔ 0 ≤ a ∧ a ≤ 255 := by
  constructor
  · intro h
    have hz : (BitVec.ofInt 64 a &&& ~~~ BitVec.ofInt 64 255).toNat = 0 := by
      have hlt := (BitVec.ofInt 64 a &&& ~~~ BitVec.ofInt 64 255).isLt
      have h' : IntKind.i64.wrap ((BitVec.ofInt 64 a &&& ~~~ BitVec.ofInt 64 255).toNat : Int) = 0 := h
      rw [IntKind.wrap_i64] at h'
      omega
    have hv : BitVec.ofInt 64 a = BitVec.ofInt 64 a &&& BitVec.ofInt 64 255 := by
      have hz' : BitVec.ofInt 64 a &&& ~~~ BitVec.ofInt 64 255 = 0#64 := BitVec.eq_of_toNat_eq hz
      have hs : BitVec.ofInt 64 a = (BitVec.ofInt 64 a &&& BitVec.ofInt 64 255) ||| (BitVec.ofInt 64 a &&& ~~~ BitVec.ofInt 64 255) := by
        ext i hi
        simp only [BitVec.getElem_or, BitVec.getElem_and, BitVec.getElem_not]
        cases (BitVec.ofInt 64 a)[i] <;> cases (BitVec.ofInt 64 255)[i] <;> rfl
      rw [hz', BitVec.or_zero] at hs
      exact hs
    have hle : (BitVec.ofInt 64 a).toNat ≤ 255 := by
      rw [hv, BitVec.toNat_and]
      exact Nat.and_le_right
    rw [BitVec.toNat_ofInt] at hle
    omega
  · rintro ⟨h0, h1⟩
    obtain ⟨n, rfl⟩ := Int.eq_ofNat_of_zero_le h0
    have h : Gf.allB (fun n => decide (Go.bits .andNot .i64 (n : Int) 255 = 0)) 256 = true := by decide +kernel
    simpa using Gf.allB_at h n (by omega)
theorem elem_nat {a : Int} (h : 0 ≤ a ∧ a ≤ 255) : ∃ n : Nat, a = (n : Int) ∧ n < 256 := by
  obtain ⟨n, rfl⟩ := Int.eq_ofNat_of_zero_le h.1
  exact ⟨n, rfl, by omega⟩
def isEl (a : Int) : Bool := decide (0 ≤ a ∧ a ≤ 255)
theorem isEl_true {a : Int} (h : 0 ≤ a ∧ a ≤ 255) : isEl a = true := decide_eq_true h
theorem isEl_false {a : Int} (h : ¬(0 ≤ a ∧ a ≤ 255)) : isEl a = false := decide_eq_false h
theorem bad_none (k : Nat) (l : List Int) (n i : Int) (h : ¬ i < n) : gf_bad.l0 (k + 1) l n i = some false := by simp only [gf_bad.l0]; rw [if_neg h]
theorem bad_step (k : Nat) (l : List Int) (n i : Int) (h : i < n) (h0 : 0 ≤ i) (h1 : i < (l.length : Int)) (a : Int) (ha : rd l i = a) (w0 : -9223372036854775808 ≤ a) (w1 : a ≤ 9223372036854775807) :
    gf_bad.l0 (k + 1) l n i = if isEl a then gf_bad.l0 k l n (wrap64 (i + 1)) else some true := by
  simp only [gf_bad.l0]
  rw [if_pos h, if_pos h0, if_pos h1, ha]
  by_cases he : 0 ≤ a ∧ a ≤ 255
  · rw [if_pos ((not255 w0 w1).2 he), isEl_true he, if_pos rfl]
  · rw [if_neg (fun hh => he ((not255 w0 w1).1 hh)), isEl_false he, if_neg (by decide)]
theorem bad_one (k : Nat) (a : Int) (w : (Lit.int .i64 a).wf = true) : gf_bad.f (k + 2) [a] = some (!isEl a) := by
  obtain ⟨w0, w1⟩ := wf64 w
  unfold gf_bad.f
  rw [bad_step (k + 1) [a] _ 0 (by simp) (by decide) (by simp) a rfl w0 w1]
  cases isEl a with
  | false => rfl
  | true => rw [if_pos rfl, wrap01, bad_none k _ _ _ (by simp)]; rfl
theorem bad_two (k : Nat) (a b : Int) (wa : (Lit.int .i64 a).wf = true) (wb : (Lit.int .i64 b).wf = true) : gf_bad.f (k + 3) [a, b] = some (!(isEl a && isEl b)) := by
  obtain ⟨a0, a1⟩ := wf64 wa
  obtain ⟨b0, b1⟩ := wf64 wb
  unfold gf_bad.f
  rw [bad_step (k + 2) [a, b] _ 0 (by simp) (by decide) (by simp) a rfl a0 a1]
  cases isEl a with
  | false => rfl
  | true =>
    rw [if_pos rfl, wrap01, bad_step (k + 1) [a, b] _ 1 (by simp) (by decide) (by simp) b rfl b0 b1]
    cases isEl b with
    | false => rfl
    | true => rw [if_pos rfl, wrap11, bad_none k _ _ _ (by simp)]; rfl
theorem times_loop : ∀ (d k a b o : Nat), a < 256 → b < 2 ^ d → d ≤ 8 → o < 256 → d < k → gf_times.l0 k (a : Int) (b : Int) (o : Int) = some ((Gf.mulL d a b o : Nat) : Int) := by
  intro d
  induction d with
  | zero =>
    intro k a b o _ hb _ _ hk
    obtain ⟨k, rfl⟩ : ∃ m, k = m + 1 := ⟨k - 1, by omega⟩
    have : b = 0 := by omega
    subst this
    simp only [gf_times.l0]
    rw [if_neg (by omega)]
    rfl
  | succ d ih =>
    intro k a b o ha hb hd ho hk
    obtain ⟨k, rfl⟩ : ∃ m, k = m + 1 := ⟨k - 1, by omega⟩
    have hb2 : b / 2 < 2 ^ d := by rw [Nat.pow_succ] at hb; omega
    have hb16 : b < 65536 := Nat.lt_of_lt_of_le hb (Nat.le_trans (Nat.pow_le_pow_right (by decide) hd) (by decide))
    have hw : wrap64 ((a : Int) * 2) = ((2 * a : Nat) : Int) := by rw [wrap_id (by omega) (by omega)]; omega
    have hx : ∀ (o' : Nat), o' < 256 → (if (wrap64 ((a : Int) * 2)) > 255 then gf_times.l0 k (Go.bits .xor .i64 (wrap64 ((a : Int) * 2)) 285) ((b : Int) / 2) (o' : Int) else gf_times.l0 k (wrap64 ((a : Int) * 2)) ((b : Int) / 2) (o' : Int)) = some ((Gf.mulL d (Gf.xt a) (b / 2) o' : Nat) : Int) := by
      intro o' ho'
      rw [hw, show ((b : Int) / 2) = ((b / 2 : Nat) : Int) from by omega]
      by_cases hc : ((2 * a : Nat) : Int) > 255
      · have he : Gf.xt a = (2 * a) ^^^ 285 := by unfold Gf.xt; rw [show a / 128 = 1 from by omega]
        rw [if_pos hc, show (285 : Int) = ((285 : Nat) : Int) from rfl, bxor (by omega) (by decide), ← he]
        exact ih k _ _ _ (Gf.xt_lt ha) hb2 (by omega) ho' (by omega)
      · have he : Gf.xt a = 2 * a := by unfold Gf.xt; rw [show a / 128 = 0 from by omega]; simp
        rw [if_neg hc, ← he]
        exact ih k _ _ _ (Gf.xt_lt ha) hb2 (by omega) ho' (by omega)
    rcases Nat.eq_zero_or_pos b with h0 | h0
    · subst h0
      simp only [gf_times.l0]
      rw [if_neg (by omega)]
      have : ∀ (m a o : Nat), Gf.mulL m a 0 o = o := by
        intro m
        induction m with
        | zero => intro _ _; rfl
        | succ m ihm => intro a o; simp only [Gf.mulL, Nat.zero_div, Nat.zero_mod, Nat.mul_zero, Nat.xor_zero]; exact ihm _ _
      rw [this]
    · simp only [gf_times.l0]
      rw [if_pos (by omega), band1 hb16]
      rcases Gf.bit_cases b with hp | hp
      · rw [if_neg (by rw [hp]; decide), hx o ho]
        simp only [Gf.mulL, hp, Nat.mul_zero, Nat.xor_zero]
      · rw [if_pos (by rw [hp]; rfl), bxor (by omega) (by omega), hx _ (Gf.xor_lt ho ha)]
        simp only [Gf.mulL, hp, Nat.mul_one]
theorem times_is {k a b : Nat} (ha : a < 256) (hb : b < 256) (hk : 8 < k) : gf_times.f k (a : Int) (b : Int) = some ((Gf.mul a b : Nat) : Int) := times_loop 8 k a b 0 ha hb (Nat.le_refl _) (by decide) hk
/-! Lists that are read at whole numbers -/
theorem rd_cons (l : List Int) (i : Nat) (h : i < l.length) : l.drop i = rd l (i : Int) :: l.drop (i + 1) := by
  rw [List.drop_eq_getElem_cons h]
  congr 1
  show _ = l.getD ((i : Nat) : Int).toNat 0
  rw [Int.toNat_natCast, List.getD_eq_getElem?_getD, List.getElem?_eq_getElem h]
  rfl
theorem L1_cons (l : List (List Int)) (i : Nat) (h : i < l.length) : l.drop i = rd_L1 l (i : Int) :: l.drop (i + 1) := by
  rw [List.drop_eq_getElem_cons h]
  congr 1
  show _ = l.getD ((i : Nat) : Int).toNat []
  rw [Int.toNat_natCast, List.getD_eq_getElem?_getD, List.getElem?_eq_getElem h]
  rfl
theorem wrap_suc (i : Nat) (h : i < 9000000000000000000) : wrap64 ((i : Int) + 1) = ((i + 1 : Nat) : Int) := by rw [wrap_id (by omega) (by omega)]; omega
theorem L1_mem {l : List (List Int)} (i : Nat) (h : i < l.length) : rd_L1 l (i : Int) ∈ l := by
  have := L1_cons l i h
  have h2 : rd_L1 l (i : Int) ∈ l.drop i := by rw [this]; exact List.mem_cons_self
  exact List.mem_of_mem_drop h2
def elB (a : Int) : Bool := decide (0 ≤ a) && decide (a < 256)
def rowB (n : Nat) (r : List Int) : Bool := decide (r.length = n) && decide (1 ≤ r.length) && decide (r.length ≤ 8) && r.all elB
def mayB (m : List (List Int)) : Bool := decide (1 ≤ m.length) && decide (m.length ≤ 8) && m.all (rowB (rd_L1 m 0).length)
theorem all_loop (l : List Int) (hl : l.length < 1000000000000000) : ∀ d i, i + d = l.length → ∃ k, mat_all.l0 k l (l.length : Int) (i : Int) = some ((l.drop i).all elB)
  | 0, i, hi => ⟨1, by simp only [mat_all.l0]; rw [if_neg (by omega), List.drop_eq_nil_of_le (by omega)]; rfl⟩
  | d + 1, i, hi => by
    obtain ⟨k, hk⟩ := all_loop l hl d (i + 1) (by omega)
    refine ⟨k + 1, ?_⟩
    simp only [mat_all.l0]
    rw [if_pos (by omega), if_pos (by omega), if_pos (by omega), wrap_suc i (by omega), hk, rd_cons l i (by omega), List.all_cons]
    by_cases h0 : rd l i < 0
    · rw [if_pos h0]; simp [elB, show ¬ 0 ≤ rd l i from by omega]
    · rw [if_neg h0]
      by_cases h1 : rd l i ≥ 256
      · rw [if_pos h1]; simp [elB, show ¬ rd l i < 256 from by omega]
      · rw [if_neg h1]; simp [elB, show 0 ≤ rd l i from by omega, show rd l i < 256 from by omega]
theorem all_is (l : List Int) (hl : l.length < 1000000000000000) : ∃ k, mat_all.f k l = some (l.all elB) := by
  have := all_loop l hl l.length 0 (by omega)
  simpa [mat_all.f] using this
theorem may_loop (m : List (List Int)) (hl : m.length ≤ 8) (hr : ∀ r ∈ m, r.length < 1000000000000000) : ∀ d i, i + d = m.length → ∃ k, mat_May.l0 k m m (m.length : Int) (i : Int) = some ((m.drop i).all (rowB (rd_L1 m 0).length))
  | 0, i, hi => ⟨1, by simp only [mat_May.l0]; rw [if_neg (by omega), List.drop_eq_nil_of_le (by omega)]; rfl⟩
  | d + 1, i, hi => by
    obtain ⟨k, hk, ha⟩ := together (fun k => mat_May.mono_l k |>.2 _ _ _ _) (fun k => mat_all.mono _ k) (may_loop m hl hr d (i + 1) (by omega)) (all_is (rd_L1 m i) (hr _ (L1_mem i (by omega))))
    refine ⟨k + 1, ?_⟩
    simp only [mat_May.l0]
    rw [if_pos (by omega), if_pos (by omega), if_pos (by omega), if_pos (by omega), wrap_suc i (by omega), hk, ha, bsome, L1_cons m i (by omega), List.all_cons]
    by_cases h0 : ((rd_L1 m i).length : Int) = ((rd_L1 m 0).length : Int)
    · rw [if_pos h0]
      by_cases h1 : ((rd_L1 m i).length : Int) < 1
      · rw [if_pos h1]; simp [rowB, show ¬ 1 ≤ (rd_L1 m i).length from by omega]
      · rw [if_neg h1]
        by_cases h2 : ((rd_L1 m i).length : Int) > 8
        · rw [if_pos h2]; simp [rowB, show ¬ (rd_L1 m i).length ≤ 8 from by omega]
        · rw [if_neg h2]
          have e : rowB (rd_L1 m 0).length (rd_L1 m i) = (rd_L1 m i).all elB := by
            simp only [rowB, decide_eq_true (show (rd_L1 m i).length = (rd_L1 m 0).length from by omega), decide_eq_true (show 1 ≤ (rd_L1 m i).length from by omega), decide_eq_true (show (rd_L1 m i).length ≤ 8 from by omega), Bool.true_and]
          rw [e]
          cases (rd_L1 m i).all elB <;> simp
    · rw [if_neg h0]; simp [rowB, show ¬ (rd_L1 m i).length = (rd_L1 m 0).length from by omega]
theorem may_is (m : List (List Int)) (hr : ∀ r ∈ m, r.length < 1000000000000000) : ∃ k, mat_May.f k m = some (mayB m) := by
  by_cases h0 : (m.length : Int) < 1
  · refine ⟨1, ?_⟩
    simp only [mat_May.f, mat_May.j0]
    rw [if_pos h0, if_pos trivial]; simp [mayB, show ¬ 1 ≤ m.length from by omega]
  · by_cases h1 : (m.length : Int) > 8
    · refine ⟨1, ?_⟩
      simp only [mat_May.f, mat_May.j0]
      rw [if_neg h0, if_pos (by simpa using h1)]; simp [mayB, show ¬ m.length ≤ 8 from by omega]
    · obtain ⟨k, hk⟩ := may_loop m (by omega) hr m.length 0 (by omega)
      refine ⟨k + 1, ?_⟩
      simp only [mat_May.f, mat_May.j0]
      rw [if_neg h0, if_neg (by simpa using h1), show (0 : Int) = ((0 : Nat) : Int) from rfl, hk]
      simp [mayB, show 1 ≤ m.length from by omega, show m.length ≤ 8 from by omega]
/-! Sums of products of elements -/
theorem elB_nat {a : Int} (h : elB a = true) : a = ((a.toNat : Nat) : Int) ∧ a.toNat < 256 := by
  simp only [elB, Bool.and_eq_true, decide_eq_true_eq] at h
  omega
theorem elB_cast {a : Nat} (h : a < 256) : elB (a : Int) = true := by
  simp only [elB, Bool.and_eq_true, decide_eq_true_eq]
  omega
theorem rd_get (r : List Int) (i : Nat) (h : i < r.length) : rd r (i : Int) = r[i] := by
  show r.getD ((i : Nat) : Int).toNat 0 = _
  rw [Int.toNat_natCast, List.getD_eq_getElem?_getD, List.getElem?_eq_getElem h]
  rfl
theorem all_rd {r : List Int} (h : r.all elB = true) {i : Nat} (hi : i < r.length) : elB (rd r (i : Int)) = true := by
  rw [rd_get r i hi]
  exact List.all_eq_true.1 h _ (List.getElem_mem hi)
def ev (r : List Int) (i : Nat) : Nat := (rd r (i : Int)).toNat
theorem ev_is {r : List Int} (h : r.all elB = true) {i : Nat} (hi : i < r.length) : rd r (i : Int) = (ev r i : Int) ∧ ev r i < 256 := elB_nat (all_rd h hi)
theorem wf_small {a : Nat} (h : a < 65536) : (Lit.int .i64 (a : Int)).wf = true := by
  simp only [Lit.wf, IntKind.min, IntKind.max, IntKind.signed, IntKind.bits, Bool.and_eq_true, decide_eq_true_eq, if_true]
  omega
theorem gfmul_is {k a b : Nat} (ha : a < 256) (hb : b < 256) (hk : 12 ≤ k) : gf_Mul.f k (a : Int) (b : Int) = some (((Gf.mul a b : Nat) : Int), 0) := by
  obtain ⟨j, rfl⟩ : ∃ j, k = j + 3 := ⟨k - 3, by omega⟩
  unfold gf_Mul.f
  rw [bad_two j _ _ (wf_small (by omega)) (wf_small (by omega)), bsome, isEl_true (by omega), isEl_true (by omega), times_is ha hb (by omega), bsome]
  rfl
theorem mtimes_is {k a b : Nat} (ha : a < 256) (hb : b < 256) (hk : 12 ≤ k) : mat_times.f k (a : Int) (b : Int) = some ((Gf.mul a b : Nat) : Int) := by
  unfold mat_times.f
  rw [gfmul_is ha hb hk, bsome]
def dotN (a b : Nat → Nat) : Nat → Nat
  | 0 => 0
  | n + 1 => dotN a b n ^^^ Gf.mul (a n) (b n)
theorem dotN_lt {a b : Nat → Nat} : ∀ {n : Nat}, (∀ i, i < n → a i < 256) → dotN a b n < 256
  | 0, _ => by simp [dotN]
  | n + 1, h => Gf.xor_lt (dotN_lt fun i hi => h i (by omega)) (Gf.mul_lt (h n (by omega)) _)
theorem may_rows {m : List (List Int)} (h : mayB m = true) : 1 ≤ m.length ∧ m.length ≤ 8 ∧ 1 ≤ (rd_L1 m 0).length ∧ (rd_L1 m 0).length ≤ 8 ∧ ∀ i, i < m.length → (rd_L1 m (i : Int)).length = (rd_L1 m 0).length ∧ (rd_L1 m (i : Int)).all elB = true := by
  simp only [mayB, Bool.and_eq_true, decide_eq_true_eq] at h
  have hr : ∀ i, i < m.length → rowB (rd_L1 m 0).length (rd_L1 m (i : Int)) = true := fun i hi => List.all_eq_true.1 h.2 _ (L1_mem i hi)
  have h0 := hr 0 (by omega)
  simp only [rowB, Bool.and_eq_true, decide_eq_true_eq] at h0 hr
  exact ⟨h.1.1, h.1.2, h0.1.1.2, h0.1.2, fun i hi => ⟨(hr i hi).1.1.1, (hr i hi).2⟩⟩
/-! ### The steps over plain numbers: R i j is what stands in row i, column j -/
abbrev Mx := Nat → Nat → Nat
abbrev matN (T E g n m : Nat) (hs cs : Nat → Nat) (R : Mx) : Asn := matA T E g n m hs cs (fun a b => ((R a b : Nat) : Int))
abbrev small (R : Mx) : Prop := ∀ a b, R a b < 256
/-- The first row from i on whose number in column c is not 0 (d rows are looked at). -/
def fnz (R : Mx) (c : Nat) : Nat → Nat → Nat
  | 0, i => i
  | d + 1, i => if R i c = 0 then fnz R c d (i + 1) else i
theorem fnz_ge (R : Mx) (c : Nat) : ∀ d i, i ≤ fnz R c d i ∧ fnz R c d i ≤ i + d
  | 0, i => ⟨Nat.le_refl _, Nat.le_refl _⟩
  | d + 1, i => by
    have h := fnz_ge R c d (i + 1)
    unfold fnz
    split <;> omega
theorem fnz_ne (R : Mx) (c : Nat) : ∀ d i, fnz R c d i < i + d → R (fnz R c d i) c ≠ 0
  | 0, i, h => absurd h (by unfold fnz; omega)
  | d + 1, i, h => by
    unfold fnz at h ⊢
    split
    · rename_i h0
      rw [if_pos h0] at h
      exact fnz_ne R c d (i + 1) (by omega)
    · assumption
def swapR (R : Mx) (a b : Nat) : Mx := fun i => R (swp a b i)
def normR (R : Mx) (r v k : Nat) : Mx := fun a b => if a = r ∧ b < k then Gf.mul (R a b) v else R a b
def elimR (R : Mx) (r i f k : Nat) : Mx := fun a b => if a = i ∧ b < k then R a b ^^^ Gf.mul f (R r b) else R a b
def elimAll (R : Mx) (r c m i : Nat) : Mx := fun a b => if a < i ∧ a ≠ r ∧ b < m then R a b ^^^ Gf.mul (R a c) (R r b) else R a b
def stepP (n m c r p : Nat) (R : Mx) : Mx := elimAll (normR (swapR R r p) r (Gf.inv (R p c)) m) r c m n
def redRun (n m : Nat) : Nat → Nat → Nat → Mx → Nat × Mx
  | 0, _, r, R => (r, R)
  | d + 1, c, r, R => if r < n then (if fnz R c (n - r) r < n then redRun n m d (c + 1) (r + 1) (stepP n m c r (fnz R c (n - r) r) R) else redRun n m d (c + 1) r R) else (r, R)
theorem small_swap {R : Mx} (h : small R) (a b : Nat) : small (swapR R a b) := fun i j => h _ _
theorem small_norm {R : Mx} (h : small R) (r v k : Nat) : small (normR R r v k) := fun a b => by
  unfold normR; split
  · exact Gf.mul_lt (h _ _) _
  · exact h _ _
theorem small_elim {R : Mx} (h : small R) (r i f k : Nat) (hf : f < 256) : small (elimR R r i f k) := fun a b => by
  unfold elimR; split
  · exact Gf.xor_lt (h _ _) (Gf.mul_lt hf _)
  · exact h _ _
theorem small_all {R : Mx} (h : small R) (r c m i : Nat) : small (elimAll R r c m i) := fun a b => by
  unfold elimAll; split
  · exact Gf.xor_lt (h _ _) (Gf.mul_lt (h _ _) _)
  · exact h _ _
theorem small_step {R : Mx} (h : small R) (n m c r p : Nat) : small (stepP n m c r p R) := small_all (small_norm (small_swap h _ _) _ _ _) _ _ _ _
theorem norm_set (R : Mx) (r v k : Nat) : setM (fun a b => ((normR R r v k a b : Nat) : Int)) r k ((Gf.mul (R r k) v : Nat) : Int) = fun a b => ((normR R r v (k + 1) a b : Nat) : Int) := by
  funext a b
  unfold setM normR
  dsimp only
  by_cases ha : a = r
  · subst ha
    by_cases hb : b = k
    · subst hb; rw [if_pos ⟨rfl, rfl⟩, if_pos ⟨rfl, by omega⟩]
    · rw [if_neg (fun h => hb h.2)]
      by_cases hk : b < k
      · rw [if_pos ⟨rfl, hk⟩, if_pos ⟨rfl, by omega⟩]
      · rw [if_neg (fun h => hk h.2), if_neg (fun h => by have := h.2; omega)]
  · rw [if_neg (fun h => ha h.1), if_neg (fun h => ha h.1), if_neg (fun h => ha h.1)]
theorem elim_set (R : Mx) (r i f k : Nat) (hir : i ≠ r) : setM (fun a b => ((elimR R r i f k a b : Nat) : Int)) i k ((R i k ^^^ Gf.mul f (R r k) : Nat) : Int) = fun a b => ((elimR R r i f (k + 1) a b : Nat) : Int) := by
  funext a b
  unfold setM elimR
  dsimp only
  by_cases ha : a = i
  · subst ha
    by_cases hb : b = k
    · subst hb; rw [if_pos ⟨rfl, rfl⟩, if_pos ⟨rfl, by omega⟩]
    · rw [if_neg (fun h => hb h.2)]
      by_cases hk : b < k
      · rw [if_pos ⟨rfl, hk⟩, if_pos ⟨rfl, by omega⟩]
      · rw [if_neg (fun h => hk h.2), if_neg (fun h => by have := h.2; omega)]
  · rw [if_neg (fun h => ha h.1), if_neg (fun h => ha h.1), if_neg (fun h => ha h.1)]
theorem norm_zero (R : Mx) (r v : Nat) : normR R r v 0 = R := by funext a b; unfold normR; rw [if_neg (fun h => by omega)]
theorem elim_zero (R : Mx) (r i f : Nat) : elimR R r i f 0 = R := by funext a b; unfold elimR; rw [if_neg (fun h => by omega)]
theorem all_zero (R : Mx) (r c m : Nat) : elimAll R r c m 0 = R := by funext a b; unfold elimAll; rw [if_neg (fun h => by omega)]
theorem all_row (R : Mx) (r c m i : Nat) : elimAll R r c m (i + 1) = if i = r then elimAll R r c m i else elimR (elimAll R r c m i) r i (R i c) m := by
  split
  · rename_i e
    subst e
    funext a b
    unfold elimAll
    by_cases h : a < i ∧ a ≠ i ∧ b < m
    · rw [if_pos h, if_pos ⟨by omega, h.2⟩]
    · rw [if_neg h, if_neg (fun h2 => h ⟨by omega, h2.2⟩)]
  · rename_i e
    funext a b
    unfold elimR
    by_cases ha : a = i ∧ b < m
    · rw [if_pos ha]
      obtain ⟨ha, hb⟩ := ha
      subst ha
      unfold elimAll
      rw [if_pos ⟨by omega, e, hb⟩, if_neg (fun h => by omega), if_neg (fun h => h.2.1 rfl)]
    · rw [if_neg ha]
      unfold elimAll
      by_cases h : a < i ∧ a ≠ r ∧ b < m
      · rw [if_pos h, if_pos ⟨by omega, h.2⟩]
      · rw [if_neg h, if_neg (fun h2 => ?_)]
        by_cases h3 : a = i
        · exact ha ⟨h3, h2.2.2⟩
        · exact h ⟨by omega, h2.2⟩
theorem all_row0 (R : Mx) (r c m i : Nat) (h0 : R i c = 0) : elimAll R r c m (i + 1) = elimAll R r c m i := by
  rw [all_row]
  split
  · rfl
  · funext a b
    unfold elimR
    split
    · rw [h0, Gf.zero_mul, Nat.xor_zero]
    · rfl
theorem all_at (R : Mx) (r c m i j : Nat) : elimAll R r c m i i j = R i j := by unfold elimAll; rw [if_neg (fun h => by omega)]
theorem all_piv (R : Mx) (r c m i j : Nat) : elimAll R r c m i r j = R r j := by unfold elimAll; rw [if_neg (fun h => h.2.1 rfl)]
theorem elim_at (R : Mx) (r i f k : Nat) : elimR R r i f k i k = R i k := by unfold elimR; rw [if_neg (fun h => by omega)]
theorem elim_piv (R : Mx) (r i f k j : Nat) (h : i ≠ r) : elimR R r i f k r j = R r j := by unfold elimR; rw [if_neg (fun h2 => h h2.1.symm)]
theorem norm_at (R : Mx) (r v k : Nat) : normR R r v k r k = R r k := by unfold normR; rw [if_neg (fun h => by omega)]
theorem swap_at (R : Mx) (a b j : Nat) : swapR R a b a j = R b j := by unfold swapR swp; rw [if_pos rfl]
/-! ### The field's functions -/
theorem times_nat (a b : Nat) (ha : a < 256) (hb : b < 256) (w : World) : Calls Try.prog 79 #[.int .i64 (a : Int), .int .i64 (b : Int)] w fun e w' => e = .returned (.int .i64 ((Gf.mul a b : Nat) : Int)) ∧ Below w.heap.size w w' :=
  (mat_times.calls 12 _ _ _ w (mtimes_is ha hb (Nat.le_refl _))).mono (fun e w' h => ⟨h.1, h.2⟩)
theorem nz_clo (h gc m cap c : Nat) (x : Int) (w : World) (hc : w.cell? ⟨gc, 0, none⟩ = some (.int .i64 (c : Int))) (hx : w.cell? ⟨h, c, none⟩ = some (.int .i64 x)) (hcm : c < m) (b : Bool) (hb : (x != 0) = b) :
    Calls Try.prog 81 #[.slice (some ⟨h, 0, none⟩) m cap, .pointer (some ⟨gc, 0, none⟩)] w fun e w' => e = .returned (.bool b) ∧ Drawn0 w w' := by
  have HB0 := Aside0.mk hb
  clear hb
  have hlt_ : ((c : Int) < (m : Int)) = True := eq_true (by omega)
  have hlt2_ : (c < m) = True := eq_true hcm
  have hg0_ : ((0 : Int) ≤ (c : Int)) = True := eq_true (by omega)
  go_enter Try.func81, Try.ntmps81
  go_wp2_with (fail)
  go_ret
  exact ⟨by rw [← HB0.out]; rfl, by repeat (first | exact Drawn0.refl _ | exact ⟨_, rfl⟩)⟩
theorem wr1 (i : Nat) (h : i < 4096) : wrap64 ((i : Int) + 1) = (i : Int) + 1 := by unfold wrap64; omega
def atI (R : Mx) (c n r : Nat) : Int := if fnz R c (n - r) r < n then ((fnz R c (n - r) r : Nat) : Int) - (r : Int) else -1
theorem atI_yes {R : Mx} {c n r i : Nat} (h : r + i = fnz R c (n - r) r) (hlt : r + i < n) : atI R c n r = (i : Int) := by
  unfold atI
  rw [← h, if_pos hlt]
  omega
theorem atI_no {R : Mx} {c n r : Nat} (h : ¬ fnz R c (n - r) r < n) : atI R c n r = -1 := by unfold atI; rw [if_neg h]
set_option maxHeartbeats 1000000 in
set_option maxRecDepth 100000 in
theorem idx_calls {w0 w : World} {F : List Asn} (h : SL w0 w F) (km kc gc T E Tc g n m r cap c : Nat) (hs cs : Nat → Nat) (R : Mx) (hk : F[km]? = some (matN T E g n m hs cs R)) (hkc : F[kc]? = some (blkA gc #[.int .i64 (c : Int)] Tc)) (hr : r < n) (hc : c < m) (hn : n ≤ 4096) (q : Int) (hq : atI R c n r = q) :
    Calls Try.prog 80 #[.slice (some ⟨g, r, none⟩) (n - r) cap, .func (.func 81) #[] #[.pointer (some ⟨gc, 0, none⟩)]] w fun e w' => e = .returned (.int .i64 q) ∧ Drawn0 w w' := by
  have HS := Aside0.mk h
  have HK := Aside0.mk hk
  have HKC := Aside0.mk hkc
  have HQ := Aside0.mk hq
  clear h hk hkc hq
  go_enter Try.func80, Try.ntmps80
  go_wp2_with (fail)
  go_loopg [5, 8] (n - r) (fun kq v5 v8 wr => ∃ i : Nat, v8 = .int .i64 (i : Int) ∧ i + kq = n - r ∧ Aside0 (fnz R c kq (r + i) = fnz R c (n - r) r) ∧ Aside0 (Drawn0 w wr))
  case atStart => exact ⟨0, rfl, by omega, ⟨rfl⟩, Aside0.mk (Drawn0.refl _)⟩
  case round =>
    obtain ⟨i, rfl, hik, HI, HB⟩ := hrel
    cases gk with
    | zero =>
      have HI2 := HI.out
      rw [fnz] at HI2
      have hno : ¬ fnz R c (n - r) r < n := by omega
      have HNO := Aside0.mk hno
      clear hno HI2
      have hit : decide ((i : Int) < ((n - r : Nat) : Int)) = false := decide_eq_false (by omega)
      go_wp2_with (fail)
      have he : atI R c n r = -1 := atI_no HNO.out
      obtain rfl : q = -1 := by rw [← HQ.out, he]
      clear he HQ
      go_ret
      exact ⟨rfl, HB.out⟩
    | succ g1 =>
      have hri : r + i < n := by omega
      have hilt : i < n - r := by omega
      have hi4 : i < 4096 := by omega
      have HIK : Aside0 (i + 1 + g1 = n - r) := ⟨by omega⟩
      clear hik
      have HI2 := HI.out
      rw [fnz] at HI2
      obtain ⟨hx, _, _⟩ := mat_row HS.out km HK.out (r + i) hri
      obtain ⟨hy, _, _⟩ := mat_cell HS.out km HK.out (r + i) c hri hc
      have hz := (HS.out.c0 kc HKC.out).1
      have hx := (HB.out.below.cell (World.block_lt_of_cell? w _ hx)).trans hx
      have hw1_ := wr1 i hi4
      have hit : decide ((i : Int) < ((n - r : Nat) : Int)) = true := decide_eq_true (Int.ofNat_lt.2 hilt)
      have hlt_ : ((i : Int) < ((n - r : Nat) : Int)) = True := eq_true (Int.ofNat_lt.2 hilt)
      have hlt2_ : (i < n - r) = True := eq_true hilt
      have hg0_ : ((0 : Int) ≤ (i : Int)) = True := eq_true (Int.natCast_nonneg i)
      have hcl := fun (W : World) (hD : Drawn0 w W) => nz_clo (hs (r + i)) gc m (cs (r + i)) c ((R (r + i) c : Nat) : Int) W ((hD.below.cell (World.block_lt_of_cell? w _ hz)).trans hz) ((hD.below.cell (World.block_lt_of_cell? w _ hy)).trans hy) hc
      have HCL := Aside0.mk hcl
      clear hcl hy hz
      by_cases h0 : R (r + i) c = 0
      · rw [if_pos h0] at HI2
        have HI := Aside0.mk HI2
        have hb : (((R (r + i) c : Nat) : Int) != 0) = false := by rw [h0]; rfl
        have HB0 := Aside0.mk hb
        clear HI2 h0 hb
        go_wp2_with (go_at_call 81; (with_reducible refine (HCL.out _ ?hd_ false HB0.out).mono ?_); (case hd_ => exact HB.out); rintro e w1 ⟨rfl, ⟨nd, rfl⟩⟩)
        go_roundg g1
        case measure => exact Nat.lt_succ_self _
        case rel => exact ⟨i + 1, rfl, HIK.out, HI, Aside0.mk (HB.out.step nd)⟩
      · rw [if_neg h0] at HI2
        have he : atI R c n r = (i : Int) := atI_yes HI2 hri
        obtain rfl : q = (i : Int) := by rw [← HQ.out, he]
        clear he HQ
        have HI := Aside0.mk HI2
        have hb : (((R (r + i) c : Nat) : Int) != 0) = true := by simp; exact h0
        have HB0 := Aside0.mk hb
        clear HI2 h0 hb
        go_wp2_with (go_at_call 81; (with_reducible refine (HCL.out _ ?hd_ true HB0.out).mono ?_); (case hd_ => exact HB.out); rintro e w1 ⟨rfl, ⟨nd, rfl⟩⟩)
        go_ret
        exact ⟨rfl, HB.out.step nd⟩
theorem mat_congr {w0 w : World} {l : List Asn} {T E g n m : Nat} {hs cs : Nat → Nat} {R R' : Mx} (h : SL w0 w l) (k : Nat) (hk : l[k]? = some (matN T E g n m hs cs R)) (he : ∀ a b, a < n → b < m → R a b = R' a b) : SL w0 w (l.set k (matN T E g n m hs cs R')) := by
  refine h.imp k hk (fun S hA => ?_)
  obtain ⟨h1, h3, h4, h5, h7⟩ := hA
  refine ⟨h1, h3, h4, h5, fun i hi => ?_⟩
  obtain ⟨c, h8, h9, h10⟩ := h7 i hi
  refine ⟨c, h8, h9, fun j hj => ?_⟩
  exact (h10 j hj).trans (by show some (Value.int .i64 ((R i j : Nat) : Int)) = some (Value.int .i64 ((R' i j : Nat) : Int)); rw [he i j hi hj])
theorem matN_swap {w0 w : World} {l : List Asn} {T E g n m : Nat} {hs cs : Nat → Nat} {R : Mx} (h : SL w0 w l) (k : Nat) (hk : l[k]? = some (matN T E g n m hs cs R)) (a b : Nat) (ha : a < n) (hb : b < n) :
    ∃ hs' cs', SL w0 ((w.setCell ⟨g, a, none⟩ (.slice (some ⟨hs b, 0, none⟩) m (cs b))).setCell ⟨g, b, none⟩ (.slice (some ⟨hs a, 0, none⟩) m (cs a))) (l.set k (matN T E g n m hs' cs' (swapR R a b))) :=
  ⟨_, _, mat_swap h k hk a b ha hb⟩
theorem mat_row_after {w0 w : World} {l : List Asn} {T E g n m : Nat} {hs cs : Nat → Nat} {rows : Nat → Nat → Int} (h : SL w0 w l) (k : Nat) (hk : l[k]? = some (matA T E g n m hs cs rows)) (a b : Nat) (hb : b < n) (u : Value) : ∃ v, (w.setCell ⟨g, a, none⟩ u).cell? ⟨g, b, none⟩ = some v ∧ (w.setCell ⟨g, a, none⟩ u).frozen? ⟨g, b, none⟩ = false := by
  obtain ⟨S, ⟨_, _, _, ⟨cells, h5, h6⟩, _⟩, _⟩ := h.nth k hk
  have h7 := blk_set h5 a u
  have hlt : b < (cells.setIfInBounds a u).size := by rw [Array.size_setIfInBounds]; exact (Array.getElem?_eq_some_iff.1 (h6 b hb)).1
  exact ⟨_, (blk_cell h7 b).trans (Array.getElem?_eq_getElem hlt), blk_frozen h7 b⟩
theorem wr2 (a b : Nat) (ha : a < 4096) (hb : b < 4096) : wrap64 ((a : Int) + (b : Int)) = (a : Int) + (b : Int) := by unfold wrap64; omega
theorem cut_at {P : Program} (t e : TypeId) {i : TypeInfo} (ht : P.underlying t = some (.slice e)) (hi : P.info? e = some i) (hsz : i.size = 1) (g n c r : Nat) (hr : r ≤ n) (hrc : r < c) (W : World) :
    (Instr.slice t (.slice (some ⟨g, 0, none⟩) n c) (some (.int .i64 (r : Int))) none none).run P W = .ok (.slice (some ⟨g, r, none⟩) (n - r) (c - r)) W := by
  have hel : P.elem t = e := by simp [Program.elem, ht]
  have hu : P.underlying t = some (.slice (P.elem t)) := by rw [hel]; exact ht
  have hne : ¬ c = r := by omega
  have ha := add_at g 0 r
  rw [Nat.zero_add] at ha
  rw [run_slice_l W t (some ⟨g, 0, none⟩) n c hu .i64 (r : Int) (Int.natCast_nonneg _) (by omega), hel]
  simp [sizeOf, typeInfo, hi, hsz, sliced, Result.andThen, hne, ha]
theorem infoR : (Try.prog.info? 28).map (fun i => (i.zero, i.size, i.bytes)) = some (some (.slice none 0 0), 1, 24) := by kernel_rfl
theorem mat_cellN {w0 w : World} {l : List Asn} {T E g n m : Nat} {hs cs : Nat → Nat} {R : Mx} (h : SL w0 w l) (k : Nat) (hk : l[k]? = some (matN T E g n m hs cs R)) (i j : Nat) (hi : i < n) (hj : j < m) (x : Nat) (hx : R i j = x) : w.cell? ⟨hs i, j, none⟩ = some (.int .i64 (x : Int)) ∧ w.frozen? ⟨hs i, j, none⟩ = false ∧ hs i < w.heap.size := by
  subst hx
  exact mat_cell h k hk i j hi hj
theorem mat_putN {w0 w : World} {l : List Asn} {T E g n m : Nat} {hs cs : Nat → Nat} {R R2 : Mx} (h : SL w0 w l) (k : Nat) (hk : l[k]? = some (matN T E g n m hs cs R)) (i j : Nat) (hi : i < n) (x : Nat) (he : setM (fun a b => ((R a b : Nat) : Int)) i j (x : Int) = fun a b => ((R2 a b : Nat) : Int)) : SL w0 (w.setCell ⟨hs i, j, none⟩ (.int .i64 (x : Int))) (l.set k (matN T E g n m hs cs R2)) := by
  have h1 := mat_put h k hk i j hi (x : Int)
  rw [he] at h1
  exact h1
theorem step_is (n m c r q : Nat) (R R1 : Mx) (h : R1 = swapR R r (r + q)) : stepP n m c r (r + q) R = elimAll (normR R1 r (Gf.inv (R1 r c)) m) r c m n := by
  subst h
  unfold stepP
  rw [swap_at]
abbrev InvC : Prop := ∀ (a : Nat) (w : World), 0 < a → a < 256 → Calls Try.prog 82 #[.int .i64 (a : Int)] w fun e w' => e = .returned (.tuple #[.int .i64 ((Gf.inv a : Nat) : Int), .int .i64 0]) ∧ Below w.heap.size w w'
theorem red_none {n m d c r : Nat} {R : Mx} {o : Nat × Mx} (h : redRun n m (d + 1) c r R = o) (hr : r < n) (hp : ¬ fnz R c (n - r) r < n) : redRun n m d (c + 1) r R = o := by rw [redRun, if_pos hr, if_neg hp] at h; exact h
theorem red_some {n m d c r : Nat} {R : Mx} {o : Nat × Mx} (h : redRun n m (d + 1) c r R = o) (hr : r < n) (hp : fnz R c (n - r) r < n) : redRun n m d (c + 1) (r + 1) (stepP n m c r (fnz R c (n - r) r) R) = o := by rw [redRun, if_pos hr, if_pos hp] at h; exact h
theorem red_stop {n m d c r : Nat} {R : Mx} {rk : Nat} {R' : Mx} (h : redRun n m d c r R = (rk, R')) (hr : d = 0 ∨ ¬ r < n) : r = rk ∧ R = R' := by
  cases d with
  | zero => rw [redRun] at h; exact ⟨congrArg Prod.fst h, congrArg Prod.snd h⟩
  | succ d =>
    rcases hr with h0 | hr
    · cases h0
    · rw [redRun, if_neg hr] at h; exact ⟨congrArg Prod.fst h, congrArg Prod.snd h⟩
set_option maxHeartbeats 4000000 in
set_option maxRecDepth 100000 in
theorem red_calls (HInv : InvC) {w0 w : World} {F : List Asn} (T E g n m cap cols : Nat) (hs0 cs0 : Nat → Nat) (R0 : Mx) (rk : Nat) (R' : Mx) (h : SL w0 w (matN T E g n m hs0 cs0 R0 :: F)) (hsm : small R0) (hcols : cols ≤ m) (hn : n ≤ 4000) (hm : m ≤ 4000) (hcap : n ≤ cap) (hrun : redRun n m cols 0 0 R0 = (rk, R')) :
    Calls Try.prog 49 #[.slice (some ⟨g, 0, none⟩) n cap, .int .i64 (cols : Int)] w fun e w' => e = .returned (.int .i64 (rk : Int)) ∧ ∃ hs' cs', SL w0 w' (matN T E g n m hs' cs' R' :: F) := by
  have HS := Aside0.mk h
  have HSM := Aside0.mk hsm
  have HRUN := Aside0.mk hrun
  have HCOL := Aside0.mk hcols
  have HCAP := Aside0.mk hcap
  have HINV := Aside0.mk HInv
  clear h hsm hrun hcols hcap HInv
  go_enter Try.func49, Try.ntmps49
  go_upto_region 3 with (fail)
  have HS := Aside0.mk (HS.out.allocBlk #[.int .i64 ((0 : Nat) : Int)] 3)
  generalize w.heap.size = gc0 at HS ⊢
  generalize World.alloc _ _ = w1 at HS ⊢
  go_loopg [5, 6] cols (fun kq v5 v6 wr => ∃ (c r gc : Nat) (hs cs : Nat → Nat) (R : Mx), v5 = .int .i64 (r : Int) ∧ v6 = .pointer (some ⟨gc, 0, none⟩) ∧ c + kq = cols ∧ r ≤ n ∧ Aside0 (small R) ∧ Aside0 (redRun n m kq c r R = (rk, R')) ∧ Aside0 (SL w0 wr (blkA gc #[.int .i64 (c : Int)] 3 :: matN T E g n m hs cs R :: F)))
  case atStart => exact ⟨0, 0, _, hs0, cs0, R0, rfl, rfl, by omega, Nat.zero_le _, HSM, HRUN, HS⟩
  case round =>
    clear HS HSM HRUN
    obtain ⟨c, r, gc, hs, cs, R, rfl, rfl, hck, hrn, HSM, HRUN, HS⟩ := hrel
    obtain ⟨hz, hzf, hzl⟩ := HS.out.c0 0 rfl
    cases gk with
    | zero =>
      have hit : decide ((c : Int) < (cols : Int)) = false := decide_eq_false (by omega)
      obtain ⟨rfl, rfl⟩ := red_stop HRUN.out (.inl rfl)
      go_wp2_with (fail)
      go_ret
      exact ⟨rfl, hs, cs, HS.out.drop⟩
    | succ g1 =>
      have hcm : c < m := by have := HCOL.out; omega
      have hit : decide ((c : Int) < (cols : Int)) = true := decide_eq_true (by omega)
      have HCK : Aside0 (c + 1 + g1 = cols) := ⟨by omega⟩
      have hwc := wr1 c (by omega)
      clear hck
      by_cases hr : r < n
      · have hirn : decide ((r : Int) < (n : Int)) = true := decide_eq_true (Int.ofNat_lt.2 hr)
        have hirn2 : decide (r < n) = true := decide_eq_true hr
        have hitn2 : decide (c < cols) = true := decide_eq_true (by have := HCK.out; omega)
        obtain ⟨i0, hi, hz0, hz1, hz2⟩ := info_parts infoR
        have hcut := fun W => cut_at (P := Try.prog) 66 28 Try.underlying66 hi hz1 g n cap r hrn (by have := HCAP.out; omega) W
        clear hi hz0 hz1 hz2
        by_cases hp : fnz R c (n - r) r < n
        · obtain ⟨q, hq⟩ : ∃ q, fnz R c (n - r) r = r + q := ⟨fnz R c (n - r) r - r, by have := fnz_ge R c (n - r) r; omega⟩
          have hnz := fnz_ne R c (n - r) r (by omega)
          have hrun2 := red_some HRUN.out hr hp
          rw [hq] at hnz hrun2 hp
          have HNZ := Aside0.mk hnz
          have HRUN := Aside0.mk hrun2
          have HIX := Aside0.mk (idx_calls HS.out 1 0 gc T E 3 g n m r (cap - r) c hs cs R rfl rfl hr hcm (by omega) (q : Int) (atI_yes hq.symm hp))
          have hq0 : decide ((q : Int) < 0) = false := decide_eq_false (by omega)
          have hwq := wr2 r q (by omega) (by omega)
          have hrq : r + q < n := hp
          have htn : ((r : Int) + (q : Int)).toNat = r + q := by omega
          have hb1_ : ((0 : Int) ≤ (r : Int) + (q : Int)) = True := eq_true (by omega)
          have hb2_ : ((r : Int) + (q : Int) < (n : Int)) = True := eq_true (by omega)
          have hb3_ : ((0 : Int) ≤ (r : Int)) = True := eq_true (Int.natCast_nonneg r)
          have hb4_ : ((r : Int) < (n : Int)) = True := eq_true (Int.ofNat_lt.2 hr)
          clear hq hnz hrun2 hp
          go_upto_region 7 with (go_at_call 80; (with_reducible refine HIX.out.mono ?_); rintro e w2 ⟨rfl, ⟨nd, rfl⟩⟩)
          have HS := Aside0.mk (HS.out.drewN nd)
          clear hz hzf hzl HIX hcut
          generalize World.drewN _ _ = w2 at HS ⊢
          (refine start_ (n := 20) (S := (fun w_ => SL w0 w_ (blkA gc #[.int .i64 (c : Int)] 3 :: matN T E g n m hs cs R :: F))) (ds := [17, 19]) #[false, false, false, false, false, false, false, false, false, false, false, false, false, false, false, false, false, false, false, false] (by kernel_rfl) rfl rfl (by repeat (first | (with_reducible first | exact HS.out | apply Sep.SL.drewN | apply Sep.SL.drew | apply Sep.SL.alloc | apply below_drew1) | exact HS.out)) (fun hHeld => ?_); clear HS; have HS := Aside0.mk hHeld; clear hHeld; generalize World.drew _ = wr_ at HS ⊢)
          (refine pure_ (i := 0) (N := some 34) (v := ?_) (a' := ?_) #[true, false, false, false, false, false, false, false, false, false, false, false, false, false, false, false, false, false, false, false] rfl rfl (by kernel_rfl) (fun _ _ _ h => h) (Or.inl ⟨by rfl, ?_⟩) ?_ ?_; rotate_left; (intro w_; go_simp; with_reducible rfl); rotate_left; (simp only [Act.put, List.setIfInBounds_toArray, List.set_cons_zero, List.set_cons_succ, i64_w, i32_w]; rfl))
          (refine pure_ (i := 1) (N := some 35) (v := ?_) (a' := ?_) #[true, true, false, false, false, false, false, false, false, false, false, false, false, false, false, false, false, false, false, false] rfl rfl (by kernel_rfl) (fun _ _ _ h => h) (Or.inl ⟨by rfl, ?_⟩) ?_ ?_; rotate_left; (intro w_; go_simp; with_reducible rfl); rotate_left; (simp only [Act.put, List.setIfInBounds_toArray, List.set_cons_zero, List.set_cons_succ, i64_w, i32_w]; rfl))
          (refine pure_ (i := 2) (N := some 36) (v := ?_) (a' := ?_) #[true, true, true, false, false, false, false, false, false, false, false, false, false, false, false, false, false, false, false, false] rfl rfl (by kernel_rfl) (fun _ _ _ h => h) (Or.inl ⟨by rfl, ?_⟩) ?_ ?_; rotate_left; (intro w_; go_simp; with_reducible rfl); rotate_left; (simp only [Act.put, List.setIfInBounds_toArray, List.set_cons_zero, List.set_cons_succ, i64_w, i32_w]; rfl))
          (refine pure_ (i := 3) (N := some 37) (v := ?_) (a' := ?_) #[true, true, true, true, false, false, false, false, false, false, false, false, false, false, false, false, false, false, false, false] rfl rfl (by kernel_rfl) (fun _ _ _ h => h) (Or.inl ⟨by rfl, ?_⟩) ?_ ?_; rotate_left; (intro w_; go_simp; with_reducible rfl); rotate_left; (simp only [Act.put, List.setIfInBounds_toArray, List.set_cons_zero, List.set_cons_succ, i64_w, i32_w]; rfl))
          (refine pure_ (i := 4) (N := some 38) (v := ?_) (a' := ?_) #[true, true, true, true, true, false, false, false, false, false, false, false, false, false, false, false, false, false, false, false] rfl rfl (by kernel_rfl) (fun _ _ _ h => h) (Or.inl ⟨by rfl, ?_⟩) ?_ ?_; rotate_left; (intro w_; go_simp; with_reducible rfl); rotate_left; (simp only [Act.put, List.setIfInBounds_toArray, List.set_cons_zero, List.set_cons_succ, i64_w, i32_w]; rfl))
          (refine pure_ (i := 5) (N := some 39) (v := ?_) (a' := ?_) #[true, true, true, true, true, true, false, false, false, false, false, false, false, false, false, false, false, false, false, false] rfl rfl (by kernel_rfl) (fun _ _ _ h => h) (Or.inl ⟨by rfl, ?_⟩) ?_ ?_; rotate_left; (intro w_; go_simp; with_reducible rfl); rotate_left; (simp only [Act.put, List.setIfInBounds_toArray, List.set_cons_zero, List.set_cons_succ, i64_w, i32_w]; rfl))
          (refine pure_ (i := 6) (N := some 40) (v := ?_) (a' := ?_) #[true, true, true, true, true, true, true, false, false, false, false, false, false, false, false, false, false, false, false, false] rfl rfl (by kernel_rfl) (fun _ _ _ h => h) (Or.inl ⟨by rfl, ?_⟩) ?_ ?_; rotate_left; (intro w_; go_simp; with_reducible rfl); rotate_left; (simp only [Act.put, List.setIfInBounds_toArray, List.set_cons_zero, List.set_cons_succ, i64_w, i32_w]; rfl))
          (refine pure_ (i := 7) (N := some 41) (v := ?_) (a' := ?_) #[true, true, true, true, true, true, true, true, false, false, false, false, false, false, false, false, false, false, false, false] rfl rfl (by kernel_rfl) (fun _ _ _ h => h) (Or.inl ⟨by rfl, ?_⟩) ?_ ?_; rotate_left; (intro w_; go_simp; with_reducible rfl); rotate_left; (simp only [Act.put, List.setIfInBounds_toArray, List.set_cons_zero, List.set_cons_succ, i64_w, i32_w]; rfl))
          (refine pure_ (i := 8) (N := some 42) (v := ?_) (a' := ?_) #[true, true, true, true, true, true, true, true, true, false, false, false, false, false, false, false, false, false, false, false] rfl rfl (by kernel_rfl) (fun _ _ _ h => h) (Or.inl ⟨by rfl, ?_⟩) ?_ ?_; rotate_left; (intro w_; go_simp; with_reducible rfl); rotate_left; (simp only [Act.put, List.setIfInBounds_toArray, List.set_cons_zero, List.set_cons_succ, i64_w, i32_w]; rfl))
          (refine pure_ (i := 9) (N := some 43) (v := ?_) (a' := ?_) #[true, true, true, true, true, true, true, true, true, true, false, false, false, false, false, false, false, false, false, false] rfl rfl (by kernel_rfl) (fun _ _ _ h => h) (Or.inl ⟨by rfl, ?_⟩) ?_ ?_; rotate_left; (intro w_; go_simp; with_reducible rfl); rotate_left; (simp only [Act.put, List.setIfInBounds_toArray, List.set_cons_zero, List.set_cons_succ, i64_w, i32_w]; rfl))
          (refine pure_ (i := 10) (N := some 44) (v := ?_) (a' := ?_) #[true, true, true, true, true, true, true, true, true, true, true, false, false, false, false, false, false, false, false, false] rfl rfl (by kernel_rfl) (fun _ _ _ h => h) (Or.inl ⟨by rfl, ?_⟩) ?_ ?_; rotate_left; (intro w_; go_simp; with_reducible rfl); rotate_left; (simp only [Act.put, List.setIfInBounds_toArray, List.set_cons_zero, List.set_cons_succ, i64_w, i32_w]; rfl))
          (refine take_ (i := 11) (N := some 45) (v := (.slice (some ⟨hs (r + q), 0, none⟩) m (cs (r + q)))) (a' := ?_) #[true, true, true, true, true, true, true, true, true, true, true, true, false, false, false, false, false, false, false, false] rfl rfl (by kernel_rfl) (fun _ _ _ h => h) (Or.inl ⟨by rfl, ?_⟩) HS.out ?_ ?_; (intro w_ hS_; (obtain ⟨hx_, _, _⟩ := mat_row hS_ 1 rfl (r + q) hrq; go_simp)); rotate_left; (simp only [Act.put, List.setIfInBounds_toArray, List.set_cons_zero, List.set_cons_succ, i64_w, i32_w]; rfl))
          (refine pure_ (i := 12) (N := some 46) (v := ?_) (a' := ?_) #[true, true, true, true, true, true, true, true, true, true, true, true, true, false, false, false, false, false, false, false] rfl rfl (by kernel_rfl) (fun _ _ _ h => h) (Or.inl ⟨by rfl, ?_⟩) ?_ ?_; rotate_left; (intro w_; go_simp; with_reducible rfl); rotate_left; (simp only [Act.put, List.setIfInBounds_toArray, List.set_cons_zero, List.set_cons_succ, i64_w, i32_w]; rfl))
          (refine pure_ (i := 13) (N := some 47) (v := ?_) (a' := ?_) #[true, true, true, true, true, true, true, true, true, true, true, true, true, true, false, false, false, false, false, false] rfl rfl (by kernel_rfl) (fun _ _ _ h => h) (Or.inl ⟨by rfl, ?_⟩) ?_ ?_; rotate_left; (intro w_; go_simp; with_reducible rfl); rotate_left; (simp only [Act.put, List.setIfInBounds_toArray, List.set_cons_zero, List.set_cons_succ, i64_w, i32_w]; rfl))
          (refine pure_ (i := 14) (N := some 48) (v := ?_) (a' := ?_) #[true, true, true, true, true, true, true, true, true, true, true, true, true, true, true, false, false, false, false, false] rfl rfl (by kernel_rfl) (fun _ _ _ h => h) (Or.inl ⟨by rfl, ?_⟩) ?_ ?_; rotate_left; (intro w_; go_simp; with_reducible rfl); rotate_left; (simp only [Act.put, List.setIfInBounds_toArray, List.set_cons_zero, List.set_cons_succ, i64_w, i32_w]; rfl))
          (refine take_ (i := 15) (N := some 49) (v := (.slice (some ⟨hs r, 0, none⟩) m (cs r))) (a' := ?_) #[true, true, true, true, true, true, true, true, true, true, true, true, true, true, true, true, false, false, false, false] rfl rfl (by kernel_rfl) (fun _ _ _ h => h) (Or.inl ⟨by rfl, ?_⟩) HS.out ?_ ?_; (intro w_ hS_; (obtain ⟨hx_, _, _⟩ := mat_row hS_ 1 rfl r hr; go_simp)); rotate_left; (simp only [Act.put, List.setIfInBounds_toArray, List.set_cons_zero, List.set_cons_succ, i64_w, i32_w]; rfl))
          (refine pure_ (i := 16) (N := some 50) (v := ?_) (a' := ?_) #[true, true, true, true, true, true, true, true, true, true, true, true, true, true, true, true, true, false, false, false] rfl rfl (by kernel_rfl) (fun _ _ _ h => h) (Or.inl ⟨by rfl, ?_⟩) ?_ ?_; rotate_left; (intro w_; go_simp; with_reducible rfl); rotate_left; (simp only [Act.put, List.setIfInBounds_toArray, List.set_cons_zero, List.set_cons_succ, i64_w, i32_w]; rfl))
          obtain ⟨hz1_, hz2_, hz3_⟩ := mat_row HS.out 1 rfl r hr
          obtain ⟨vq_, hy1_, hy2_⟩ := mat_row_after HS.out 1 rfl r (r + q) hrq (.slice (some ⟨hs (r + q), 0, none⟩) m (cs (r + q)))
          (refine last_ (i := 17) (N := none) #[true, true, true, true, true, true, true, true, true, true, true, true, true, true, true, true, true, true, false, false] rfl rfl (by kernel_rfl) (by decide) (fun K hK => ?_); (go_simp); refine hK.out _ _ ?_; clear hK K)
          (refine pure_ (i := 18) (N := some 51) (v := ?_) (a' := ?_) #[true, true, true, true, true, true, true, true, true, true, true, true, true, true, true, true, true, true, true, false] rfl rfl (by kernel_rfl) (fun _ _ _ h => h) (Or.inl ⟨by rfl, ?_⟩) ?_ ?_; rotate_left; (intro w_; go_simp; with_reducible rfl); rotate_left; (simp only [Act.put, List.setIfInBounds_toArray, List.set_cons_zero, List.set_cons_succ, i64_w, i32_w]; rfl))
          (refine last_ (i := 19) (N := none) #[true, true, true, true, true, true, true, true, true, true, true, true, true, true, true, true, true, true, true, true] rfl rfl (by kernel_rfl) (by decide) (fun K hK => ?_); (go_simp); refine hK.out _ _ ?_; clear hK K)
          refine done_ (by kernel_rfl) ?_
          obtain ⟨hs1, cs1, h1_⟩ := matN_swap HS.out 1 rfl r (r + q) hr hrq
          obtain ⟨R1, hR1⟩ : ∃ R1, R1 = swapR R r (r + q) := ⟨_, rfl⟩
          have hrun3 := HRUN.out
          rw [step_is n m c r q R R1 hR1] at hrun3
          have hnz1 : R1 r c ≠ 0 := by rw [hR1, swap_at]; exact HNZ.out
          have hsm1 : small R1 := by rw [hR1]; exact small_swap HSM.out _ _
          rw [← hR1] at h1_
          have HS : Aside0 (SL w0 _ (blkA gc #[.int .i64 (c : Int)] 3 :: matN T E g n m hs1 cs1 (R1) :: F)) := ⟨h1_⟩
          have HNZ := Aside0.mk hnz1
          have HSM := Aside0.mk hsm1
          have HRUN := Aside0.mk hrun3
          clear h1_ hrun3 hnz1 hsm1 hR1 hz1_ hz2_ hz3_ hy1_ hy2_ hb1_ hb2_ htn hwq hq0 hrq
          generalize World.setCell _ _ _ = w3 at HS ⊢
          obtain ⟨hz, hzf, hzl⟩ := HS.out.c0 0 rfl
          obtain ⟨hx1_, _, _⟩ := mat_row HS.out 1 rfl r hr
          obtain ⟨hx2_, _, _⟩ := mat_cellN HS.out 1 rfl r c hr hcm (R1 r c) rfl
          have hb5_ : ((0 : Int) ≤ (c : Int)) = True := eq_true (Int.natCast_nonneg c)
          have hb6_ : ((c : Int) < (m : Int)) = True := eq_true (Int.ofNat_lt.2 hcm)
          have hb7_ : (c < m) = True := eq_true hcm
          have hb8_ : (r < n) = True := eq_true hr
          go_upto_region 11 with (go_at_call 82; refine (HINV.out (R1 r c) _ (Nat.pos_of_ne_zero HNZ.out) (HSM.out r c)).mono ?_; rintro e w4 ⟨rfl, hb_⟩; have n1_ := Aside0.mk (SL.ext (by repeat (first | (with_reducible first | exact HS.out | apply Sep.SL.drewN | apply Sep.SL.drew | apply Sep.SL.alloc | apply below_drew1) | exact HS.out)) hb_); clear HS hb_; have HS := n1_; clear n1_)
          clear hz hzf hzl hx1_ hx2_
          obtain ⟨v, hv⟩ : ∃ v, v = Gf.inv (R1 r c) := ⟨_, rfl⟩
          have hv256 : v < 256 := by rw [hv]; exact Gf.inv_lt (HSM.out r c)
          have hrun4 := HRUN.out
          rw [← hv] at hrun4 ⊢
          have HRUN := Aside0.mk hrun4
          have HV := Aside0.mk hv256
          clear hv hrun4 hv256
          have HS : Aside0 (SL w0 w4 (blkA gc #[.int .i64 (c : Int)] 3 :: matN T E g n m hs1 cs1 (normR R1 r v 0) :: F)) := by rw [norm_zero]; exact HS
          go_loopg [11, 66] m (fun kq v11 v66 wr => ∃ k : Nat, v66 = .int .i64 (k : Int) ∧ k + kq = m ∧ Aside0 (SL w0 wr (blkA gc #[.int .i64 (c : Int)] 3 :: matN T E g n m hs1 cs1 (normR R1 r v k) :: F)))
          case atStart => exact ⟨0, rfl, by omega, HS⟩
          case round =>
            clear HS
            obtain ⟨k, rfl, hkk, HS⟩ := hrel
            cases gk with
            | zero =>
              obtain rfl : k = m := by omega
              clear hkk
              have hit3 : decide ((k : Int) < (k : Int)) = false := decide_eq_false (by omega)
              obtain ⟨R2, hR2⟩ : ∃ R2, R2 = normR R1 r v k := ⟨_, rfl⟩
              have hrun5 := HRUN.out
              have hsm2 : small R2 := by rw [hR2]; exact small_norm HSM.out _ _ _
              rw [← hR2] at hrun5
              have HS : Aside0 (SL w0 wr (blkA gc #[.int .i64 (c : Int)] 3 :: matN T E g n k hs1 cs1 (elimAll R2 r c k 0) :: F)) := by rw [all_zero, hR2]; exact HS
              have HRUN := Aside0.mk hrun5
              have HSM := Aside0.mk hsm2
              clear hrun5 hsm2 hR2 HV HNZ
              go_upto_region 16 with (fail)
              clear hit3
              go_loopg [12, 81] n (fun kq v12 v81 wr => ∃ i : Nat, v81 = .int .i64 (i : Int) ∧ i + kq = n ∧ Aside0 (SL w0 wr (blkA gc #[.int .i64 (c : Int)] 3 :: matN T E g n k hs1 cs1 (elimAll R2 r c k i) :: F)))
              case atStart => exact ⟨0, rfl, by omega, HS⟩
              case round =>
                clear HS
                obtain ⟨i, rfl, hik, HS⟩ := hrel
                cases gk with
                | zero =>
                  obtain rfl : i = n := by omega
                  clear hik
                  have hit3 : decide ((i : Int) < (i : Int)) = false := decide_eq_false (by omega)
                  have hwr := wr1 r (by omega)
                  obtain ⟨hz, hzf, hzl⟩ := HS.out.c0 0 rfl
                  go_upto_region 4 with (fail)
                  have h1_ : SL w0 (World.alloc wr (.cells #[.int .i64 (c : Int)] 3 (0, 0))) (blkA wr.heap.size #[.int .i64 (c : Int)] 3 :: matN T E g i k hs1 cs1 (elimAll R2 r c k i) :: F) := Sep.SL.allocBlk HS.out.drop _ _
                  generalize wr.heap.size = gn at h1_ ⊢
                  generalize World.alloc _ _ = w5 at h1_ ⊢
                  have HS := Aside0.mk h1_
                  clear h1_ hz hzf hzl
                  obtain ⟨hz, hzf, hzl⟩ := HS.out.c0 0 rfl
                  have HP := Aside0.mk (HS.out.put 0 rfl 0 (.int .i64 ((c : Int) + 1)))
                  have HSM3 : Aside0 (small (elimAll R2 r c k i)) := ⟨small_all HSM.out _ _ _ _⟩
                  go_wp2_with (fail)
                  go_roundg g1
                  case measure => exact Nat.lt_succ_self _
                  case rel => exact ⟨c + 1, r + 1, gn, hs1, cs1, _, rfl, rfl, HCK.out, hr, HSM3, HRUN, HP⟩
                | succ g2 =>
                  have hin : i < n := by omega
                  have HIK : Aside0 (i + 1 + g2 = n) := ⟨by omega⟩
                  have hwi := wr1 i (by omega)
                  clear hik
                  have hit3 : decide ((i : Int) < (n : Int)) = true := decide_eq_true (Int.ofNat_lt.2 hin)
                  have hit4 : decide (i < n) = true := decide_eq_true hin
                  have hi0_ : ((0 : Int) ≤ (i : Int)) = True := eq_true (Int.natCast_nonneg i)
                  have hi1_ : ((i : Int) < (n : Int)) = True := eq_true (Int.ofNat_lt.2 hin)
                  have hi2_ : (i < n) = True := eq_true hin
                  obtain ⟨hz, hzf, hzl⟩ := HS.out.c0 0 rfl
                  obtain ⟨hx1_, _, _⟩ := mat_row HS.out 1 rfl i hin
                  by_cases hir : i = r
                  · have HS2 : Aside0 (SL w0 wr (blkA gc #[.int .i64 (c : Int)] 3 :: matN T E g n k hs1 cs1 (elimAll R2 r c k (i + 1)) :: F)) := by rw [all_row, if_pos hir]; exact HS
                    have hbe : (((i : Int)) == (r : Int)) = true := beq_iff_eq.2 (by omega)
                    have hbe2 : (i == r) = true := beq_iff_eq.2 hir
                    clear hir
                    go_wp2_with (fail)
                    go_roundg g2
                    case measure => exact Nat.lt_succ_self _
                    case rel => exact ⟨i + 1, rfl, HIK.out, HS2⟩
                  · have hbe : (((i : Int)) == (r : Int)) = false := beq_eq_false_iff_ne.2 (by omega)
                    have hbe2 : (i == r) = false := beq_eq_false_iff_ne.2 hir
                    by_cases h0 : R2 i c = 0
                    · obtain ⟨hx2_, _, _⟩ := mat_cellN HS.out 1 rfl i c hin hcm 0 (by rw [all_at]; exact h0)
                      have HS2 : Aside0 (SL w0 wr (blkA gc #[.int .i64 (c : Int)] 3 :: matN T E g n k hs1 cs1 (elimAll R2 r c k (i + 1)) :: F)) := by rw [all_row0 _ _ _ _ _ h0]; exact HS
                      clear hir h0
                      go_wp2_with (fail)
                      go_roundg g2
                      case measure => exact Nat.lt_succ_self _
                      case rel => exact ⟨i + 1, rfl, HIK.out, HS2⟩
                    · obtain ⟨hx2_, _, _⟩ := mat_cellN HS.out 1 rfl i c hin hcm (R2 i c) (all_at _ _ _ _ _ _)
                      have hne0 : ((((R2 i c : Nat) : Int)) == 0) = false := beq_eq_false_iff_ne.2 (by omega)
                      have hne1 : (R2 i c == 0) = false := beq_eq_false_iff_ne.2 h0
                      have HIR := Aside0.mk hir
                      clear hir
                      have HS : Aside0 (SL w0 wr (blkA gc #[.int .i64 (c : Int)] 3 :: matN T E g n k hs1 cs1 (elimR (elimAll R2 r c k i) r i (R2 i c) 0) :: F)) := by rw [elim_zero]; exact HS
                      clear h0
                      go_upto_region 21 with (fail)
                      clear hz hzf hzl hx1_ hx2_
                      go_loopg [15, 102] k (fun kq v15 v102 wr => ∃ j : Nat, v102 = .int .i64 (j : Int) ∧ j + kq = k ∧ Aside0 (SL w0 wr (blkA gc #[.int .i64 (c : Int)] 3 :: matN T E g n k hs1 cs1 (elimR (elimAll R2 r c k i) r i (R2 i c) j) :: F)))
                      case atStart => exact ⟨0, rfl, by omega, HS⟩
                      case round =>
                        clear HS
                        obtain ⟨j, rfl, hjk, HS⟩ := hrel
                        cases gk with
                        | zero =>
                          obtain rfl : j = k := by omega
                          clear hjk
                          have HS2 : Aside0 (SL w0 wr (blkA gc #[.int .i64 (c : Int)] 3 :: matN T E g n j hs1 cs1 (elimAll R2 r c j (i + 1)) :: F)) := by rw [all_row, if_neg HIR.out]; exact HS
                          have hit6 : decide ((j : Int) < (j : Int)) = false := decide_eq_false (by omega)
                          go_wp2_with (fail)
                          go_roundg g2
                          case measure => exact Nat.lt_succ_self _
                          case rel => exact ⟨i + 1, rfl, HIK.out, HS2⟩
                        | succ g3 =>
                          have hjm : j < k := by omega
                          have HJK : Aside0 (j + 1 + g3 = k) := ⟨by omega⟩
                          have hwj := wr1 j (by omega)
                          clear hjk
                          have hit6 : decide ((j : Int) < (k : Int)) = true := decide_eq_true (Int.ofNat_lt.2 hjm)
                          have hit7 : decide (j < k) = true := decide_eq_true hjm
                          have hj0_ : ((0 : Int) ≤ (j : Int)) = True := eq_true (Int.natCast_nonneg j)
                          have hj1_ : ((j : Int) < (k : Int)) = True := eq_true (Int.ofNat_lt.2 hjm)
                          have hj2_ : (j < k) = True := eq_true hjm
                          have hea := (elim_at (elimAll R2 r c k i) r i (R2 i c) j).trans (all_at R2 r c k i j)
                          have heb := (elim_piv (elimAll R2 r c k i) r i (R2 i c) j j HIR.out).trans (all_piv R2 r c k i j)
                          have hes := elim_set (elimAll R2 r c k i) r i (R2 i c) j HIR.out
                          rw [all_at, all_piv] at hes
                          have HEA := Aside0.mk hea
                          have HEB := Aside0.mk heb
                          have HES := Aside0.mk hes
                          have hbx := bxor (a := R2 i j) (b := Gf.mul (R2 i c) (R2 r j)) (by have := HSM.out i j; omega) (by have := Gf.mul_lt (HSM.out i c) (R2 r j); omega)
                          clear hea heb hes
                          go_upto_region 23 with (fail)
                          (refine start_ (n := 13) (S := (fun w_ => SL w0 w_ (blkA gc #[.int .i64 (c : Int)] 3 :: matN T E g n k hs1 cs1 (elimR (elimAll R2 r c k i) r i (R2 i c) j) :: F))) (ds := [12]) #[false, false, false, false, false, false, false, false, false, false, false, false, false] (by kernel_rfl) rfl rfl (by repeat (first | (with_reducible first | exact HS.out | apply Sep.SL.drewN | apply Sep.SL.drew | apply Sep.SL.alloc | apply below_drew1) | exact HS.out)) (fun hHeld => ?_); clear HS; have HS := Aside0.mk hHeld; clear hHeld; generalize World.drew _ = wr_ at HS ⊢)
                          (refine pure_ (i := 0) (N := some 105) (v := ?_) (a' := ?_) #[true, false, false, false, false, false, false, false, false, false, false, false, false] rfl rfl (by kernel_rfl) (fun _ _ _ h => h) (Or.inl ⟨by rfl, ?_⟩) ?_ ?_; rotate_left; (intro w_; go_simp; with_reducible rfl); rotate_left; (simp only [Act.put, List.setIfInBounds_toArray, List.set_cons_zero, List.set_cons_succ, i64_w, i32_w]; rfl))
                          (refine pure_ (i := 1) (N := some 106) (v := ?_) (a' := ?_) #[true, true, false, false, false, false, false, false, false, false, false, false, false] rfl rfl (by kernel_rfl) (fun _ _ _ h => h) (Or.inl ⟨by rfl, ?_⟩) ?_ ?_; rotate_left; (intro w_; go_simp; with_reducible rfl); rotate_left; (simp only [Act.put, List.setIfInBounds_toArray, List.set_cons_zero, List.set_cons_succ, i64_w, i32_w]; rfl))
                          (refine pure_ (i := 2) (N := some 107) (v := ?_) (a' := ?_) #[true, true, true, false, false, false, false, false, false, false, false, false, false] rfl rfl (by kernel_rfl) (fun _ _ _ h => h) (Or.inl ⟨by rfl, ?_⟩) ?_ ?_; rotate_left; (intro w_; go_simp; with_reducible rfl); rotate_left; (simp only [Act.put, List.setIfInBounds_toArray, List.set_cons_zero, List.set_cons_succ, i64_w, i32_w]; rfl))
                          (refine take_ (i := 3) (N := some 108) (v := (.int .i64 ((R2 i j : Nat) : Int))) (a' := ?_) #[true, true, true, true, false, false, false, false, false, false, false, false, false] rfl rfl (by kernel_rfl) (fun _ _ _ h => h) (Or.inl ⟨by rfl, ?_⟩) HS.out ?_ ?_; (intro w_ hS_; (obtain ⟨hx_, _, _⟩ := mat_cellN hS_ 1 rfl i j hin hjm (R2 i j) HEA.out; go_simp)); rotate_left; (simp only [Act.put, List.setIfInBounds_toArray, List.set_cons_zero, List.set_cons_succ, i64_w, i32_w]; rfl))
                          (refine pure_ (i := 4) (N := some 109) (v := ?_) (a' := ?_) #[true, true, true, true, true, false, false, false, false, false, false, false, false] rfl rfl (by kernel_rfl) (fun _ _ _ h => h) (Or.inl ⟨by rfl, ?_⟩) ?_ ?_; rotate_left; (intro w_; go_simp; with_reducible rfl); rotate_left; (simp only [Act.put, List.setIfInBounds_toArray, List.set_cons_zero, List.set_cons_succ, i64_w, i32_w]; rfl))
                          (refine pure_ (i := 5) (N := some 110) (v := ?_) (a' := ?_) #[true, true, true, true, true, true, false, false, false, false, false, false, false] rfl rfl (by kernel_rfl) (fun _ _ _ h => h) (Or.inl ⟨by rfl, ?_⟩) ?_ ?_; rotate_left; (intro w_; go_simp; with_reducible rfl); rotate_left; (simp only [Act.put, List.setIfInBounds_toArray, List.set_cons_zero, List.set_cons_succ, i64_w, i32_w]; rfl))
                          (refine pure_ (i := 6) (N := some 111) (v := ?_) (a' := ?_) #[true, true, true, true, true, true, true, false, false, false, false, false, false] rfl rfl (by kernel_rfl) (fun _ _ _ h => h) (Or.inl ⟨by rfl, ?_⟩) ?_ ?_; rotate_left; (intro w_; go_simp; with_reducible rfl); rotate_left; (simp only [Act.put, List.setIfInBounds_toArray, List.set_cons_zero, List.set_cons_succ, i64_w, i32_w]; rfl))
                          (refine pure_ (i := 7) (N := some 112) (v := ?_) (a' := ?_) #[true, true, true, true, true, true, true, true, false, false, false, false, false] rfl rfl (by kernel_rfl) (fun _ _ _ h => h) (Or.inl ⟨by rfl, ?_⟩) ?_ ?_; rotate_left; (intro w_; go_simp; with_reducible rfl); rotate_left; (simp only [Act.put, List.setIfInBounds_toArray, List.set_cons_zero, List.set_cons_succ, i64_w, i32_w]; rfl))
                          (refine take_ (i := 8) (N := some 113) (v := (.int .i64 ((R2 r j : Nat) : Int))) (a' := ?_) #[true, true, true, true, true, true, true, true, true, false, false, false, false] rfl rfl (by kernel_rfl) (fun _ _ _ h => h) (Or.inl ⟨by rfl, ?_⟩) HS.out ?_ ?_; (intro w_ hS_; (obtain ⟨hx_, _, _⟩ := mat_cellN hS_ 1 rfl r j hr hjm (R2 r j) HEB.out; go_simp)); rotate_left; (simp only [Act.put, List.setIfInBounds_toArray, List.set_cons_zero, List.set_cons_succ, i64_w, i32_w]; rfl))
                          (refine one_ (i := 9) (N := some 114) #[true, true, true, true, true, true, true, true, true, true, false, false, false] rfl rfl (by kernel_rfl) (by decide) (fun K hK => ?_); refine goes_ Try.func79 (by kernel_rfl) rfl #[.int .i64 ((R2 i c : Nat) : Int), .int .i64 ((R2 r j : Nat) : Int)] (by rfl) rfl rfl (by simp only [List.map_toArray, List.map_cons, List.map_nil]; rfl) ?_; refine (times_nat (R2 i c) (R2 r j) (HSM.out i c) (HSM.out r j) _).mono ?_; (rintro e w4 ⟨rfl, hb_⟩; have n1_ := Aside0.mk (SL.ext HS.out hb_); clear HS hb_; have HS := n1_; clear n1_); refine ⟨(.int .i64 ((Gf.mul (R2 i c) (R2 r j) : Nat) : Int)), rfl, ?_⟩; refine hK.out _ _ HS.out (fun hHeld => ?_); clear hK K hHeld; refine norm_ (a' := ?_) ?_ ?_; rotate_left; (show Act.put _ (some 114) _ = _; simp only [Act.put, List.setIfInBounds_toArray, List.set_cons_zero, List.set_cons_succ, i64_w, i32_w]; rfl))
                          (refine pure_ (i := 10) (N := some 115) (v := ?_) (a' := ?_) #[true, true, true, true, true, true, true, true, true, true, true, false, false] rfl rfl (by kernel_rfl) (fun _ _ _ h => h) (Or.inl ⟨by rfl, ?_⟩) ?_ ?_; rotate_left; (intro w_; go_simp; with_reducible rfl); rotate_left; (simp only [Act.put, List.setIfInBounds_toArray, List.set_cons_zero, List.set_cons_succ, i64_w, i32_w]; rfl))
                          (refine pure_ (i := 11) (N := some 116) (v := ?_) (a' := ?_) #[true, true, true, true, true, true, true, true, true, true, true, true, false] rfl rfl (by kernel_rfl) (fun _ _ _ h => h) (Or.inl ⟨by rfl, ?_⟩) ?_ ?_; rotate_left; (intro w_; go_simp; with_reducible rfl); rotate_left; (simp only [Act.put, List.setIfInBounds_toArray, List.set_cons_zero, List.set_cons_succ, i64_w, i32_w]; rfl))
                          obtain ⟨hy1_, hy2_, _⟩ := mat_cellN HS.out 1 rfl i j hin hjm (R2 i j) HEA.out
                          have HP := Aside0.mk (mat_putN HS.out 1 rfl i j hin (R2 i j ^^^ Gf.mul (R2 i c) (R2 r j)) HES.out)
                          (refine last_ (i := 12) (N := none) #[true, true, true, true, true, true, true, true, true, true, true, true, true] rfl rfl (by kernel_rfl) (by decide) (fun K hK => ?_); (go_simp); refine hK.out _ _ ?_; clear hK K)
                          refine done_ (by kernel_rfl) ?_
                          clear HS
                          generalize World.setCell _ _ _ = w6 at HP ⊢
                          clear hbx HEA HEB HES hy1_ hy2_
                          generalize ((R2 i j ^^^ Gf.mul (R2 i c) (R2 r j) : Nat) : Int) = y1_
                          generalize ((Gf.mul (R2 i c) (R2 r j) : Nat) : Int) = y2_
                          try clear hb3_
                          try clear hb4_
                          try clear hb5_
                          try clear hb6_
                          try clear hb7_
                          try clear hb8_
                          try clear hi0_
                          try clear hi1_
                          try clear hi2_
                          try clear hj0_
                          try clear hj1_
                          try clear hj2_
                          try clear hit3
                          try clear hit4
                          try clear hit6
                          try clear hit7
                          try clear hbe
                          try clear hbe2
                          try clear hne0
                          try clear hne1
                          try clear hwi
                          try clear hwc
                          try clear hirn
                          try clear hirn2
                          try clear hitn2
                          try clear hit
                          try clear hrn
                          try clear hr
                          try clear hcm
                          try clear hin
                          go_wp2_with (fail)
                          go_roundg g3
                          case measure => exact Nat.lt_succ_self _
                          case rel => exact ⟨j + 1, rfl, HJK.out, HP⟩
            | succ g2 =>
              have hkm : k < m := by omega
              have HKK : Aside0 (k + 1 + g2 = m) := ⟨by omega⟩
              have hwk := wr1 k (by omega)
              clear hkk
              have hit3 : decide ((k : Int) < (m : Int)) = true := decide_eq_true (Int.ofNat_lt.2 hkm)
              have hit4 : decide (k < m) = true := decide_eq_true hkm
              have hk0_ : ((0 : Int) ≤ (k : Int)) = True := eq_true (Int.natCast_nonneg k)
              have hk1_ : ((k : Int) < (m : Int)) = True := eq_true (Int.ofNat_lt.2 hkm)
              have hk2_ : (k < m) = True := eq_true hkm
              obtain ⟨hx1_, _, _⟩ := mat_cellN HS.out 1 rfl r k hr hkm (R1 r k) (norm_at _ _ _ _)
              go_wp2_with (go_at_call 79; (with_reducible refine (times_nat (R1 r k) v (HSM.out r k) HV.out _).mono ?_); rintro e w4 ⟨rfl, hb_⟩; have n1_ := Aside0.mk (SL.ext (by repeat (first | (with_reducible first | exact HS.out | apply Sep.SL.drewN | apply Sep.SL.drew | apply Sep.SL.alloc | apply below_drew1) | exact HS.out)) hb_); clear HS hb_; have HS := n1_; clear n1_; obtain ⟨hy1_, hy2_, _⟩ := mat_cellN HS.out 1 rfl r k hr hkm (R1 r k) (norm_at _ _ _ _); have HP := Aside0.mk (mat_putN HS.out 1 rfl r k hr (Gf.mul (R1 r k) v) (norm_set R1 r v k)))
              go_roundg g2
              case measure => exact Nat.lt_succ_self _
              case rel => exact ⟨k + 1, rfl, HKK.out, HP⟩
        · have HQ := Aside0.mk (atI_no hp)
          have HRUN := Aside0.mk (red_none HRUN.out hr hp)
          have HIX := Aside0.mk (idx_calls HS.out 1 0 gc T E 3 g n m r (cap - r) c hs cs R rfl rfl hr hcm (by omega) (-1) HQ.out)
          clear hp HQ
          go_upto_region 27 with (go_at_call 80; (with_reducible refine HIX.out.mono ?_); rintro e w2 ⟨rfl, ⟨nd, rfl⟩⟩)
          have HS := Aside0.mk (HS.out.drewN nd)
          clear hz hzf hzl HIX
          generalize World.drewN _ _ = w2 at HS ⊢
          obtain ⟨hz, hzf, hzl⟩ := HS.out.c0 0 rfl
          go_upto_region 4 with (fail)
          have h1_ : SL w0 (World.alloc w2 (.cells #[.int .i64 (c : Int)] 3 (0, 0))) (blkA w2.heap.size #[.int .i64 (c : Int)] 3 :: matN T E g n m hs cs R :: F) := Sep.SL.allocBlk HS.out.drop _ _
          generalize w2.heap.size = gn at h1_ ⊢
          generalize World.alloc _ _ = w3 at h1_ ⊢
          have HS := Aside0.mk h1_
          clear h1_ hz hzf hzl
          obtain ⟨hz, hzf, hzl⟩ := HS.out.c0 0 rfl
          have HP := Aside0.mk (HS.out.put 0 rfl 0 (.int .i64 ((c : Int) + 1)))
          go_wp2_with (fail)
          go_roundg g1
          case measure => exact Nat.lt_succ_self _
          case rel => exact ⟨c + 1, r, gn, hs, cs, R, rfl, rfl, HCK.out, hrn, HSM, HRUN, HP⟩
      · have hirn : decide ((r : Int) < (n : Int)) = false := decide_eq_false (by omega)
        have hirn2 : decide (r < n) = false := decide_eq_false hr
        have hitn2 : decide (c < cols) = true := decide_eq_true (by have := HCK.out; omega)
        have hirn3 : (r < n) = False := eq_false hr
        obtain ⟨rfl, rfl⟩ := red_stop HRUN.out (.inr hr)
        clear hr
        go_wp2_with (fail)
        go_ret
        exact ⟨rfl, hs, cs, HS.out.drop⟩
end Go.Proofs.Ytpaenlplpaabjaa.QMatInverts
