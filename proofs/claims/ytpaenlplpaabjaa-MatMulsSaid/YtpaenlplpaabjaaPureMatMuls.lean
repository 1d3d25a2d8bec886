/- MatMuls: the two answers are one, over plain numbers and lists, for every argument; no conditions. -/
import Derived.Test.YtpaenlplpaabjaaQMatMulsx6
import Derived.Test.YtpaenlplpaabjaaGfMath
set_option linter.unusedVariables false
set_option linter.unusedSimpArgs false
namespace Go.Proofs.Ytpaenlplpaabjaa.Pure
open Go.RowKit Go.Proofs.Ytpaenlplpaabjaa Go.Proofs.Ytpaenlplpaabjaa.QMatMuls Go.Proofs.YtpaenlplpaabjaaW.PrintWords Go.Proofs.YtpaenlplpaabjaaW.PrintLast Go.Proofs.YtpaenlplpaabjaaW.PrintMore

/-- Laid so that simp does not take it for a change of sight alone (the kernel would then compare great terms by computing). -/
theorem bsome {α β : Type} (x : α) (f : α → Option β) : (some x).bind f = f x := by
  have h : ∀ o, o = some x → o.bind f = f x := by
    intro o ho
    subst ho
    rfl
  exact h _ rfl
/-! Numbers of Go, read as plain ones -/
theorem wf64 {a : Int} (h : (Lit.int .i64 a).wf = true) : -9223372036854775808 ≤ a ∧ a ≤ 9223372036854775807 := by
  simp only [Lit.wf, IntKind.min, IntKind.max, IntKind.signed, IntKind.bits, Bool.and_eq_true, decide_eq_true_eq, if_true] at h
  omega
theorem wrap_id {n : Int} (h0 : -9223372036854775808 ≤ n) (h1 : n ≤ 9223372036854775807) : wrap64 n = n := by unfold wrap64; omega
theorem wrap01 : wrap64 (0 + 1) = 1 := wrap_id (n := 0 + 1) (by decide) (by decide)
theorem wrap11 : wrap64 (1 + 1) = 2 := wrap_id (n := 1 + 1) (by decide) (by decide)
theorem iwrap_id {n : Int} (h0 : 0 ≤ n) (h1 : n ≤ 9223372036854775807) : IntKind.i64.wrap n = n := by rw [IntKind.wrap_i64]; omega
theorem mod64 {a : Nat} (h : a < 256) : a % 2 ^ 64 = a := Nat.mod_eq_of_lt (Nat.lt_of_lt_of_le h (by decide))
theorem mod64' {a : Nat} (h : a < 65536) : a % 2 ^ 64 = a := Nat.mod_eq_of_lt (Nat.lt_of_lt_of_le h (by decide))
theorem bxor {a b : Nat} (ha : a < 65536) (hb : b < 65536) : Go.bits .xor .i64 (a : Int) (b : Int) = ((a ^^^ b : Nat) : Int) := by
  have hx : a ^^^ b < 65536 := Nat.xor_lt_two_pow (n := 16) ha hb
  have e : (BitVec.ofInt 64 (a : Int) ^^^ BitVec.ofInt 64 (b : Int)).toNat = a ^^^ b := by
    rw [BitVec.ofInt_natCast, BitVec.ofInt_natCast, BitVec.toNat_xor, BitVec.toNat_ofNat, BitVec.toNat_ofNat, mod64' ha, mod64' hb]
  show IntKind.i64.wrap (((BitVec.ofInt 64 (a : Int) ^^^ BitVec.ofInt 64 (b : Int)).toNat : Nat) : Int) = _
  rw [e]
  exact iwrap_id (n := ((a ^^^ b : Nat) : Int)) (by omega) (by omega)
theorem band {a b : Nat} (ha : a < 65536) (hb : b < 65536) : Go.bits .and .i64 (a : Int) (b : Int) = ((a &&& b : Nat) : Int) := by
  have hx : a &&& b < 65536 := Nat.and_lt_two_pow (n := 16) _ hb
  have e : (BitVec.ofInt 64 (a : Int) &&& BitVec.ofInt 64 (b : Int)).toNat = a &&& b := by
    rw [BitVec.ofInt_natCast, BitVec.ofInt_natCast, BitVec.toNat_and, BitVec.toNat_ofNat, BitVec.toNat_ofNat, mod64' ha, mod64' hb]
  show IntKind.i64.wrap (((BitVec.ofInt 64 (a : Int) &&& BitVec.ofInt 64 (b : Int)).toNat : Nat) : Int) = _
  rw [e]
  exact iwrap_id (n := ((a &&& b : Nat) : Int)) (by omega) (by omega)
theorem bor {a b : Nat} (ha : a < 65536) (hb : b < 65536) : Go.bits .or .i64 (a : Int) (b : Int) = ((a ||| b : Nat) : Int) := by
  have hx : a ||| b < 65536 := Nat.or_lt_two_pow (n := 16) ha hb
  have e : (BitVec.ofInt 64 (a : Int) ||| BitVec.ofInt 64 (b : Int)).toNat = a ||| b := by
    rw [BitVec.ofInt_natCast, BitVec.ofInt_natCast, BitVec.toNat_or, BitVec.toNat_ofNat, BitVec.toNat_ofNat, mod64' ha, mod64' hb]
  show IntKind.i64.wrap (((BitVec.ofInt 64 (a : Int) ||| BitVec.ofInt 64 (b : Int)).toNat : Nat) : Int) = _
  rw [e]
  exact iwrap_id (n := ((a ||| b : Nat) : Int)) (by omega) (by omega)
theorem band1 {a : Nat} (ha : a < 65536) : Go.bits .and .i64 (a : Int) 1 = ((a % 2 : Nat) : Int) := by
  have := band (b := 1) ha (by decide)
  rw [Nat.and_one_is_mod] at this
  exact this
/-- A number with no bit of 256 on is an element, and none else. -/
theorem not255 {a : Int} (h0 : -9223372036854775808 ≤ a) (h1 : a ≤ 9223372036854775807) : Go.bits .andNot .i64 a 255 = 0 ↔ 0 ≤ a ∧ a ≤ 255 := by
  constructor
  · intro h
    have hz : (BitVec.ofInt 64 a &&& ~~~ BitVec.ofInt 64 255).toNat = 0 := by
      have hlt := (BitVec.ofInt 64 a &&& ~~~ BitVec.ofInt 64 255).isLt
      have h' : IntKind.i64.wrap ((BitVec.ofInt 64 a &&& ~~~ BitVec.ofInt 64 255).toNat : Int) = 0 := h
      rw [IntKind.wrap_i64] at h'
      omega
    have hv : BitVec.ofInt 64 a = BitVec.ofInt 64 a &&& BitVec.ofInt 64 255 := by
      have hz' : BitVec.ofInt 64 a &&& ~~~ BitVec.ofInt 64 255 = 0#64 := BitVec.eq_of_toNat_eq hz
      have hs : BitVec.ofInt 64 a = (BitVec.ofInt 64 a &&& BitVec.ofInt 64 255) ||| (BitVec.ofInt 64 a &&& ~~~ BitVec.ofInt 64 255) := by
        ext i hi
        simp only [BitVec.getElem_or, BitVec.getElem_and, BitVec.getElem_not]
        cases (BitVec.ofInt 64 a)[i] <;> cases (BitVec.ofInt 64 255)[i] <;> rfl
      rw [hz', BitVec.or_zero] at hs
      exact hs
    have hle : (BitVec.ofInt 64 a).toNat ≤ 255 := by
      rw [hv, BitVec.toNat_and]
      exact Nat.and_le_right
    rw [BitVec.toNat_ofInt] at hle
    omega
  · rintro ⟨h0, h1⟩
    obtain ⟨n, rfl⟩ := Int.eq_ofNat_of_zero_le h0
    have h : Gf.allB (fun n => decide (Go.bits .andNot .i64 (n : Int) 255 = 0)) 256 = true := by decide +kernel
    simpa using Gf.allB_at h n (by omega)
theorem elem_nat {a : Int} (h : 0 ≤ a ∧ a ≤ 255) : ∃ n : Nat, a = (n : Int) ∧ n < 256 := by
  obtain ⟨n, rfl⟩ := Int.eq_ofNat_of_zero_le h.1
  exact ⟨n, rfl, by omega⟩
def isEl (a : Int) : Bool := decide (0 ≤ a ∧ a ≤ 255)
theorem isEl_true {a : Int} (h : 0 ≤ a ∧ a ≤ 255) : isEl a = true := decide_eq_true h
theorem isEl_false {a : Int} (h : ¬(0 ≤ a ∧ a ≤ 255)) : isEl a = false := decide_eq_false h

theorem bad_none (k : Nat) (l : List Int) (n i : Int) (h : ¬ i < n) : gf_bad.l0 (k + 1) l n i = some false := by simp only [gf_bad.l0]; rw [if_neg h]
theorem bad_step (k : Nat) (l : List Int) (n i : Int) (h : i < n) (h0 : 0 ≤ i) (h1 : i < (l.length : Int)) (a : Int) (ha : rd l i = a) (w0 : -9223372036854775808 ≤ a) (w1 : a ≤ 9223372036854775807) :
    gf_bad.l0 (k + 1) l n i = if isEl a then gf_bad.l0 k l n (wrap64 (i + 1)) else some true := by
  simp only [gf_bad.l0]
  rw [if_pos h, if_pos h0, if_pos h1, ha]
  by_cases he : 0 ≤ a ∧ a ≤ 255
  · rw [if_pos ((not255 w0 w1).2 he), isEl_true he, if_pos rfl]
  · rw [if_neg (fun hh => he ((not255 w0 w1).1 hh)), isEl_false he, if_neg (by decide)]
theorem bad_one (k : Nat) (a : Int) (w : (Lit.int .i64 a).wf = true) : gf_bad.f (k + 2) [a] = some (!isEl a) := by
  obtain ⟨w0, w1⟩ := wf64 w
  unfold gf_bad.f
  rw [bad_step (k + 1) [a] _ 0 (by simp) (by decide) (by simp) a rfl w0 w1]
  cases isEl a with
  | false => rfl
  | true => rw [if_pos rfl, wrap01, bad_none k _ _ _ (by simp)]; rfl
theorem bad_two (k : Nat) (a b : Int) (wa : (Lit.int .i64 a).wf = true) (wb : (Lit.int .i64 b).wf = true) : gf_bad.f (k + 3) [a, b] = some (!(isEl a && isEl b)) := by
  obtain ⟨a0, a1⟩ := wf64 wa
  obtain ⟨b0, b1⟩ := wf64 wb
  unfold gf_bad.f
  rw [bad_step (k + 2) [a, b] _ 0 (by simp) (by decide) (by simp) a rfl a0 a1]
  cases isEl a with
  | false => rfl
  | true =>
    rw [if_pos rfl, wrap01, bad_step (k + 1) [a, b] _ 1 (by simp) (by decide) (by simp) b rfl b0 b1]
    cases isEl b with
    | false => rfl
    | true => rw [if_pos rfl, wrap11, bad_none k _ _ _ (by simp)]; rfl

theorem times_loop : ∀ (d k a b o : Nat), a < 256 → b < 2 ^ d → d ≤ 8 → o < 256 → d < k → gf_times.l0 k (a : Int) (b : Int) (o : Int) = some ((Gf.mulL d a b o : Nat) : Int) := by
  intro d
  induction d with
  | zero =>
    intro k a b o _ hb _ _ hk
    obtain ⟨k, rfl⟩ : ∃ m, k = m + 1 := ⟨k - 1, by omega⟩
    have : b = 0 := by omega
    subst this
    simp only [gf_times.l0]
    rw [if_neg (by omega)]
    rfl
  | succ d ih =>
    intro k a b o ha hb hd ho hk
    obtain ⟨k, rfl⟩ : ∃ m, k = m + 1 := ⟨k - 1, by omega⟩
    have hb2 : b / 2 < 2 ^ d := by rw [Nat.pow_succ] at hb; omega
    have hb16 : b < 65536 := Nat.lt_of_lt_of_le hb (Nat.le_trans (Nat.pow_le_pow_right (by decide) hd) (by decide))
    have hw : wrap64 ((a : Int) * 2) = ((2 * a : Nat) : Int) := by rw [wrap_id (by omega) (by omega)]; omega
    have hx : ∀ (o' : Nat), o' < 256 → (if (wrap64 ((a : Int) * 2)) > 255 then gf_times.l0 k (Go.bits .xor .i64 (wrap64 ((a : Int) * 2)) 285) ((b : Int) / 2) (o' : Int) else gf_times.l0 k (wrap64 ((a : Int) * 2)) ((b : Int) / 2) (o' : Int)) = some ((Gf.mulL d (Gf.xt a) (b / 2) o' : Nat) : Int) := by
      intro o' ho'
      rw [hw, show ((b : Int) / 2) = ((b / 2 : Nat) : Int) from by omega]
      by_cases hc : ((2 * a : Nat) : Int) > 255
      · have he : Gf.xt a = (2 * a) ^^^ 285 := by unfold Gf.xt; rw [show a / 128 = 1 from by omega]
        rw [if_pos hc, show (285 : Int) = ((285 : Nat) : Int) from rfl, bxor (by omega) (by decide), ← he]
        exact ih k _ _ _ (Gf.xt_lt ha) hb2 (by omega) ho' (by omega)
      · have he : Gf.xt a = 2 * a := by unfold Gf.xt; rw [show a / 128 = 0 from by omega]; simp
        rw [if_neg hc, ← he]
        exact ih k _ _ _ (Gf.xt_lt ha) hb2 (by omega) ho' (by omega)
    rcases Nat.eq_zero_or_pos b with h0 | h0
    · subst h0
      simp only [gf_times.l0]
      rw [if_neg (by omega)]
      have : ∀ (m a o : Nat), Gf.mulL m a 0 o = o := by
        intro m
        induction m with
        | zero => intro _ _; rfl
        | succ m ihm => intro a o; simp only [Gf.mulL, Nat.zero_div, Nat.zero_mod, Nat.mul_zero, Nat.xor_zero]; exact ihm _ _
      rw [this]
    · simp only [gf_times.l0]
      rw [if_pos (by omega), band1 hb16]
      rcases Gf.bit_cases b with hp | hp
      · rw [if_neg (by rw [hp]; decide), hx o ho]
        simp only [Gf.mulL, hp, Nat.mul_zero, Nat.xor_zero]
      · rw [if_pos (by rw [hp]; rfl), bxor (by omega) (by omega), hx _ (Gf.xor_lt ho ha)]
        simp only [Gf.mulL, hp, Nat.mul_one]
theorem times_is {k a b : Nat} (ha : a < 256) (hb : b < 256) (hk : 8 < k) : gf_times.f k (a : Int) (b : Int) = some ((Gf.mul a b : Nat) : Int) := times_loop 8 k a b 0 ha hb (Nat.le_refl _) (by decide) hk

theorem shl_nat {a i : Nat} (h : a * 2 ^ i < 65536) (hi : i ≤ 64) : shl .i64 (a : Int) (i : Int) = ((a <<< i : Nat) : Int) := by
  unfold shl
  rw [show min ((i : Int).toNat) IntKind.i64.bits = i from by simp [IntKind.bits]; omega, Nat.shiftLeft_eq]
  have : (a : Int) * 2 ^ i = ((a * 2 ^ i : Nat) : Int) := by simp
  rw [this, iwrap_id (by omega) (by omega)]
theorem shr_nat {a i : Nat} (hi : i ≤ 64) : shr .i64 (a : Int) (i : Int) = ((a >>> i : Nat) : Int) := by
  unfold shr
  rw [show min ((i : Int).toNat) IntKind.i64.bits = i from by simp [IntKind.bits]; omega, Nat.shiftRight_eq_div_pow]
  simp
theorem mulof_first : ∀ (d m a b p i : Nat), i + d = 8 → a < 256 → b < 256 → p < 32768 → quicksetref_mulOf.l0 (d + 1 + m) (a : Int) (b : Int) (p : Int) (i : Int) = quicksetref_mulOf.l1 m ((Gf.refP d a b p i : Nat) : Int) 14 ∧ Gf.refP d a b p i < 32768 := by
  intro d
  induction d with
  | zero =>
    intro m a b p i hi ha hb hp
    refine ⟨?_, hp⟩
    rw [show 0 + 1 + m = m + 1 from by omega]
    simp only [quicksetref_mulOf.l0]
    rw [if_neg (by omega)]
    rfl
  | succ d ih =>
    intro m a b p i hi ha hb hp
    have h2 : a * 2 ^ i < 32768 := by
      have : 2 ^ i ≤ 2 ^ 7 := Nat.pow_le_pow_right (by decide) (by omega)
      have := Nat.mul_le_mul (show a ≤ 255 by omega) this
      omega
    have hs : b >>> i < 65536 := by rw [Nat.shiftRight_eq_div_pow]; have := Nat.div_le_self b (2 ^ i); omega
    have hx : p ^^^ (a <<< i) < 32768 := by
      rw [Nat.shiftLeft_eq]; exact Nat.xor_lt_two_pow (n := 15) hp h2
    rw [show d + 1 + 1 + m = (d + 1 + m) + 1 from by omega]
    simp only [quicksetref_mulOf.l0, Gf.refP]
    rw [if_pos (by omega), if_pos (by omega), shr_nat (by omega), band1 hs, shl_nat (by omega) (by omega), wrap_id (by omega) (by omega), show ((i : Int) + 1) = ((i + 1 : Nat) : Int) from by omega]
    rcases Gf.bit_cases (b >>> i) with hb' | hb'
    · rw [if_neg (by rw [hb']; decide), hb', Nat.mul_zero, Nat.xor_zero]
      exact ih m a b p (i + 1) (by omega) ha hb hp
    · rw [if_pos (by rw [hb']; rfl), hb', Nat.mul_one, bxor (by omega) (by rw [Nat.shiftLeft_eq]; omega)]
      exact ih m a b _ (i + 1) (by omega) ha hb hx
theorem mulof_second : ∀ (d m p i : Nat), i = d + 7 → d ≤ 7 → p < 32768 → quicksetref_mulOf.l1 (d + 1 + m) (p : Int) (i : Int) = some ((Gf.refR d p i : Nat) : Int) := by
  intro d
  induction d with
  | zero =>
    intro m p i hi _ hp
    rw [show 0 + 1 + m = m + 1 from by omega]
    simp only [quicksetref_mulOf.l1]
    rw [if_neg (by omega)]
    rfl
  | succ d ih =>
    intro m p i hi hd hp
    have h2 : 285 * 2 ^ (i - 8) < 32768 := by
      have : 2 ^ (i - 8) ≤ 2 ^ 6 := Nat.pow_le_pow_right (by decide) (by omega)
      omega
    have hs : p >>> i < 65536 := by rw [Nat.shiftRight_eq_div_pow]; have := Nat.div_le_self p (2 ^ i); omega
    have hx : p ^^^ (285 <<< (i - 8)) < 32768 := by
      rw [Nat.shiftLeft_eq]; exact Nat.xor_lt_two_pow (n := 15) hp h2
    rw [show d + 1 + 1 + m = (d + 1 + m) + 1 from by omega]
    simp only [quicksetref_mulOf.l1, Gf.refR]
    rw [if_pos (by omega), if_pos (by omega), shr_nat (by omega), band1 hs, wrap_id (n := (i : Int) - 8) (by omega) (by omega), wrap_id (n := (i : Int) - 1) (by omega) (by omega), show ((i : Int) - 8) = ((i - 8 : Nat) : Int) from by omega, show ((i : Int) - 1) = ((i - 1 : Nat) : Int) from by omega,
      show (285 : Int) = ((285 : Nat) : Int) from rfl, shl_nat (by omega) (by omega)]
    rcases Gf.bit_cases (p >>> i) with hb' | hb'
    · rw [if_neg (by rw [hb']; decide), hb', Nat.mul_zero, Nat.xor_zero]
      exact ih m p (i - 1) (by omega) (by omega) hp
    · rw [if_pos (by rw [hb']; rfl), if_pos (by omega), hb', Nat.mul_one, bxor (by omega) (by rw [Nat.shiftLeft_eq]; omega)]
      exact ih m _ (i - 1) (by omega) (by omega) hx
theorem mulof_is {k a b : Nat} (ha : a < 256) (hb : b < 256) (hk : 17 ≤ k) : quicksetref_mulOf.f k (a : Int) (b : Int) = some ((Gf.mul a b : Nat) : Int) := by
  obtain ⟨m, rfl⟩ : ∃ m, k = 8 + 1 + (7 + 1 + m) := ⟨k - 17, by omega⟩
  obtain ⟨h1, h2⟩ := mulof_first 8 (7 + 1 + m) a b 0 0 rfl ha hb (by decide)
  rw [Gf.mul_ref ha hb]
  unfold quicksetref_mulOf.f
  exact h1.trans (mulof_second 7 m _ 14 rfl (Nat.le_refl _) h2)

/-! Lists that are read at whole numbers -/
theorem rd_cons (l : List Int) (i : Nat) (h : i < l.length) : l.drop i = rd l (i : Int) :: l.drop (i + 1) := by
  rw [List.drop_eq_getElem_cons h]
  congr 1
  show _ = l.getD ((i : Nat) : Int).toNat 0
  rw [Int.toNat_natCast, List.getD_eq_getElem?_getD, List.getElem?_eq_getElem h]
  rfl
theorem L1_cons (l : List (List Int)) (i : Nat) (h : i < l.length) : l.drop i = rd_L1 l (i : Int) :: l.drop (i + 1) := by
  rw [List.drop_eq_getElem_cons h]
  congr 1
  show _ = l.getD ((i : Nat) : Int).toNat []
  rw [Int.toNat_natCast, List.getD_eq_getElem?_getD, List.getElem?_eq_getElem h]
  rfl
theorem wrap_suc (i : Nat) (h : i < 9000000000000000000) : wrap64 ((i : Int) + 1) = ((i + 1 : Nat) : Int) := by rw [wrap_id (by omega) (by omega)]; omega
theorem L1_mem {l : List (List Int)} (i : Nat) (h : i < l.length) : rd_L1 l (i : Int) ∈ l := by
  have := L1_cons l i h
  have h2 : rd_L1 l (i : Int) ∈ l.drop i := by rw [this]; exact List.mem_cons_self
  exact List.mem_of_mem_drop h2

def elB (a : Int) : Bool := decide (0 ≤ a) && decide (a < 256)
def rowB (n : Nat) (r : List Int) : Bool := decide (r.length = n) && decide (1 ≤ r.length) && decide (r.length ≤ 8) && r.all elB
def mayB (m : List (List Int)) : Bool := decide (1 ≤ m.length) && decide (m.length ≤ 8) && m.all (rowB (rd_L1 m 0).length)
theorem all_loop (l : List Int) (hl : l.length < 1000000000000000) : ∀ d i, i + d = l.length → ∃ k, mat_all.l0 k l (l.length : Int) (i : Int) = some ((l.drop i).all elB)
  | 0, i, hi => ⟨1, by simp only [mat_all.l0]; rw [if_neg (by omega), List.drop_eq_nil_of_le (by omega)]; rfl⟩
  | d + 1, i, hi => by
    obtain ⟨k, hk⟩ := all_loop l hl d (i + 1) (by omega)
    refine ⟨k + 1, ?_⟩
    simp only [mat_all.l0]
    rw [if_pos (by omega), if_pos (by omega), if_pos (by omega), wrap_suc i (by omega), hk, rd_cons l i (by omega), List.all_cons]
    by_cases h0 : rd l i < 0
    · rw [if_pos h0]; simp [elB, show ¬ 0 ≤ rd l i from by omega]
    · rw [if_neg h0]
      by_cases h1 : rd l i ≥ 256
      · rw [if_pos h1]; simp [elB, show ¬ rd l i < 256 from by omega]
      · rw [if_neg h1]; simp [elB, show 0 ≤ rd l i from by omega, show rd l i < 256 from by omega]
theorem all_is (l : List Int) (hl : l.length < 1000000000000000) : ∃ k, mat_all.f k l = some (l.all elB) := by
  have := all_loop l hl l.length 0 (by omega)
  simpa [mat_all.f] using this
theorem may_loop (m : List (List Int)) (hl : m.length ≤ 8) (hr : ∀ r ∈ m, r.length < 1000000000000000) : ∀ d i, i + d = m.length → ∃ k, mat_May.l0 k m m (m.length : Int) (i : Int) = some ((m.drop i).all (rowB (rd_L1 m 0).length))
  | 0, i, hi => ⟨1, by simp only [mat_May.l0]; rw [if_neg (by omega), List.drop_eq_nil_of_le (by omega)]; rfl⟩
  | d + 1, i, hi => by
    obtain ⟨k, hk, ha⟩ := together (fun k => mat_May.mono_l k |>.2 _ _ _ _) (fun k => mat_all.mono _ k) (may_loop m hl hr d (i + 1) (by omega)) (all_is (rd_L1 m i) (hr _ (L1_mem i (by omega))))
    refine ⟨k + 1, ?_⟩
    simp only [mat_May.l0]
    rw [if_pos (by omega), if_pos (by omega), if_pos (by omega), if_pos (by omega), wrap_suc i (by omega), hk, ha, bsome, L1_cons m i (by omega), List.all_cons]
    by_cases h0 : ((rd_L1 m i).length : Int) = ((rd_L1 m 0).length : Int)
    · rw [if_pos h0]
      by_cases h1 : ((rd_L1 m i).length : Int) < 1
      · rw [if_pos h1]; simp [rowB, show ¬ 1 ≤ (rd_L1 m i).length from by omega]
      · rw [if_neg h1]
        by_cases h2 : ((rd_L1 m i).length : Int) > 8
        · rw [if_pos h2]; simp [rowB, show ¬ (rd_L1 m i).length ≤ 8 from by omega]
        · rw [if_neg h2]
          have e : rowB (rd_L1 m 0).length (rd_L1 m i) = (rd_L1 m i).all elB := by
            simp only [rowB, decide_eq_true (show (rd_L1 m i).length = (rd_L1 m 0).length from by omega), decide_eq_true (show 1 ≤ (rd_L1 m i).length from by omega), decide_eq_true (show (rd_L1 m i).length ≤ 8 from by omega), Bool.true_and]
          rw [e]
          cases (rd_L1 m i).all elB <;> simp
    · rw [if_neg h0]; simp [rowB, show ¬ (rd_L1 m i).length = (rd_L1 m 0).length from by omega]
theorem may_is (m : List (List Int)) (hr : ∀ r ∈ m, r.length < 1000000000000000) : ∃ k, mat_May.f k m = some (mayB m) := by
  by_cases h0 : (m.length : Int) < 1
  · refine ⟨1, ?_⟩
    simp only [mat_May.f, mat_May.j0]
    rw [if_pos h0, if_pos trivial]; simp [mayB, show ¬ 1 ≤ m.length from by omega]
  · by_cases h1 : (m.length : Int) > 8
    · refine ⟨1, ?_⟩
      simp only [mat_May.f, mat_May.j0]
      rw [if_neg h0, if_pos (by simpa using h1)]; simp [mayB, show ¬ m.length ≤ 8 from by omega]
    · obtain ⟨k, hk⟩ := may_loop m (by omega) hr m.length 0 (by omega)
      refine ⟨k + 1, ?_⟩
      simp only [mat_May.f, mat_May.j0]
      rw [if_neg h0, if_neg (by simpa using h1), show (0 : Int) = ((0 : Nat) : Int) from rfl, hk]
      simp [mayB, show 1 ≤ m.length from by omega, show m.length ≤ 8 from by omega]

theorem element_is (a : Int) : quicksetref_Element.f a = some (elB a) := by
  unfold quicksetref_Element.f elB
  by_cases h : a ≥ 0
  · rw [if_pos h, decide_eq_true (show 0 ≤ a from h), Bool.true_and]
    congr 1
    rw [decide_eq_decide]; omega
  · rw [if_neg h, decide_eq_false (show ¬ 0 ≤ a from h), Bool.false_and]
def refRows (n : Nat) (l : List (List Int)) : Bool := l.all fun r => decide (r.length = n) && r.all elB
theorem refmay_row (m : List (List Int)) (i : Nat) (r : List Int) (hl : r.length < 1000000000000000) (q : Bool) (hq : ∃ k, quicksetref_MatMay.l0 k m m (m.length : Int) (wrap64 ((i : Int) + 1)) = some q) :
    ∀ d j, j + d = r.length → ∃ k, quicksetref_MatMay.l1 k m m (m.length : Int) (i : Int) r (r.length : Int) (j : Int) = some ((r.drop j).all elB && q)
  | 0, j, hj => by
    obtain ⟨k, hk⟩ := hq
    refine ⟨k + 1, ?_⟩
    simp only [quicksetref_MatMay.l1]
    rw [if_neg (by omega), List.drop_eq_nil_of_le (by omega), hk]; rfl
  | d + 1, j, hj => by
    obtain ⟨k, hk⟩ := refmay_row m i r hl q hq d (j + 1) (by omega)
    refine ⟨k + 1, ?_⟩
    simp only [quicksetref_MatMay.l1]
    rw [if_pos (by omega), if_pos (by omega), if_pos (by omega), element_is, bsome, wrap_suc j (by omega), hk, rd_cons r j (by omega), List.all_cons]
    cases elB (rd r j) <;> simp
theorem refmay_loop (m : List (List Int)) (hl : m.length ≤ 8) (hr : ∀ r ∈ m, r.length < 1000000000000000) : ∀ d i, i + d = m.length → ∃ k, quicksetref_MatMay.l0 k m m (m.length : Int) (i : Int) = some (refRows (rd_L1 m 0).length (m.drop i))
  | 0, i, hi => ⟨1, by simp only [quicksetref_MatMay.l0]; rw [if_neg (by omega), List.drop_eq_nil_of_le (by omega)]; rfl⟩
  | d + 1, i, hi => by
    have hn := refmay_loop m hl hr d (i + 1) (by omega)
    rw [← wrap_suc i (by omega)] at hn
    obtain ⟨k, hk⟩ := refmay_row m i (rd_L1 m i) (hr _ (L1_mem i (by omega))) _ hn (rd_L1 m i).length 0 (by omega)
    refine ⟨k + 1, ?_⟩
    simp only [quicksetref_MatMay.l0]
    rw [if_pos (by omega), if_pos (by omega), if_pos (by omega), if_pos (by omega), L1_cons m i (by omega)]
    simp only [refRows, List.all_cons] at hk ⊢
    by_cases h0 : ((rd_L1 m i).length : Int) = ((rd_L1 m 0).length : Int)
    · rw [if_pos h0, decide_eq_true (show (rd_L1 m i).length = (rd_L1 m 0).length from by omega), Bool.true_and, show (0 : Int) = ((0 : Nat) : Int) from rfl, hk]
      simp
    · rw [if_neg h0, decide_eq_false (show ¬ (rd_L1 m i).length = (rd_L1 m 0).length from by omega)]
      simp
theorem refRows_is (m : List (List Int)) (hl : 1 ≤ m.length) : (decide ((rd_L1 m 0).length ≠ 0) && decide ((rd_L1 m 0).length ≤ 8) && refRows (rd_L1 m 0).length m) = m.all (rowB (rd_L1 m 0).length) := by
  rw [Bool.eq_iff_iff]
  simp only [refRows, rowB, Bool.and_eq_true, decide_eq_true_eq, List.all_eq_true]
  constructor
  · rintro ⟨⟨h1, h2⟩, h3⟩ r hr
    have := h3 r hr
    exact ⟨⟨⟨this.1, by omega⟩, by omega⟩, this.2⟩
  · intro h
    have h0 := h (rd_L1 m 0) (L1_mem 0 (by omega))
    exact ⟨⟨by omega, by omega⟩, fun r hr => ⟨(h r hr).1.1.1, (h r hr).2⟩⟩
theorem refmay_is (m : List (List Int)) (hr : ∀ r ∈ m, r.length < 1000000000000000) : ∃ k, quicksetref_MatMay.f k m = some (mayB m) := by
  by_cases h0 : (m.length : Int) = 0
  · refine ⟨1, ?_⟩
    simp only [quicksetref_MatMay.f, quicksetref_MatMay.j0]
    rw [if_pos h0, if_pos trivial]; simp [mayB, show ¬ 1 ≤ m.length from by omega]
  · by_cases h1 : (m.length : Int) > 8
    · refine ⟨1, ?_⟩
      simp only [quicksetref_MatMay.f, quicksetref_MatMay.j0]
      rw [if_neg h0, if_pos h1, if_pos trivial]; simp [mayB, show ¬ m.length ≤ 8 from by omega]
    · have e := refRows_is m (by omega)
      have eb : mayB m = (decide ((rd_L1 m 0).length ≠ 0) && decide ((rd_L1 m 0).length ≤ 8) && refRows (rd_L1 m 0).length m) := by
        rw [e]; simp [mayB, show 1 ≤ m.length from by omega, show m.length ≤ 8 from by omega]
      rw [eb]
      by_cases h2 : ((rd_L1 m 0).length : Int) = 0
      · refine ⟨1, ?_⟩
        simp only [quicksetref_MatMay.f, quicksetref_MatMay.j0]
        rw [if_neg h0, if_neg h1, if_pos (by omega), if_pos h2, if_pos trivial]; simp [show (rd_L1 m 0).length = 0 from by omega]
      · by_cases h3 : ((rd_L1 m 0).length : Int) > 8
        · refine ⟨1, ?_⟩
          simp only [quicksetref_MatMay.f, quicksetref_MatMay.j0]
          rw [if_neg h0, if_neg h1, if_pos (by omega), if_neg h2, if_pos (by simpa using h3)]; simp [show ¬ (rd_L1 m 0).length ≤ 8 from by omega]
        · obtain ⟨k, hk⟩ := refmay_loop m (by omega) hr m.length 0 (by omega)
          refine ⟨k + 1, ?_⟩
          simp only [quicksetref_MatMay.f, quicksetref_MatMay.j0]
          rw [if_neg h0, if_neg h1, if_pos (by omega), if_neg h2, if_neg (by simpa using h3), show (0 : Int) = ((0 : Nat) : Int) from rfl, hk]
          have n0 : (rd_L1 m 0).length ≠ 0 := by omega
          have n8 : (rd_L1 m 0).length ≤ 8 := by omega
          simp [n0, n8]

/-! Sums of products of elements -/
theorem elB_nat {a : Int} (h : elB a = true) : a = ((a.toNat : Nat) : Int) ∧ a.toNat < 256 := by
  simp only [elB, Bool.and_eq_true, decide_eq_true_eq] at h
  omega
theorem elB_cast {a : Nat} (h : a < 256) : elB (a : Int) = true := by
  simp only [elB, Bool.and_eq_true, decide_eq_true_eq]
  omega
theorem rd_get (r : List Int) (i : Nat) (h : i < r.length) : rd r (i : Int) = r[i] := by
  show r.getD ((i : Nat) : Int).toNat 0 = _
  rw [Int.toNat_natCast, List.getD_eq_getElem?_getD, List.getElem?_eq_getElem h]
  rfl
theorem all_rd {r : List Int} (h : r.all elB = true) {i : Nat} (hi : i < r.length) : elB (rd r (i : Int)) = true := by
  rw [rd_get r i hi]
  exact List.all_eq_true.1 h _ (List.getElem_mem hi)
def ev (r : List Int) (i : Nat) : Nat := (rd r (i : Int)).toNat
theorem ev_is {r : List Int} (h : r.all elB = true) {i : Nat} (hi : i < r.length) : rd r (i : Int) = (ev r i : Int) ∧ ev r i < 256 := elB_nat (all_rd h hi)
theorem wf_small {a : Nat} (h : a < 65536) : (Lit.int .i64 (a : Int)).wf = true := by
  simp only [Lit.wf, IntKind.min, IntKind.max, IntKind.signed, IntKind.bits, Bool.and_eq_true, decide_eq_true_eq, if_true]
  omega
theorem gfmul_is {k a b : Nat} (ha : a < 256) (hb : b < 256) (hk : 12 ≤ k) : gf_Mul.f k (a : Int) (b : Int) = some (((Gf.mul a b : Nat) : Int), 0) := by
  obtain ⟨j, rfl⟩ : ∃ j, k = j + 3 := ⟨k - 3, by omega⟩
  unfold gf_Mul.f
  rw [bad_two j _ _ (wf_small (by omega)) (wf_small (by omega)), bsome, isEl_true (by omega), isEl_true (by omega), times_is ha hb (by omega), bsome]
  rfl
theorem mtimes_is {k a b : Nat} (ha : a < 256) (hb : b < 256) (hk : 12 ≤ k) : mat_times.f k (a : Int) (b : Int) = some ((Gf.mul a b : Nat) : Int) := by
  unfold mat_times.f
  rw [gfmul_is ha hb hk, bsome]
def dotN (a b : Nat → Nat) : Nat → Nat
  | 0 => 0
  | n + 1 => dotN a b n ^^^ Gf.mul (a n) (b n)
theorem dotN_lt {a b : Nat → Nat} : ∀ {n : Nat}, (∀ i, i < n → a i < 256) → dotN a b n < 256
  | 0, _ => by simp [dotN]
  | n + 1, h => Gf.xor_lt (dotN_lt fun i hi => h i (by omega)) (Gf.mul_lt (h n (by omega)) _)
theorem may_rows {m : List (List Int)} (h : mayB m = true) : 1 ≤ m.length ∧ m.length ≤ 8 ∧ 1 ≤ (rd_L1 m 0).length ∧ (rd_L1 m 0).length ≤ 8 ∧ ∀ i, i < m.length → (rd_L1 m (i : Int)).length = (rd_L1 m 0).length ∧ (rd_L1 m (i : Int)).all elB = true := by
  simp only [mayB, Bool.and_eq_true, decide_eq_true_eq] at h
  have hr : ∀ i, i < m.length → rowB (rd_L1 m 0).length (rd_L1 m (i : Int)) = true := fun i hi => List.all_eq_true.1 h.2 _ (L1_mem i hi)
  have h0 := hr 0 (by omega)
  simp only [rowB, Bool.and_eq_true, decide_eq_true_eq] at h0 hr
  exact ⟨h.1.1, h.1.2, h0.1.1.2, h0.1.2, fun i hi => ⟨(hr i hi).1.1.1, (hr i hi).2⟩⟩

theorem same_loop (a : List Int) (hl : a.length < 1000000000000000) : ∀ d i, i + d = a.length → ∃ k, quicksetlaw_sameInts.l0 k a a (i : Int) = some true
  | 0, i, hi => ⟨1, by simp only [quicksetlaw_sameInts.l0]; rw [if_neg (by omega)]⟩
  | d + 1, i, hi => by
    obtain ⟨k, hk⟩ := same_loop a hl d (i + 1) (by omega)
    refine ⟨k + 1, ?_⟩
    simp only [quicksetlaw_sameInts.l0]
    rw [if_pos (by omega), if_pos (by omega), if_pos (by omega), if_pos trivial, wrap_suc i (by omega), hk]
theorem same_ints (a : List Int) (hl : a.length < 1000000000000000) : ∃ k, quicksetlaw_sameInts.f k a a = some true := by
  obtain ⟨k, hk⟩ := same_loop a hl a.length 0 (by omega)
  refine ⟨k, ?_⟩
  unfold quicksetlaw_sameInts.f
  rw [if_pos rfl]
  exact hk

theorem same_mloop (a : List (List Int)) (hl : a.length < 1000000000000000) (hr : ∀ r ∈ a, r.length < 1000000000000000) : ∀ d i, i + d = a.length → ∃ k, quicksetlaw_sameMatrix.l0 k a a (i : Int) = some true
  | 0, i, hi => ⟨1, by rw [quicksetlaw_sameMatrix.l0, if_neg (by omega)]⟩
  | d + 1, i, hi => by
    obtain ⟨k, hk, hs⟩ := together (fun k => quicksetlaw_sameMatrix.mono_l k _ _ _) (fun k => quicksetlaw_sameInts.mono _ _ k) (same_mloop a hl hr d (i + 1) (by omega)) (same_ints (rd_L1 a (i : Int)) (hr _ (L1_mem i (by omega))))
    refine ⟨k + 1, ?_⟩
    rw [quicksetlaw_sameMatrix.l0, if_pos (by omega), if_pos (by omega), if_pos (by omega), hs, bsome, if_pos rfl, wrap_suc i (by omega), hk]
theorem same_matrix (a : List (List Int)) (hl : a.length < 1000000000000000) (hr : ∀ r ∈ a, r.length < 1000000000000000) : ∃ k, quicksetlaw_sameMatrix.f k a a = some true := by
  obtain ⟨k, hk⟩ := same_mloop a hl hr a.length 0 (by omega)
  refine ⟨k, ?_⟩
  unfold quicksetlaw_sameMatrix.f
  rw [if_pos rfl]
  exact hk

def col (b : List (List Int)) (c : Nat) (j : Nat) : Nat := ev (rd_L1 b (j : Int)) c
def rowN (r : List Int) (b : List (List Int)) : List Int := (List.range (rd_L1 b 0).length).map fun (c : Nat) => ((dotN (ev r) (col b c) b.length : Nat) : Int)
def mulB (a b : List (List Int)) : List (List Int) × Int :=
  if mayB a = true then (if mayB b = true then (if (rd_L1 a 0).length = b.length then ((List.range a.length).map fun (i : Nat) => rowN (rd_L1 a (i : Int)) b, 0) else ([], 1)) else ([], 4)) else ([], 4)
theorem mdotO_is {k : Nat} (hk : 12 ≤ k) (p : Nat → Int × Int) (a b : Nat → Nat) : ∀ n, (∀ i, i < n → p i = ((a i : Int), (b i : Int)) ∧ a i < 256 ∧ b i < 256) → mat_Mul.dotO k p n = some ((dotN a b n : Nat) : Int)
  | 0, _ => rfl
  | n + 1, h => by
    obtain ⟨h1, h2, h3⟩ := h n (by omega)
    unfold mat_Mul.dotO
    rw [mdotO_is hk p a b n (fun i hi => h i (by omega)), bsome, h1, mtimes_is h2 h3 hk, bsome, bxor (by have := dotN_lt (a := a) (b := b) (n := n) (fun i hi => (h i (by omega)).2.1); omega) (by have := Gf.mul_lt h2 (b n); omega)]
    rfl
theorem mrowO_is {k : Nat} (hk : 12 ≤ k) (r : List Int) (b : List (List Int)) (hr : r.all elB = true) (hl : r.length = b.length) (hb : ∀ i, i < b.length → (rd_L1 b (i : Int)).length = (rd_L1 b 0).length ∧ (rd_L1 b (i : Int)).all elB = true) :
    ∀ c, c ≤ (rd_L1 b 0).length → mat_Mul.rowO k r b c = some ((List.range c).map fun (c : Nat) => ((dotN (ev r) (col b c) b.length : Nat) : Int))
  | 0, _ => rfl
  | c + 1, hc => by
    unfold mat_Mul.rowO
    rw [mrowO_is hk r b hr hl hb c (by omega), bsome, mdotO_is hk _ (ev r) (col b c) b.length (fun i hi => ?_), bsome]
    · rw [List.range_succ, List.map_append]
      rfl
    · have e1 := ev_is hr (i := i) (by omega)
      have e2 := ev_is (hb i hi).2 (i := c) (by rw [(hb i hi).1]; omega)
      refine ⟨?_, e1.2, e2.2⟩
      show (_, _) = _
      rw [e1.1, e2.1]
      rfl
theorem mrowsO_is {k : Nat} (hk : 12 ≤ k) (a b : List (List Int)) (ha : ∀ i, i < a.length → (rd_L1 a (i : Int)).length = b.length ∧ (rd_L1 a (i : Int)).all elB = true) (hb : ∀ i, i < b.length → (rd_L1 b (i : Int)).length = (rd_L1 b 0).length ∧ (rd_L1 b (i : Int)).all elB = true) :
    ∀ n, n ≤ a.length → mat_Mul.rowsO k a b n = some ((List.range n).map fun (i : Nat) => rowN (rd_L1 a (i : Int)) b)
  | 0, _ => rfl
  | n + 1, hn => by
    unfold mat_Mul.rowsO
    rw [mrowsO_is hk a b ha hb n (by omega), bsome, if_pos (ha n (by omega)).1, mrowO_is hk _ b (ha n (by omega)).2 (ha n (by omega)).1 hb _ (Nat.le_refl _), bsome, List.range_succ, List.map_append]
    rfl
theorem mul_is (a b : List (List Int)) (ha : ∀ r ∈ a, r.length < 1000000000000000) (hb : ∀ r ∈ b, r.length < 1000000000000000) : ∃ k, mat_Mul.f k a b = some (mulB a b) := by
  obtain ⟨k0, h1, h2⟩ := together (fun k => mat_May.mono a k) (fun k => mat_May.mono b k) (may_is a ha) (may_is b hb)
  have h1 := at_rounds (fun k => mat_May.mono a k) (show k0 ≤ k0 + 12 by omega) h1
  have h2 := at_rounds (fun k => mat_May.mono b k) (show k0 ≤ k0 + 12 by omega) h2
  refine ⟨k0 + 12, ?_⟩
  unfold mat_Mul.f mulB
  rw [h1, bsome]
  by_cases c1 : mayB a = true
  · rw [if_pos c1, if_pos c1, h2, bsome]
    by_cases c2 : mayB b = true
    · obtain ⟨g1, g2, g3, g4, g5⟩ := may_rows c1
      obtain ⟨j1, j2, j3, j4, j5⟩ := may_rows c2
      rw [if_pos c2, if_pos c2, if_pos (by omega)]
      by_cases c3 : (rd_L1 a 0).length = b.length
      · have hok : mat_Mul.okB a b = true := by
          simp only [mat_Mul.okB, Bool.and_eq_true, decide_eq_true_eq, List.all_eq_true]
          refine ⟨⟨⟨⟨⟨by omega, by omega⟩, by omega⟩, by omega⟩, by omega⟩, fun r hr => ?_⟩
          obtain ⟨i, hi, rfl⟩ := List.mem_iff_getElem.1 hr
          have := (j5 i hi).1
          rw [show rd_L1 b (i : Int) = b[i] from by
            show b.getD ((i : Nat) : Int).toNat [] = _
            rw [Int.toNat_natCast, List.getD_eq_getElem?_getD, List.getElem?_eq_getElem hi]
            rfl] at this
          exact this
        rw [if_pos c3, if_pos c3, if_pos hok, mrowsO_is (by omega) a b (fun i hi => ⟨by rw [(g5 i hi).1, c3], (g5 i hi).2⟩) j5 _ (Nat.le_refl _), bsome]
      · rw [if_neg c3, if_neg c3]
    · rw [if_neg c2, if_neg c2]
  · rw [if_neg c1, if_neg c1]

def Zr (r : List Int) (b : List (List Int)) (q c : Nat) : List Int := (List.range (rd_L1 b 0).length).map fun (x : Nat) => ((dotN (ev r) (col b x) (if x < c then q + 1 else q) : Nat) : Int)
theorem Zr_len (r : List Int) (b : List (List Int)) (q c : Nat) : (Zr r b q c).length = (rd_L1 b 0).length := by simp [Zr]
theorem Zr_get (r : List Int) (b : List (List Int)) (q c : Nat) (h : c < (rd_L1 b 0).length) : rd (Zr r b q c) (c : Int) = ((dotN (ev r) (col b c) q : Nat) : Int) := by
  rw [rd_get _ _ (by rw [Zr_len]; exact h)]
  simp [Zr]
theorem Zr_set (r : List Int) (b : List (List Int)) (q c : Nat) (h : c < (rd_L1 b 0).length) : (Zr r b q c).set c ((dotN (ev r) (col b c) (q + 1) : Nat) : Int) = Zr r b q (c + 1) := by
  refine List.ext_getElem (by simp [Zr]) (fun i h1 h2 => ?_)
  rw [List.getElem_set]
  simp only [Zr, List.getElem_map, List.getElem_range]
  by_cases e : c = i
  · subst e; simp
  · rw [if_neg e]
    by_cases e2 : i < c
    · rw [if_pos e2, if_pos (by omega)]
    · rw [if_neg e2, if_neg (by omega)]
theorem Zr_next (r : List Int) (b : List (List Int)) (q : Nat) : Zr r b q (rd_L1 b 0).length = Zr r b (q + 1) 0 := by
  refine List.ext_getElem (by simp [Zr]) (fun i h1 h2 => ?_)
  simp only [Zr, List.getElem_map, List.getElem_range]
  rw [if_pos (by simpa [Zr] using h1), if_neg (by omega)]
theorem Zr_zero (r : List Int) (b : List (List Int)) : Zr r b 0 0 = List.replicate (rd_L1 b 0).length 0 := by
  refine List.ext_getElem (by simp [Zr]) (fun i h1 h2 => ?_)
  simp [Zr, dotN]
theorem Zr_full (r : List Int) (b : List (List Int)) : Zr r b b.length 0 = rowN r b := by
  simp [Zr, rowN]
def fillM (a b : List (List Int)) (i : Nat) : List (List Int) := ((List.range i).map fun (j : Nat) => rowN (rd_L1 a (j : Int)) b) ++ List.replicate (a.length - i) []
theorem fillM_len (a b : List (List Int)) (i : Nat) (h : i ≤ a.length) : (fillM a b i).length = a.length := by
  simp [fillM]; omega
theorem fillM_next (a b : List (List Int)) (i : Nat) (h : i < a.length) : (fillM a b i).set i (rowN (rd_L1 a (i : Int)) b) = fillM a b (i + 1) := by
  unfold fillM
  rw [List.set_append_right (h := by simp)]
  simp only [List.length_map, List.length_range, Nat.sub_self, List.range_succ, List.map_append, List.append_assoc, List.map_cons, List.map_nil, List.cons_append, List.nil_append]
  congr 1
  obtain ⟨d, hd⟩ : ∃ d, a.length - i = d + 1 := ⟨a.length - i - 1, by omega⟩
  rw [hd, show a.length - (i + 1) = d from by omega, List.replicate_succ, List.set_cons_zero]
theorem L1_set_same (x : List (List Int)) (i : Nat) (a : List Int) (h : i < x.length) : rd_L1 (x.set i a) (i : Int) = a := by
  show (x.set i a).getD ((i : Nat) : Int).toNat [] = _
  rw [Int.toNat_natCast, List.getD_eq_getElem?_getD, List.getElem?_eq_getElem (by simpa using h), List.getElem_set_self]
  rfl
section
variable (a b Y : List (List Int)) (i : Nat) (hi : i < a.length) (hY : Y.length = a.length) (hb8 : b.length ≤ 8) (hc8 : (rd_L1 b 0).length ≤ 8)
  (ha : (rd_L1 a (i : Int)).length = b.length ∧ (rd_L1 a (i : Int)).all elB = true) (hb : ∀ i, i < b.length → (rd_L1 b (i : Int)).length = (rd_L1 b 0).length ∧ (rd_L1 b (i : Int)).all elB = true) (R : List (List Int) × Int)
include hi hY hb8 hc8 ha hb
theorem refmul_in (q : Nat) (hq : q < b.length) (hn : ∃ k, quicksetref_MatMul.l1 k a b (Y.set i (Zr (rd_L1 a (i : Int)) b (q + 1) 0)) (i : Int) (a.length : Int) (i : Int) (b.length : Int) ((q + 1 : Nat) : Int) = some R) :
    ∀ d c, c + d = (rd_L1 b 0).length → ∃ k, quicksetref_MatMul.l2 k a b (Y.set i (Zr (rd_L1 a (i : Int)) b q c)) (i : Int) (q : Int) (a.length : Int) (i : Int) (b.length : Int) (q : Int) ((rd_L1 b 0).length : Int) (c : Int) = some R
  | 0, c, hc => by
    obtain ⟨k, hk⟩ := hn
    refine ⟨k + 1, ?_⟩
    rw [quicksetref_MatMul.l2, if_neg (by omega), wrap_suc q (by omega), show c = (rd_L1 b 0).length from by omega, Zr_next]
    exact hk
  | d + 1, c, hc => by
    obtain ⟨k0, hk⟩ := refmul_in q hq hn d (c + 1) (by omega)
    have hk := at_rounds (fun k => (quicksetref_MatMul.mono_l k).2.2.2 _ _ _ _ _ _ _ _ _ _ _) (show k0 ≤ k0 + 20 by omega) hk
    refine ⟨k0 + 20 + 1, ?_⟩
    have e1 := ev_is ha.2 (i := q) (by omega)
    have e2 := ev_is (hb q hq).2 (i := c) (by rw [(hb q hq).1]; omega)
    rw [quicksetref_MatMul.l2, if_pos (by omega), if_pos (by omega), if_pos (by rw [List.length_set]; omega), if_pos (by omega), L1_set_same _ _ _ (by omega), if_pos (by rw [Zr_len]; omega), if_pos (by omega), if_pos (by omega), if_pos (by omega), if_pos (by omega), if_pos (by rw [(hb q hq).1]; omega),
      e1.1, e2.1, mulof_is e1.2 e2.2 (by omega), bsome, wrap_suc c (by omega), Zr_get _ _ _ _ (by omega), bxor (by have := dotN_lt (a := ev (rd_L1 a (i : Int))) (b := col b c) (n := q) (fun x hx => (ev_is ha.2 (by omega)).2); omega) (by have := Gf.mul_lt e1.2 (ev (rd_L1 b (q : Int)) c); omega),
      Int.toNat_natCast, Int.toNat_natCast, List.set_set]
    have e3 := Zr_set (rd_L1 a (i : Int)) b q c (by omega)
    rw [show dotN (ev (rd_L1 a (i : Int))) (col b c) (q + 1) = dotN (ev (rd_L1 a (i : Int))) (col b c) q ^^^ Gf.mul (ev (rd_L1 a (i : Int)) q) (ev (rd_L1 b (q : Int)) c) from rfl] at e3
    rw [e3]
    exact hk
theorem refmul_row (h8 : a.length ≤ 8) (hn : ∃ k, quicksetref_MatMul.l0 k a b (Y.set i (rowN (rd_L1 a (i : Int)) b)) (a.length : Int) ((i + 1 : Nat) : Int) = some R) :
    ∀ d q, q + d = b.length → ∃ k, quicksetref_MatMul.l1 k a b (Y.set i (Zr (rd_L1 a (i : Int)) b q 0)) (i : Int) (a.length : Int) (i : Int) (b.length : Int) (q : Int) = some R
  | 0, q, hq => by
    obtain ⟨k, hk⟩ := hn
    refine ⟨k + 1, ?_⟩
    rw [quicksetref_MatMul.l1, if_neg (by omega), wrap_suc i (by omega), show q = b.length from by omega, Zr_full]
    exact hk
  | d + 1, q, hq => by
    obtain ⟨k, hk⟩ := refmul_in a b Y i hi hY hb8 hc8 ha hb R q (by omega) (refmul_row h8 hn d (q + 1) (by omega)) (rd_L1 b 0).length 0 (by omega)
    refine ⟨k + 1, ?_⟩
    rw [quicksetref_MatMul.l1, if_pos (by omega), if_pos (by omega), if_pos (by omega), (hb q (by omega)).1]
    exact hk
end
theorem refmul_all (a b : List (List Int)) (h8 : a.length ≤ 8) (hb1 : 1 ≤ b.length) (hb8 : b.length ≤ 8) (hc8 : (rd_L1 b 0).length ≤ 8) (ha : ∀ i, i < a.length → (rd_L1 a (i : Int)).length = b.length ∧ (rd_L1 a (i : Int)).all elB = true) (hb : ∀ i, i < b.length → (rd_L1 b (i : Int)).length = (rd_L1 b 0).length ∧ (rd_L1 b (i : Int)).all elB = true) :
    ∀ d i, i + d = a.length → ∃ k, quicksetref_MatMul.l0 k a b (fillM a b i) (a.length : Int) (i : Int) = some (fillM a b a.length, 0)
  | 0, i, hi => ⟨1, by rw [quicksetref_MatMul.l0, if_neg (by omega), show i = a.length from by omega]⟩
  | d + 1, i, hi => by
    have hn := refmul_all a b h8 hb1 hb8 hc8 ha hb d (i + 1) (by omega)
    rw [← fillM_next a b i (by omega)] at hn
    obtain ⟨k, hk⟩ := refmul_row a b (fillM a b i) i (by omega) (fillM_len a b i (by omega)) hb8 hc8 (ha i (by omega)) hb _ h8 hn b.length 0 (by omega)
    refine ⟨k + 1, ?_⟩
    rw [quicksetref_MatMul.l0, if_pos (by omega), if_pos (by omega), if_pos (by omega), if_pos (by omega), if_pos (by omega), if_pos (by rw [fillM_len a b i (by omega)]; omega), Int.toNat_natCast, Int.toNat_natCast, ← Zr_zero (rd_L1 a (i : Int)) b]
    exact hk
theorem refmul_is (a b : List (List Int)) (ha : ∀ r ∈ a, r.length < 1000000000000000) (hb : ∀ r ∈ b, r.length < 1000000000000000) : ∃ k, quicksetref_MatMul.f k a b = some (mulB a b) := by
  by_cases c1 : mayB a = true
  · by_cases c2 : mayB b = true
    · obtain ⟨g1, g2, g3, g4, g5⟩ := may_rows c1
      obtain ⟨j1, j2, j3, j4, j5⟩ := may_rows c2
      have key : ∃ k, quicksetref_MatMul.j0 k a b false = some (mulB a b) := by
        unfold mulB
        rw [if_pos c1, if_pos c2]
        by_cases c3 : (rd_L1 a 0).length = b.length
        · rw [if_pos c3]
          obtain ⟨k, hk⟩ := refmul_all a b g2 j1 j2 j4 (fun i hi => ⟨by rw [(g5 i hi).1, c3], (g5 i hi).2⟩) j5 a.length 0 (by omega)
          refine ⟨k + 1, ?_⟩
          rw [quicksetref_MatMul.j0, if_neg (by decide), if_pos (by omega), if_pos (by omega), if_pos (by omega), if_pos (by omega), bsome]
          have e : fillM a b a.length = (List.range a.length).map fun (i : Nat) => rowN (rd_L1 a (i : Int)) b := by simp [fillM]
          rw [e] at hk
          rw [← hk]
          simp [fillM]
        · rw [if_neg c3]
          exact ⟨1, by rw [quicksetref_MatMul.j0, if_neg (by decide), if_pos (by omega), if_neg (by omega)]⟩
      obtain ⟨k1, h1, h2⟩ := together (fun k => quicksetref_MatMay.mono a k) (fun k => quicksetref_MatMay.mono b k) (refmay_is a ha) (refmay_is b hb)
      obtain ⟨k2, hk2⟩ := key
      have q1 := at_rounds (fun k => quicksetref_MatMay.mono a k) (show k1 ≤ k1 + k2 by omega) h1
      have q2 := at_rounds (fun k => quicksetref_MatMay.mono b k) (show k1 ≤ k1 + k2 by omega) h2
      have q3 := at_rounds (fun k => (quicksetref_MatMul.mono_l k).1 _ _ _) (show k2 ≤ k1 + k2 by omega) hk2
      refine ⟨k1 + k2, ?_⟩
      unfold quicksetref_MatMul.f
      rw [q1, bsome, if_pos c1, q2, bsome, c2]
      exact q3
    · obtain ⟨k1, h1, h2⟩ := together (fun k => quicksetref_MatMay.mono a k) (fun k => quicksetref_MatMay.mono b k) (refmay_is a ha) (refmay_is b hb)
      have q1 := at_rounds (fun k => quicksetref_MatMay.mono a k) (show k1 ≤ k1 + 1 by omega) h1
      have q2 := at_rounds (fun k => quicksetref_MatMay.mono b k) (show k1 ≤ k1 + 1 by omega) h2
      refine ⟨k1 + 1, ?_⟩
      unfold quicksetref_MatMul.f mulB
      rw [q1, bsome, if_pos c1, q2, bsome, if_pos c1, if_neg c2, show mayB b = false from by simpa using c2, quicksetref_MatMul.j0, if_pos (by decide)]
  · obtain ⟨k1, h1⟩ := refmay_is a ha
    have q1 := at_rounds (fun k => quicksetref_MatMay.mono a k) (show k1 ≤ k1 + 1 by omega) h1
    refine ⟨k1 + 1, ?_⟩
    unfold quicksetref_MatMul.f mulB
    rw [q1, bsome, if_neg c1, if_neg c1, quicksetref_MatMul.j0, if_pos rfl]

theorem MatMuls (l0 : List (List Int)) (h0 : l0.length * 24 ≤ 140737488351232) (h1 : ∀ x ∈ l0, (x.length * 8 ≤ 140737488351232 ∧ ∀ y ∈ x, (Lit.int .i64 y).wf = true)) (l1 : List (List Int)) (h2 : l1.length * 24 ≤ 140737488351232) (h3 : ∀ x ∈ l1, (x.length * 8 ≤ 140737488351232 ∧ ∀ y ∈ x, (Lit.int .i64 y).wf = true)) : ∃ k, quicksetlaw_MatMuls.f k l0 l1 = some true := by
  have hr : ∀ r ∈ l0, r.length < 1000000000000000 := fun r hr => by have := (h1 r hr).1; omega
  have hr2 : ∀ r ∈ l1, r.length < 1000000000000000 := fun r hr => by have := (h3 r hr).1; omega
  have hs : ∃ k, quicksetlaw_sameMatrix.f k (mulB l0 l1).1 (mulB l0 l1).1 = some true := by
    refine same_matrix _ ?_ ?_
    · unfold mulB
      repeat' split
      all_goals simp
      all_goals omega
    · unfold mulB
      split
      · split
        · rename_i c2
          split
          · intro r hr
            simp only [List.mem_map] at hr
            obtain ⟨i, _, rfl⟩ := hr
            have := (may_rows c2).2.2.2.1
            simp [rowN]; omega
          · simp
        · simp
      · simp
  obtain ⟨ka, g1, g2⟩ := together (fun k => mat_Mul.mono l0 l1 k) (fun k => quicksetref_MatMul.mono l0 l1 k) (mul_is l0 l1 hr hr2) (refmul_is l0 l1 hr hr2)
  obtain ⟨kb, g3⟩ := hs
  have q1 := at_rounds (fun k => mat_Mul.mono l0 l1 k) (show ka ≤ ka + kb by omega) g1
  have q2 := at_rounds (fun k => quicksetref_MatMul.mono l0 l1 k) (show ka ≤ ka + kb by omega) g2
  have q3 := at_rounds (fun k => quicksetlaw_sameMatrix.mono _ _ k) (show kb ≤ ka + kb by omega) g3
  refine ⟨ka + kb, ?_⟩
  unfold quicksetlaw_MatMuls.f
  rw [q1, bsome, q2, bsome, q3, bsome]
  simp

end Go.Proofs.Ytpaenlplpaabjaa.Pure
