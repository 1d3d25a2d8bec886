/- GfPows: the two answers are one, over plain numbers and lists, for every argument; no conditions. -/
import Derived.Test.YtdececbckohhgaaPGfPowsx2
import Derived.Test.YtdececbckohhgaaGfMath
set_option linter.unusedVariables false
set_option linter.unusedSimpArgs false
namespace Go.Proofs.Ytdececbckohhgaa.Pure
open Go.RowKit Go.Proofs.Ytdececbckohhgaa Go.Proofs.Ytdececbckohhgaa.PGfPows Go.Proofs.YtdececbckohhgaaW.PrintWords Go.Proofs.YtdececbckohhgaaW.PrintLast Go.Proofs.YtdececbckohhgaaW.PrintMore

/-- Laid so that simp does not take it for a change of sight alone (the kernel would then compare great terms by computing). -/
theorem bsome {α β : Type} (x : α) (f : α → Option β) : (some x).bind f = f x := by
  have h : ∀ o, o = some x → o.bind f = f x := by
    intro o ho
    subst ho
    rfl
  exact h _ rfl
/-! Numbers of Go, read as plain ones -/
theorem wf64 {a : Int} (h : (Lit.int .i64 a).wf = true) : -9223372036854775808 ≤ a ∧ a ≤ 9223372036854775807 := by
  simp only [Lit.wf, IntKind.min, IntKind.max, IntKind.signed, IntKind.bits, Bool.and_eq_true, decide_eq_true_eq, if_true] at h
  omega
theorem wrap_id {n : Int} (h0 : -9223372036854775808 ≤ n) (h1 : n ≤ 9223372036854775807) : wrap64 n = n := by unfold wrap64; omega
theorem wrap01 : wrap64 (0 + 1) = 1 := wrap_id (n := 0 + 1) (by decide) (by decide)
theorem wrap11 : wrap64 (1 + 1) = 2 := wrap_id (n := 1 + 1) (by decide) (by decide)
theorem iwrap_id {n : Int} (h0 : 0 ≤ n) (h1 : n ≤ 9223372036854775807) : IntKind.i64.wrap n = n := by rw [IntKind.wrap_i64]; omega
theorem mod64 {a : Nat} (h : a < 256) : a % 2 ^ 64 = a := Nat.mod_eq_of_lt (Nat.lt_of_lt_of_le h (by decide))
theorem mod64' {a : Nat} (h : a < 65536) : a % 2 ^ 64 = a := Nat.mod_eq_of_lt (Nat.lt_of_lt_of_le h (by decide))
theorem bxor {a b : Nat} (ha : a < 65536) (hb : b < 65536) : Go.bits .xor .i64 (a : Int) (b : Int) = ((a ^^^ b : Nat) : Int) := by
  have hx : a ^^^ b < 65536 := Nat.xor_lt_two_pow (n := 16) ha hb
  have e : (BitVec.ofInt 64 (a : Int) ^^^ BitVec.ofInt 64 (b : Int)).toNat = a ^^^ b := by
    rw [BitVec.ofInt_natCast, BitVec.ofInt_natCast, BitVec.toNat_xor, BitVec.toNat_ofNat, BitVec.toNat_ofNat, mod64' ha, mod64' hb]
  show IntKind.i64.wrap (((BitVec.ofInt 64 (a : Int) ^^^ BitVec.ofInt 64 (b : Int)).toNat : Nat) : Int) = _
  rw [e]
  exact iwrap_id (n := ((a ^^^ b : Nat) : Int)) (by omega) (by omega)
theorem band {a b : Nat} (ha : a < 65536) (hb : b < 65536) : Go.bits .and .i64 (a : Int) (b : Int) = ((a &&& b : Nat) : Int) := by
  have hx : a &&& b < 65536 := Nat.and_lt_two_pow (n := 16) _ hb
  have e : (BitVec.ofInt 64 (a : Int) &&& BitVec.ofInt 64 (b : Int)).toNat = a &&& b := by
    rw [BitVec.ofInt_natCast, BitVec.ofInt_natCast, BitVec.toNat_and, BitVec.toNat_ofNat, BitVec.toNat_ofNat, mod64' ha, mod64' hb]
  show IntKind.i64.wrap (((BitVec.ofInt 64 (a : Int) &&& BitVec.ofInt 64 (b : Int)).toNat : Nat) : Int) = _
  rw [e]
  exact iwrap_id (n := ((a &&& b : Nat) : Int)) (by omega) (by omega)
theorem bor {a b : Nat} (ha : a < 65536) (hb : b < 65536) : Go.bits .or .i64 (a : Int) (b : Int) = ((a ||| b : Nat) : Int) := by
  have hx : a ||| b < 65536 := Nat.or_lt_two_pow (n := 16) ha hb
  have e : (BitVec.ofInt 64 (a : Int) ||| BitVec.ofInt 64 (b : Int)).toNat = a ||| b := by
    rw [BitVec.ofInt_natCast, BitVec.ofInt_natCast, BitVec.toNat_or, BitVec.toNat_ofNat, BitVec.toNat_ofNat, mod64' ha, mod64' hb]
  show IntKind.i64.wrap (((BitVec.ofInt 64 (a : Int) ||| BitVec.ofInt 64 (b : Int)).toNat : Nat) : Int) = _
  rw [e]
  exact iwrap_id (n := ((a ||| b : Nat) : Int)) (by omega) (by omega)
theorem band1 {a : Nat} (ha : a < 65536) : Go.bits .and .i64 (a : Int) 1 = ((a % 2 : Nat) : Int) := by
  have := band (b := 1) ha (by decide)
  rw [Nat.and_one_is_mod] at this
  exact this
/-- A number with no bit of 256 on is an element, and none else. -/
theorem not255 {a : Int} (h0 : -9223372036854775808 ≤ a) (h1 : a ≤ 9223372036854775807) : Go.bits .andNot .i64 a 255 = 0 ↔ 0 ≤ a ∧ a ≤ 255 := by
  constructor
  · intro h
    have hz : (BitVec.ofInt 64 a &&& ~~~ BitVec.ofInt 64 255).toNat = 0 := by
      have hlt := (BitVec.ofInt 64 a &&& ~~~ BitVec.ofInt 64 255).isLt
      have h' : IntKind.i64.wrap ((BitVec.ofInt 64 a &&& ~~~ BitVec.ofInt 64 255).toNat : Int) = 0 := h
      rw [IntKind.wrap_i64] at h'
      omega
    have hv : BitVec.ofInt 64 a = BitVec.ofInt 64 a &&& BitVec.ofInt 64 255 := by
      have hz' : BitVec.ofInt 64 a &&& ~~~ BitVec.ofInt 64 255 = 0#64 := BitVec.eq_of_toNat_eq hz
      have hs : BitVec.ofInt 64 a = (BitVec.ofInt 64 a &&& BitVec.ofInt 64 255) ||| (BitVec.ofInt 64 a &&& ~~~ BitVec.ofInt 64 255) := by
        ext i hi
        simp only [BitVec.getElem_or, BitVec.getElem_and, BitVec.getElem_not]
        cases (BitVec.ofInt 64 a)[i] <;> cases (BitVec.ofInt 64 255)[i] <;> rfl
      rw [hz', BitVec.or_zero] at hs
      exact hs
    have hle : (BitVec.ofInt 64 a).toNat ≤ 255 := by
      rw [hv, BitVec.toNat_and]
      exact Nat.and_le_right
    rw [BitVec.toNat_ofInt] at hle
    omega
  · rintro ⟨h0, h1⟩
    obtain ⟨n, rfl⟩ := Int.eq_ofNat_of_zero_le h0
    have h : Gf.allB (fun n => decide (Go.bits .andNot .i64 (n : Int) 255 = 0)) 256 = true := by decide +kernel
    simpa using Gf.allB_at h n (by omega)
theorem elem_nat {a : Int} (h : 0 ≤ a ∧ a ≤ 255) : ∃ n : Nat, a = (n : Int) ∧ n < 256 := by
  obtain ⟨n, rfl⟩ := Int.eq_ofNat_of_zero_le h.1
  exact ⟨n, rfl, by omega⟩
def isEl (a : Int) : Bool := decide (0 ≤ a ∧ a ≤ 255)
theorem isEl_true {a : Int} (h : 0 ≤ a ∧ a ≤ 255) : isEl a = true := decide_eq_true h
theorem isEl_false {a : Int} (h : ¬(0 ≤ a ∧ a ≤ 255)) : isEl a = false := decide_eq_false h

theorem bad_none (k : Nat) (l : List Int) (n i : Int) (h : ¬ i < n) : gf_bad.l0 (k + 1) l n i = some false := by simp only [gf_bad.l0]; rw [if_neg h]
theorem bad_step (k : Nat) (l : List Int) (n i : Int) (h : i < n) (h0 : 0 ≤ i) (h1 : i < (l.length : Int)) (a : Int) (ha : rd l i = a) (w0 : -9223372036854775808 ≤ a) (w1 : a ≤ 9223372036854775807) :
    gf_bad.l0 (k + 1) l n i = if isEl a then gf_bad.l0 k l n (wrap64 (i + 1)) else some true := by
  simp only [gf_bad.l0]
  rw [if_pos h, if_pos h0, if_pos h1, ha]
  by_cases he : 0 ≤ a ∧ a ≤ 255
  · rw [if_pos ((not255 w0 w1).2 he), isEl_true he, if_pos rfl]
  · rw [if_neg (fun hh => he ((not255 w0 w1).1 hh)), isEl_false he, if_neg (by decide)]
theorem bad_one (k : Nat) (a : Int) (w : (Lit.int .i64 a).wf = true) : gf_bad.f (k + 2) [a] = some (!isEl a) := by
  obtain ⟨w0, w1⟩ := wf64 w
  unfold gf_bad.f
  rw [bad_step (k + 1) [a] _ 0 (by simp) (by decide) (by simp) a rfl w0 w1]
  cases isEl a with
  | false => rfl
  | true => rw [if_pos rfl, wrap01, bad_none k _ _ _ (by simp)]; rfl
theorem bad_two (k : Nat) (a b : Int) (wa : (Lit.int .i64 a).wf = true) (wb : (Lit.int .i64 b).wf = true) : gf_bad.f (k + 3) [a, b] = some (!(isEl a && isEl b)) := by
  obtain ⟨a0, a1⟩ := wf64 wa
  obtain ⟨b0, b1⟩ := wf64 wb
  unfold gf_bad.f
  rw [bad_step (k + 2) [a, b] _ 0 (by simp) (by decide) (by simp) a rfl a0 a1]
  cases isEl a with
  | false => rfl
  | true =>
    rw [if_pos rfl, wrap01, bad_step (k + 1) [a, b] _ 1 (by simp) (by decide) (by simp) b rfl b0 b1]
    cases isEl b with
    | false => rfl
    | true => rw [if_pos rfl, wrap11, bad_none k _ _ _ (by simp)]; rfl

theorem element_is (a : Int) : quicksetref_Element.f a = some (isEl a) := by
  unfold quicksetref_Element.f isEl
  by_cases h : a ≥ 0
  · rw [if_pos h]; simp [h]
  · rw [if_neg h]; simp; omega

theorem times_loop : ∀ (d k a b o : Nat), a < 256 → b < 2 ^ d → d ≤ 8 → o < 256 → d < k → gf_times.l0 k (a : Int) (b : Int) (o : Int) = some ((Gf.mulL d a b o : Nat) : Int) := by
  intro d
  induction d with
  | zero =>
    intro k a b o _ hb _ _ hk
    obtain ⟨k, rfl⟩ : ∃ m, k = m + 1 := ⟨k - 1, by omega⟩
    have : b = 0 := by omega
    subst this
    simp only [gf_times.l0]
    rw [if_neg (by omega)]
    rfl
  | succ d ih =>
    intro k a b o ha hb hd ho hk
    obtain ⟨k, rfl⟩ : ∃ m, k = m + 1 := ⟨k - 1, by omega⟩
    have hb2 : b / 2 < 2 ^ d := by rw [Nat.pow_succ] at hb; omega
    have hb16 : b < 65536 := Nat.lt_of_lt_of_le hb (Nat.le_trans (Nat.pow_le_pow_right (by decide) hd) (by decide))
    have hw : wrap64 ((a : Int) * 2) = ((2 * a : Nat) : Int) := by rw [wrap_id (by omega) (by omega)]; omega
    have hx : ∀ (o' : Nat), o' < 256 → (if (wrap64 ((a : Int) * 2)) > 255 then gf_times.l0 k (Go.bits .xor .i64 (wrap64 ((a : Int) * 2)) 285) ((b : Int) / 2) (o' : Int) else gf_times.l0 k (wrap64 ((a : Int) * 2)) ((b : Int) / 2) (o' : Int)) = some ((Gf.mulL d (Gf.xt a) (b / 2) o' : Nat) : Int) := by
      intro o' ho'
      rw [hw, show ((b : Int) / 2) = ((b / 2 : Nat) : Int) from by omega]
      by_cases hc : ((2 * a : Nat) : Int) > 255
      · have he : Gf.xt a = (2 * a) ^^^ 285 := by unfold Gf.xt; rw [show a / 128 = 1 from by omega]
        rw [if_pos hc, show (285 : Int) = ((285 : Nat) : Int) from rfl, bxor (by omega) (by decide), ← he]
        exact ih k _ _ _ (Gf.xt_lt ha) hb2 (by omega) ho' (by omega)
      · have he : Gf.xt a = 2 * a := by unfold Gf.xt; rw [show a / 128 = 0 from by omega]; simp
        rw [if_neg hc, ← he]
        exact ih k _ _ _ (Gf.xt_lt ha) hb2 (by omega) ho' (by omega)
    rcases Nat.eq_zero_or_pos b with h0 | h0
    · subst h0
      simp only [gf_times.l0]
      rw [if_neg (by omega)]
      have : ∀ (m a o : Nat), Gf.mulL m a 0 o = o := by
        intro m
        induction m with
        | zero => intro _ _; rfl
        | succ m ihm => intro a o; simp only [Gf.mulL, Nat.zero_div, Nat.zero_mod, Nat.mul_zero, Nat.xor_zero]; exact ihm _ _
      rw [this]
    · simp only [gf_times.l0]
      rw [if_pos (by omega), band1 hb16]
      rcases Gf.bit_cases b with hp | hp
      · rw [if_neg (by rw [hp]; decide), hx o ho]
        simp only [Gf.mulL, hp, Nat.mul_zero, Nat.xor_zero]
      · rw [if_pos (by rw [hp]; rfl), bxor (by omega) (by omega), hx _ (Gf.xor_lt ho ha)]
        simp only [Gf.mulL, hp, Nat.mul_one]
theorem times_is {k a b : Nat} (ha : a < 256) (hb : b < 256) (hk : 8 < k) : gf_times.f k (a : Int) (b : Int) = some ((Gf.mul a b : Nat) : Int) := times_loop 8 k a b 0 ha hb (Nat.le_refl _) (by decide) hk

theorem power_loop : ∀ (d k a n o : Nat), a < 256 → n < 2 ^ d → d ≤ 63 → o < 256 → d + 9 ≤ k → gf_power.l0 k (a : Int) (n : Int) (o : Int) = some ((Gf.mul o (Gf.pow a n) : Nat) : Int) := by
  intro d
  induction d with
  | zero =>
    intro k a n o ha hn _ ho hk
    obtain ⟨k, rfl⟩ : ∃ m, k = m + 1 := ⟨k - 1, by omega⟩
    have : n = 0 := by omega
    subst this
    simp only [gf_power.l0]
    rw [if_neg (by omega), Gf.pow, Gf.mul_one ho]
  | succ d ih =>
    intro k a n o ha hn hd ho hk
    obtain ⟨k, rfl⟩ : ∃ m, k = m + 1 := ⟨k - 1, by omega⟩
    have hn2 : n / 2 < 2 ^ d := by rw [Nat.pow_succ] at hn; omega
    rcases Nat.eq_zero_or_pos n with h0 | h0
    · subst h0
      simp only [gf_power.l0]
      rw [if_neg (by omega), Gf.pow, Gf.mul_one ho]
    · have hsq : ∀ m, Gf.pow (Gf.mul a a) m = Gf.pow a (2 * m) := by
        intro m
        rw [Gf.pow_mul ha, show Gf.pow a 2 = Gf.mul a a from by show Gf.mul (Gf.mul 1 a) a = _; rw [Gf.one_mul ha]]
      have hband : Go.bits .and .i64 (n : Int) 1 = ((n % 2 : Nat) : Int) := by
        have hlt : n < 2 ^ 63 := Nat.lt_of_lt_of_le hn (Nat.pow_le_pow_right (by decide) hd)
        have h64 : n % 2 ^ 64 = n := Nat.mod_eq_of_lt (by omega)
        have e : (BitVec.ofInt 64 (n : Int) &&& BitVec.ofInt 64 1).toNat = n % 2 := by
          rw [BitVec.ofInt_natCast, BitVec.toNat_and, BitVec.toNat_ofNat, h64, show (BitVec.ofInt 64 1).toNat = 1 from rfl, Nat.and_one_is_mod]
        show IntKind.i64.wrap (((BitVec.ofInt 64 (n : Int) &&& BitVec.ofInt 64 1).toNat : Nat) : Int) = _
        rw [e]
        exact iwrap_id (n := ((n % 2 : Nat) : Int)) (by omega) (by omega)
      simp only [gf_power.l0]
      rw [if_pos (by omega), hband, show ((n : Int) / 2) = ((n / 2 : Nat) : Int) from by omega]
      rcases Gf.bit_cases n with hp | hp
      · rw [if_neg (by rw [hp]; decide), times_is ha ha (by omega)]
        simp only [bsome]
        rw [ih k _ _ _ (Gf.mul_lt ha _) hn2 (by omega) ho (by omega), hsq, show 2 * (n / 2) = n from by omega]
      · rw [if_pos (by rw [hp]; rfl), times_is ho ha (by omega), times_is ha ha (by omega)]
        simp only [bsome]
        rw [ih k _ _ _ (Gf.mul_lt ha _) hn2 (by omega) (Gf.mul_lt ho _) (by omega), hsq, Gf.mul_assoc ho ha (Gf.pow_lt ha _)]
        have : Gf.pow a n = Gf.mul a (Gf.pow a (2 * (n / 2))) := by
          rw [show n = 1 + 2 * (n / 2) from by omega, Gf.pow_add ha, Gf.pow_one ha, show (1 + 2 * (n / 2)) / 2 = n / 2 from by omega]
        rw [this]
theorem power_is {k a n : Nat} (ha : a < 256) (hn : n < 9223372036854775808) (hk : 72 ≤ k) : gf_power.f k (a : Int) (n : Int) = some ((Gf.pow a n : Nat) : Int) := by
  unfold gf_power.f
  rw [show (1 : Int) = ((1 : Nat) : Int) from rfl, power_loop 63 k a n 1 ha hn (Nat.le_refl _) (by decide) hk, Gf.one_mul (Gf.pow_lt ha n)]

theorem shl_nat {a i : Nat} (h : a * 2 ^ i < 65536) (hi : i ≤ 64) : shl .i64 (a : Int) (i : Int) = ((a <<< i : Nat) : Int) := by
  unfold shl
  rw [show min ((i : Int).toNat) IntKind.i64.bits = i from by simp [IntKind.bits]; omega, Nat.shiftLeft_eq]
  have : (a : Int) * 2 ^ i = ((a * 2 ^ i : Nat) : Int) := by simp
  rw [this, iwrap_id (by omega) (by omega)]
theorem shr_nat {a i : Nat} (hi : i ≤ 64) : shr .i64 (a : Int) (i : Int) = ((a >>> i : Nat) : Int) := by
  unfold shr
  rw [show min ((i : Int).toNat) IntKind.i64.bits = i from by simp [IntKind.bits]; omega, Nat.shiftRight_eq_div_pow]
  simp
theorem mulof_first : ∀ (d m a b p i : Nat), i + d = 8 → a < 256 → b < 256 → p < 32768 → quicksetref_mulOf.l0 (d + 1 + m) (a : Int) (b : Int) (p : Int) (i : Int) = quicksetref_mulOf.l1 m ((Gf.refP d a b p i : Nat) : Int) 14 ∧ Gf.refP d a b p i < 32768 := by
  intro d
  induction d with
  | zero =>
    intro m a b p i hi ha hb hp
    refine ⟨?_, hp⟩
    rw [show 0 + 1 + m = m + 1 from by omega]
    simp only [quicksetref_mulOf.l0]
    rw [if_neg (by omega)]
    rfl
  | succ d ih =>
    intro m a b p i hi ha hb hp
    have h2 : a * 2 ^ i < 32768 := by
      have : 2 ^ i ≤ 2 ^ 7 := Nat.pow_le_pow_right (by decide) (by omega)
      have := Nat.mul_le_mul (show a ≤ 255 by omega) this
      omega
    have hs : b >>> i < 65536 := by rw [Nat.shiftRight_eq_div_pow]; have := Nat.div_le_self b (2 ^ i); omega
    have hx : p ^^^ (a <<< i) < 32768 := by
      rw [Nat.shiftLeft_eq]; exact Nat.xor_lt_two_pow (n := 15) hp h2
    rw [show d + 1 + 1 + m = (d + 1 + m) + 1 from by omega]
    simp only [quicksetref_mulOf.l0, Gf.refP]
    rw [if_pos (by omega), if_pos (by omega), shr_nat (by omega), band1 hs, shl_nat (by omega) (by omega), wrap_id (by omega) (by omega), show ((i : Int) + 1) = ((i + 1 : Nat) : Int) from by omega]
    rcases Gf.bit_cases (b >>> i) with hb' | hb'
    · rw [if_neg (by rw [hb']; decide), hb', Nat.mul_zero, Nat.xor_zero]
      exact ih m a b p (i + 1) (by omega) ha hb hp
    · rw [if_pos (by rw [hb']; rfl), hb', Nat.mul_one, bxor (by omega) (by rw [Nat.shiftLeft_eq]; omega)]
      exact ih m a b _ (i + 1) (by omega) ha hb hx
theorem mulof_second : ∀ (d m p i : Nat), i = d + 7 → d ≤ 7 → p < 32768 → quicksetref_mulOf.l1 (d + 1 + m) (p : Int) (i : Int) = some ((Gf.refR d p i : Nat) : Int) := by
  intro d
  induction d with
  | zero =>
    intro m p i hi _ hp
    rw [show 0 + 1 + m = m + 1 from by omega]
    simp only [quicksetref_mulOf.l1]
    rw [if_neg (by omega)]
    rfl
  | succ d ih =>
    intro m p i hi hd hp
    have h2 : 285 * 2 ^ (i - 8) < 32768 := by
      have : 2 ^ (i - 8) ≤ 2 ^ 6 := Nat.pow_le_pow_right (by decide) (by omega)
      omega
    have hs : p >>> i < 65536 := by rw [Nat.shiftRight_eq_div_pow]; have := Nat.div_le_self p (2 ^ i); omega
    have hx : p ^^^ (285 <<< (i - 8)) < 32768 := by
      rw [Nat.shiftLeft_eq]; exact Nat.xor_lt_two_pow (n := 15) hp h2
    rw [show d + 1 + 1 + m = (d + 1 + m) + 1 from by omega]
    simp only [quicksetref_mulOf.l1, Gf.refR]
    rw [if_pos (by omega), if_pos (by omega), shr_nat (by omega), band1 hs, wrap_id (n := (i : Int) - 8) (by omega) (by omega), wrap_id (n := (i : Int) - 1) (by omega) (by omega), show ((i : Int) - 8) = ((i - 8 : Nat) : Int) from by omega, show ((i : Int) - 1) = ((i - 1 : Nat) : Int) from by omega,
      show (285 : Int) = ((285 : Nat) : Int) from rfl, shl_nat (by omega) (by omega)]
    rcases Gf.bit_cases (p >>> i) with hb' | hb'
    · rw [if_neg (by rw [hb']; decide), hb', Nat.mul_zero, Nat.xor_zero]
      exact ih m p (i - 1) (by omega) (by omega) hp
    · rw [if_pos (by rw [hb']; rfl), if_pos (by omega), hb', Nat.mul_one, bxor (by omega) (by rw [Nat.shiftLeft_eq]; omega)]
      exact ih m _ (i - 1) (by omega) (by omega) hx
theorem mulof_is {k a b : Nat} (ha : a < 256) (hb : b < 256) (hk : 17 ≤ k) : quicksetref_mulOf.f k (a : Int) (b : Int) = some ((Gf.mul a b : Nat) : Int) := by
  obtain ⟨m, rfl⟩ : ∃ m, k = 8 + 1 + (7 + 1 + m) := ⟨k - 17, by omega⟩
  obtain ⟨h1, h2⟩ := mulof_first 8 (7 + 1 + m) a b 0 0 rfl ha hb (by decide)
  rw [Gf.mul_ref ha hb]
  unfold quicksetref_mulOf.f
  exact h1.trans (mulof_second 7 m _ 14 rfl (Nat.le_refl _) h2)

theorem expof_loop : ∀ (d k n i : Nat), i + d = n % 255 → d + 17 ≤ k → quicksetref_expOf.l0 k (n : Int) ((Gf.pow 2 i : Nat) : Int) (i : Int) = some ((Gf.pow 2 (n % 255) : Nat) : Int) := by
  intro d
  induction d with
  | zero =>
    intro k n i hi hk
    obtain ⟨k, rfl⟩ : ∃ m, k = m + 1 := ⟨k - 1, by omega⟩
    simp only [quicksetref_expOf.l0]
    rw [if_neg (by rw [Int.tmod_eq_emod_of_nonneg (by omega)]; omega), ← hi]
    rfl
  | succ d ih =>
    intro k n i hi hk
    obtain ⟨k, rfl⟩ : ∃ m, k = m + 1 := ⟨k - 1, by omega⟩
    simp only [quicksetref_expOf.l0]
    rw [if_pos (by rw [Int.tmod_eq_emod_of_nonneg (by omega)]; omega), show (2 : Int) = ((2 : Nat) : Int) from rfl, mulof_is (Gf.pow_lt (by decide) i) (by decide) (by omega)]
    simp only [bsome]
    rw [wrap_id (by omega) (by omega), show ((i : Int) + 1) = ((i + 1 : Nat) : Int) from by omega]
    exact ih k n (i + 1) (by omega) (by omega)
theorem expof_is {k n : Nat} (hk : 300 ≤ k) : quicksetref_expOf.f k (n : Int) = some ((Gf.pow 2 n : Nat) : Int) := by
  have := expof_loop (n % 255) k n 0 (by omega) (by omega)
  rw [← Gf.two_pow_mod] at this
  exact this

theorem logof_loop {a : Nat} (h0 : 0 < a) (ha : a < 256) : ∀ (d k i : Nat), i + d = Gf.log a → d + 301 ≤ k → quicksetref_logOf.l0 k (a : Int) (i : Int) = some ((Gf.log a : Nat) : Int) := by
  obtain ⟨h1, h2⟩ := Gf.log_ok h0 ha
  intro d
  induction d with
  | zero =>
    intro k i hi hk
    obtain ⟨k, rfl⟩ : ∃ m, k = m + 1 := ⟨k - 1, by omega⟩
    have : i = Gf.log a := by omega
    subst this
    simp only [quicksetref_logOf.l0]
    rw [if_pos (by omega), expof_is (by omega)]
    simp only [bsome]
    rw [if_pos (by rw [h1])]
  | succ d ih =>
    intro k i hi hk
    obtain ⟨k, rfl⟩ : ∃ m, k = m + 1 := ⟨k - 1, by omega⟩
    simp only [quicksetref_logOf.l0]
    rw [if_pos (by omega), expof_is (by omega)]
    simp only [bsome]
    rw [if_neg (fun h => by have := Gf.log_le (a := a) (j := i) (by omega) (by omega); omega), wrap_id (by omega) (by omega), show ((i : Int) + 1) = ((i + 1 : Nat) : Int) from by omega]
    exact ih k (i + 1) (by omega) (by omega)
theorem logof_is {k a : Nat} (h0 : 0 < a) (ha : a < 256) (hk : 600 ≤ k) : quicksetref_logOf.f k (a : Int) = some ((Gf.log a : Nat) : Int) :=
  logof_loop h0 ha (Gf.log a) k 0 (by omega) (by have := (Gf.log_ok h0 ha).2; omega)

theorem pow_log {a n : Nat} (h0 : 0 < a) (ha : a < 256) : Gf.pow 2 (Gf.log a * (n % 255)) = Gf.pow a n := by
  obtain ⟨h, _⟩ := Gf.log_ok h0 ha
  have e : Gf.pow a n = Gf.pow 2 (Gf.log a * n) := by rw [Gf.pow_mul (by decide), h]
  rw [e, Gf.two_pow_mod (Gf.log a * (n % 255)), Gf.two_pow_mod (Gf.log a * n), Nat.mul_mod_mod]
theorem GfPows : quicksetlaw_GfPows.Pure := by
  intro a n wa wn
  obtain ⟨n0, n1⟩ := wf64 wn
  suffices key : ∀ m, 700 ≤ m → quicksetlaw_GfPows.f (m + 2) a n = some true from ⟨_, key 700 (Nat.le_refl _)⟩
  intro m hm0
  unfold quicksetlaw_GfPows.f gf_Pow.f quicksetref_GfPow.f
  rw [bad_one m a wa, element_is]
  simp only [bsome]
  by_cases ha : 0 ≤ a ∧ a ≤ 255
  · rw [isEl_true ha]
    obtain ⟨a, rfl, ha'⟩ := elem_nat ha
    simp only [Bool.not_true, Bool.false_eq_true, if_false, if_true, quicksetref_GfPow.j0]
    by_cases hn : n < 0
    · rw [if_pos hn, if_pos (decide_eq_true hn)]; simp
    · obtain ⟨n, rfl⟩ := Int.eq_ofNat_of_zero_le (show 0 ≤ n by omega)
      rw [if_neg hn, if_neg (by simp), power_is ha' (by omega) (by omega)]
      simp only [bsome]
      rcases Nat.eq_zero_or_pos n with hn0 | hn0
      · subst hn0; simp [Gf.pow]
      · rw [if_neg (by omega)]
        rcases Nat.eq_zero_or_pos a with h0 | h0
        · subst h0; rw [Gf.zero_pow hn0]; simp
        · have hl := (Gf.log_ok h0 ha').2
          have hm : Gf.log a * (n % 255) ≤ 254 * 254 := Nat.mul_le_mul (by omega) (by omega)
          rw [if_neg (by omega), logof_is h0 ha' (by omega)]
          simp only [bsome]
          rw [Int.tmod_eq_emod_of_nonneg (by omega), show (((Gf.log a : Nat) : Int) * ((n : Int) % 255)) = ((Gf.log a * (n % 255) : Nat) : Int) from by simp, wrap_id (by omega) (by omega), expof_is (by omega)]
          simp only [bsome]
          rw [pow_log h0 ha', if_pos rfl]
          simp
  · rw [isEl_false ha]; simp [quicksetref_GfPow.j0]

end Go.Proofs.Ytdececbckohhgaa.Pure
