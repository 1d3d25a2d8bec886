/- Parity columns: the two answers are one, over plain numbers and lists; no conditions. -/
import Derived.Test.YtpaenlplpaabjaaStripeR
import Derived.Test.YtpaenlplpaabjaaGfMath
set_option linter.unusedVariables false
set_option linter.unusedSimpArgs false
namespace Go.Proofs.Ytpaenlplpaabjaa.Par
open Go.Proofs.Ytpaenlplpaabjaa.QStripeLays Go.RowKit Go.Proofs.YtpaenlplpaabjaaW.PrintWords Go.Proofs.YtpaenlplpaabjaaW.PrintLast Go.Proofs.YtpaenlplpaabjaaW.PrintMore
open Go.RowKit Go.Proofs.YtpaenlplpaabjaaW.PrintWords Go.Proofs.YtpaenlplpaabjaaW.PrintLast Go.Proofs.YtpaenlplpaabjaaW.PrintMore
/-- Laid so that simp does not take it for a change of sight alone (the kernel would then compare great terms by computing). -/
theorem bsome {α β : Type} (x : α) (f : α → Option β) : (some x).bind f = f x := by
  have h : ∀ o, o = some x → o.bind f = f x := by
    intro o ho
    subst ho
    rfl
  exact h _ rfl
/-! Numbers of Go, read as plain ones -/
theorem wf64 {a : Int} (h : (Lit.int .i64 a).wf = true) : -9223372036854775808 ≤ a ∧ a ≤ 9223372036854775807 := by
  simp only [Lit.wf, IntKind.min, IntKind.max, IntKind.signed, IntKind.bits, Bool.and_eq_true, decide_eq_true_eq, if_true] at h
  omega
theorem wrap_id {n : Int} (h0 : -9223372036854775808 ≤ n) (h1 : n ≤ 9223372036854775807) : wrap64 n = n := by unfold wrap64; omega
theorem wrap01 : wrap64 (0 + 1) = 1 := wrap_id (n := 0 + 1) (by decide) (by decide)
theorem wrap11 : wrap64 (1 + 1) = 2 := wrap_id (n := 1 + 1) (by decide) (by decide)
theorem iwrap_id {n : Int} (h0 : 0 ≤ n) (h1 : n ≤ 9223372036854775807) : IntKind.i64.wrap n = n := by rw [IntKind.wrap_i64]; omega
theorem mod64 {a : Nat} (h : a < 256) : a % 2 ^ 64 = a := Nat.mod_eq_of_lt (Nat.lt_of_lt_of_le h (by decide))
theorem mod64' {a : Nat} (h : a < 65536) : a % 2 ^ 64 = a := Nat.mod_eq_of_lt (Nat.lt_of_lt_of_le h (by decide))
theorem bxor {a b : Nat} (ha : a < 65536) (hb : b < 65536) : Go.bits .xor .i64 (a : Int) (b : Int) = ((a ^^^ b : Nat) : Int) := by
  have hx : a ^^^ b < 65536 := Nat.xor_lt_two_pow (n := 16) ha hb
  have e : (BitVec.ofInt 64 (a : Int) ^^^ BitVec.ofInt 64 (b : Int)).toNat = a ^^^ b := by
    rw [BitVec.ofInt_natCast, BitVec.ofInt_natCast, BitVec.toNat_xor, BitVec.toNat_ofNat, BitVec.toNat_ofNat, mod64' ha, mod64' hb]
  show IntKind.i64.wrap (((BitVec.ofInt 64 (a : Int) ^^^ BitVec.ofInt 64 (b : Int)).toNat : Nat) : Int) = _
  rw [e]
  exact iwrap_id (n := ((a ^^^ b : Nat) : Int)) (by omega) (by omega)
theorem band {a b : Nat} (ha : a < 65536) (hb : b < 65536) : Go.bits .and .i64 (a : Int) (b : Int) = ((a &&& b : Nat) : Int) := by
  have hx : a &&& b < 65536 := Nat.and_lt_two_pow (n := 16) _ hb
  have e : (BitVec.ofInt 64 (a : Int) &&& BitVec.ofInt 64 (b : Int)).toNat = a &&& b := by
    rw [BitVec.ofInt_natCast, BitVec.ofInt_natCast, BitVec.toNat_and, BitVec.toNat_ofNat, BitVec.toNat_ofNat, mod64' ha, mod64' hb]
  show IntKind.i64.wrap (((BitVec.ofInt 64 (a : Int) &&& BitVec.ofInt 64 (b : Int)).toNat : Nat) : Int) = _
  rw [e]
  exact iwrap_id (n := ((a &&& b : Nat) : Int)) (by omega) (by omega)
theorem bor {a b : Nat} (ha : a < 65536) (hb : b < 65536) : Go.bits .or .i64 (a : Int) (b : Int) = ((a ||| b : Nat) : Int) := by
  have hx : a ||| b < 65536 := Nat.or_lt_two_pow (n := 16) ha hb
  have e : (BitVec.ofInt 64 (a : Int) ||| BitVec.ofInt 64 (b : Int)).toNat = a ||| b := by
    rw [BitVec.ofInt_natCast, BitVec.ofInt_natCast, BitVec.toNat_or, BitVec.toNat_ofNat, BitVec.toNat_ofNat, mod64' ha, mod64' hb]
  show IntKind.i64.wrap (((BitVec.ofInt 64 (a : Int) ||| BitVec.ofInt 64 (b : Int)).toNat : Nat) : Int) = _
  rw [e]
  exact iwrap_id (n := ((a ||| b : Nat) : Int)) (by omega) (by omega)
theorem band1 {a : Nat} (ha : a < 65536) : Go.bits .and .i64 (a : Int) 1 = ((a % 2 : Nat) : Int) := by
  have := band (b := 1) ha (by decide)
  rw [Nat.and_one_is_mod] at this
  exact this
/-- A number with no bit of 256 on is an element, and none else. -/
theorem not255 {a : Int} (h0 : -9223372036854775808 ≤ a) (h1 : a ≤ 9223372036854775807) : Go.bits .andNot .i64 a 255 = 0 ↔ 0 ≤ a ∧ a ≤ 255 := by
  constructor
  · intro h
    have hz : (BitVec.ofInt 64 a &&& ~~~ BitVec.ofInt 64 255).toNat = 0 := by
      have hlt := (BitVec.ofInt 64 a &&& ~~~ BitVec.ofInt 64 255).isLt
      have h' : IntKind.i64.wrap ((BitVec.ofInt 64 a &&& ~~~ BitVec.ofInt 64 255).toNat : Int) = 0 := h
      rw [IntKind.wrap_i64] at h'
      omega
    have hv : BitVec.ofInt 64 a = BitVec.ofInt 64 a &&& BitVec.ofInt 64 255 := by
      have hz' : BitVec.ofInt 64 a &&& ~~~ BitVec.ofInt 64 255 = 0#64 := BitVec.eq_of_toNat_eq hz
      have hs : BitVec.ofInt 64 a = (BitVec.ofInt 64 a &&& BitVec.ofInt 64 255) ||| (BitVec.ofInt 64 a &&& ~~~ BitVec.ofInt 64 255) := by
        ext i hi
        simp only [BitVec.getElem_or, BitVec.getElem_and, BitVec.getElem_not]
        cases (BitVec.ofInt 64 a)[i] <;> cases (BitVec.ofInt 64 255)[i] <;> rfl
      rw [hz', BitVec.or_zero] at hs
      exact hs
    have hle : (BitVec.ofInt 64 a).toNat ≤ 255 := by
      rw [hv, BitVec.toNat_and]
      exact Nat.and_le_right
    rw [BitVec.toNat_ofInt] at hle
    omega
  · rintro ⟨h0, h1⟩
    obtain ⟨n, rfl⟩ := Int.eq_ofNat_of_zero_le h0
    have h : Gf.allB (fun n => decide (Go.bits .andNot .i64 (n : Int) 255 = 0)) 256 = true := by decide +kernel
    simpa using Gf.allB_at h n (by omega)
theorem elem_nat {a : Int} (h : 0 ≤ a ∧ a ≤ 255) : ∃ n : Nat, a = (n : Int) ∧ n < 256 := by
  obtain ⟨n, rfl⟩ := Int.eq_ofNat_of_zero_le h.1
  exact ⟨n, rfl, by omega⟩
def isEl (a : Int) : Bool := decide (0 ≤ a ∧ a ≤ 255)
theorem isEl_true {a : Int} (h : 0 ≤ a ∧ a ≤ 255) : isEl a = true := decide_eq_true h
theorem isEl_false {a : Int} (h : ¬(0 ≤ a ∧ a ≤ 255)) : isEl a = false := decide_eq_false h
theorem bad_none (k : Nat) (l : List Int) (n i : Int) (h : ¬ i < n) : gf_bad.l0 (k + 1) l n i = some false := by simp only [gf_bad.l0]; rw [if_neg h]
theorem bad_step (k : Nat) (l : List Int) (n i : Int) (h : i < n) (h0 : 0 ≤ i) (h1 : i < (l.length : Int)) (a : Int) (ha : rd l i = a) (w0 : -9223372036854775808 ≤ a) (w1 : a ≤ 9223372036854775807) :
    gf_bad.l0 (k + 1) l n i = if isEl a then gf_bad.l0 k l n (wrap64 (i + 1)) else some true := by
  simp only [gf_bad.l0]
  rw [if_pos h, if_pos h0, if_pos h1, ha]
  by_cases he : 0 ≤ a ∧ a ≤ 255
  · rw [if_pos ((not255 w0 w1).2 he), isEl_true he, if_pos rfl]
  · rw [if_neg (fun hh => he ((not255 w0 w1).1 hh)), isEl_false he, if_neg (by decide)]
theorem bad_one (k : Nat) (a : Int) (w : (Lit.int .i64 a).wf = true) : gf_bad.f (k + 2) [a] = some (!isEl a) := by
  obtain ⟨w0, w1⟩ := wf64 w
  unfold gf_bad.f
  rw [bad_step (k + 1) [a] _ 0 (by simp) (by decide) (by simp) a rfl w0 w1]
  cases isEl a with
  | false => rfl
  | true => rw [if_pos rfl, wrap01, bad_none k _ _ _ (by simp)]; rfl
theorem bad_two (k : Nat) (a b : Int) (wa : (Lit.int .i64 a).wf = true) (wb : (Lit.int .i64 b).wf = true) : gf_bad.f (k + 3) [a, b] = some (!(isEl a && isEl b)) := by
  obtain ⟨a0, a1⟩ := wf64 wa
  obtain ⟨b0, b1⟩ := wf64 wb
  unfold gf_bad.f
  rw [bad_step (k + 2) [a, b] _ 0 (by simp) (by decide) (by simp) a rfl a0 a1]
  cases isEl a with
  | false => rfl
  | true =>
    rw [if_pos rfl, wrap01, bad_step (k + 1) [a, b] _ 1 (by simp) (by decide) (by simp) b rfl b0 b1]
    cases isEl b with
    | false => rfl
    | true => rw [if_pos rfl, wrap11, bad_none k _ _ _ (by simp)]; rfl
theorem times_loop : ∀ (d k a b o : Nat), a < 256 → b < 2 ^ d → d ≤ 8 → o < 256 → d < k → gf_times.l0 k (a : Int) (b : Int) (o : Int) = some ((Gf.mulL d a b o : Nat) : Int) := by
  intro d
  induction d with
  | zero =>
    intro k a b o _ hb _ _ hk
    obtain ⟨k, rfl⟩ : ∃ m, k = m + 1 := ⟨k - 1, by omega⟩
    have : b = 0 := by omega
    subst this
    simp only [gf_times.l0]
    rw [if_neg (by omega)]
    rfl
  | succ d ih =>
    intro k a b o ha hb hd ho hk
    obtain ⟨k, rfl⟩ : ∃ m, k = m + 1 := ⟨k - 1, by omega⟩
    have hb2 : b / 2 < 2 ^ d := by rw [Nat.pow_succ] at hb; omega
    have hb16 : b < 65536 := Nat.lt_of_lt_of_le hb (Nat.le_trans (Nat.pow_le_pow_right (by decide) hd) (by decide))
    have hw : wrap64 ((a : Int) * 2) = ((2 * a : Nat) : Int) := by rw [wrap_id (by omega) (by omega)]; omega
    have hx : ∀ (o' : Nat), o' < 256 → (if (wrap64 ((a : Int) * 2)) > 255 then gf_times.l0 k (Go.bits .xor .i64 (wrap64 ((a : Int) * 2)) 285) ((b : Int) / 2) (o' : Int) else gf_times.l0 k (wrap64 ((a : Int) * 2)) ((b : Int) / 2) (o' : Int)) = some ((Gf.mulL d (Gf.xt a) (b / 2) o' : Nat) : Int) := by
      intro o' ho'
      rw [hw, show ((b : Int) / 2) = ((b / 2 : Nat) : Int) from by omega]
      by_cases hc : ((2 * a : Nat) : Int) > 255
      · have he : Gf.xt a = (2 * a) ^^^ 285 := by unfold Gf.xt; rw [show a / 128 = 1 from by omega]
        rw [if_pos hc, show (285 : Int) = ((285 : Nat) : Int) from rfl, bxor (by omega) (by decide), ← he]
        exact ih k _ _ _ (Gf.xt_lt ha) hb2 (by omega) ho' (by omega)
      · have he : Gf.xt a = 2 * a := by unfold Gf.xt; rw [show a / 128 = 0 from by omega]; simp
        rw [if_neg hc, ← he]
        exact ih k _ _ _ (Gf.xt_lt ha) hb2 (by omega) ho' (by omega)
    rcases Nat.eq_zero_or_pos b with h0 | h0
    · subst h0
      simp only [gf_times.l0]
      rw [if_neg (by omega)]
      have : ∀ (m a o : Nat), Gf.mulL m a 0 o = o := by
        intro m
        induction m with
        | zero => intro _ _; rfl
        | succ m ihm => intro a o; simp only [Gf.mulL, Nat.zero_div, Nat.zero_mod, Nat.mul_zero, Nat.xor_zero]; exact ihm _ _
      rw [this]
    · simp only [gf_times.l0]
      rw [if_pos (by omega), band1 hb16]
      rcases Gf.bit_cases b with hp | hp
      · rw [if_neg (by rw [hp]; decide), hx o ho]
        simp only [Gf.mulL, hp, Nat.mul_zero, Nat.xor_zero]
      · rw [if_pos (by rw [hp]; rfl), bxor (by omega) (by omega), hx _ (Gf.xor_lt ho ha)]
        simp only [Gf.mulL, hp, Nat.mul_one]
theorem times_is {k a b : Nat} (ha : a < 256) (hb : b < 256) (hk : 8 < k) : gf_times.f k (a : Int) (b : Int) = some ((Gf.mul a b : Nat) : Int) := times_loop 8 k a b 0 ha hb (Nat.le_refl _) (by decide) hk
theorem power_loop : ∀ (d k a n o : Nat), a < 256 → n < 2 ^ d → d ≤ 63 → o < 256 → d + 9 ≤ k → gf_power.l0 k (a : Int) (n : Int) (o : Int) = some ((Gf.mul o (Gf.pow a n) : Nat) : Int) := by
  intro d
  induction d with
  | zero =>
    intro k a n o ha hn _ ho hk
    obtain ⟨k, rfl⟩ : ∃ m, k = m + 1 := ⟨k - 1, by omega⟩
    have : n = 0 := by omega
    subst this
    simp only [gf_power.l0]
    rw [if_neg (by omega), Gf.pow, Gf.mul_one ho]
  | succ d ih =>
    intro k a n o ha hn hd ho hk
    obtain ⟨k, rfl⟩ : ∃ m, k = m + 1 := ⟨k - 1, by omega⟩
    have hn2 : n / 2 < 2 ^ d := by rw [Nat.pow_succ] at hn; omega
    rcases Nat.eq_zero_or_pos n with h0 | h0
    · subst h0
      simp only [gf_power.l0]
      rw [if_neg (by omega), Gf.pow, Gf.mul_one ho]
    · have hsq : ∀ m, Gf.pow (Gf.mul a a) m = Gf.pow a (2 * m) := by
        intro m
        rw [Gf.pow_mul ha, show Gf.pow a 2 = Gf.mul a a from by show Gf.mul (Gf.mul 1 a) a = _; rw [Gf.one_mul ha]]
      have hband : Go.bits .and .i64 (n : Int) 1 = ((n % 2 : Nat) : Int) := by
        have hlt : n < 2 ^ 63 := Nat.lt_of_lt_of_le hn (Nat.pow_le_pow_right (by decide) hd)
        have h64 : n % 2 ^ 64 = n := Nat.mod_eq_of_lt (by omega)
        have e : (BitVec.ofInt 64 (n : Int) &&& BitVec.ofInt 64 1).toNat = n % 2 := by
          rw [BitVec.ofInt_natCast, BitVec.toNat_and, BitVec.toNat_ofNat, h64, show (BitVec.ofInt 64 1).toNat = 1 from rfl, Nat.and_one_is_mod]
        show IntKind.i64.wrap (((BitVec.ofInt 64 (n : Int) &&& BitVec.ofInt 64 1).toNat : Nat) : Int) = _
        rw [e]
        exact iwrap_id (n := ((n % 2 : Nat) : Int)) (by omega) (by omega)
      simp only [gf_power.l0]
      rw [if_pos (by omega), hband, show ((n : Int) / 2) = ((n / 2 : Nat) : Int) from by omega]
      rcases Gf.bit_cases n with hp | hp
      · rw [if_neg (by rw [hp]; decide), times_is ha ha (by omega)]
        simp only [bsome]
        rw [ih k _ _ _ (Gf.mul_lt ha _) hn2 (by omega) ho (by omega), hsq, show 2 * (n / 2) = n from by omega]
      · rw [if_pos (by rw [hp]; rfl), times_is ho ha (by omega), times_is ha ha (by omega)]
        simp only [bsome]
        rw [ih k _ _ _ (Gf.mul_lt ha _) hn2 (by omega) (Gf.mul_lt ho _) (by omega), hsq, Gf.mul_assoc ho ha (Gf.pow_lt ha _)]
        have : Gf.pow a n = Gf.mul a (Gf.pow a (2 * (n / 2))) := by
          rw [show n = 1 + 2 * (n / 2) from by omega, Gf.pow_add ha, Gf.pow_one ha, show (1 + 2 * (n / 2)) / 2 = n / 2 from by omega]
        rw [this]
theorem power_is {k a n : Nat} (ha : a < 256) (hn : n < 9223372036854775808) (hk : 72 ≤ k) : gf_power.f k (a : Int) (n : Int) = some ((Gf.pow a n : Nat) : Int) := by
  unfold gf_power.f
  rw [show (1 : Int) = ((1 : Nat) : Int) from rfl, power_loop 63 k a n 1 ha hn (Nat.le_refl _) (by decide) hk, Gf.one_mul (Gf.pow_lt ha n)]
theorem shl_nat {a i : Nat} (h : a * 2 ^ i < 65536) (hi : i ≤ 64) : shl .i64 (a : Int) (i : Int) = ((a <<< i : Nat) : Int) := by
  unfold shl
  rw [show min ((i : Int).toNat) IntKind.i64.bits = i from by simp [IntKind.bits]; omega, Nat.shiftLeft_eq]
  have : (a : Int) * 2 ^ i = ((a * 2 ^ i : Nat) : Int) := by simp
  rw [this, iwrap_id (by omega) (by omega)]
theorem shr_nat {a i : Nat} (hi : i ≤ 64) : shr .i64 (a : Int) (i : Int) = ((a >>> i : Nat) : Int) := by
  unfold shr
  rw [show min ((i : Int).toNat) IntKind.i64.bits = i from by simp [IntKind.bits]; omega, Nat.shiftRight_eq_div_pow]
  simp
theorem mulof_first : ∀ (d m a b p i : Nat), i + d = 8 → a < 256 → b < 256 → p < 32768 → quicksetref_mulOf.l0 (d + 1 + m) (a : Int) (b : Int) (p : Int) (i : Int) = quicksetref_mulOf.l1 m ((Gf.refP d a b p i : Nat) : Int) 14 ∧ Gf.refP d a b p i < 32768 := by
  intro d
  induction d with
  | zero =>
    intro m a b p i hi ha hb hp
    refine ⟨?_, hp⟩
    rw [show 0 + 1 + m = m + 1 from by omega]
    simp only [quicksetref_mulOf.l0]
    rw [if_neg (by omega)]
    rfl
  | succ d ih =>
    intro m a b p i hi ha hb hp
    have h2 : a * 2 ^ i < 32768 := by
      have : 2 ^ i ≤ 2 ^ 7 := Nat.pow_le_pow_right (by decide) (by omega)
      have := Nat.mul_le_mul (show a ≤ 255 by omega) this
      omega
    have hs : b >>> i < 65536 := by rw [Nat.shiftRight_eq_div_pow]; have := Nat.div_le_self b (2 ^ i); omega
    have hx : p ^^^ (a <<< i) < 32768 := by
      rw [Nat.shiftLeft_eq]; exact Nat.xor_lt_two_pow (n := 15) hp h2
    rw [show d + 1 + 1 + m = (d + 1 + m) + 1 from by omega]
    simp only [quicksetref_mulOf.l0, Gf.refP]
    rw [if_pos (by omega), if_pos (by omega), shr_nat (by omega), band1 hs, shl_nat (by omega) (by omega), wrap_id (by omega) (by omega), show ((i : Int) + 1) = ((i + 1 : Nat) : Int) from by omega]
    rcases Gf.bit_cases (b >>> i) with hb' | hb'
    · rw [if_neg (by rw [hb']; decide), hb', Nat.mul_zero, Nat.xor_zero]
      exact ih m a b p (i + 1) (by omega) ha hb hp
    · rw [if_pos (by rw [hb']; rfl), hb', Nat.mul_one, bxor (by omega) (by rw [Nat.shiftLeft_eq]; omega)]
      exact ih m a b _ (i + 1) (by omega) ha hb hx
theorem mulof_second : ∀ (d m p i : Nat), i = d + 7 → d ≤ 7 → p < 32768 → quicksetref_mulOf.l1 (d + 1 + m) (p : Int) (i : Int) = some ((Gf.refR d p i : Nat) : Int) := by
  intro d
  induction d with
  | zero =>
    intro m p i hi _ hp
    rw [show 0 + 1 + m = m + 1 from by omega]
    simp only [quicksetref_mulOf.l1]
    rw [if_neg (by omega)]
    rfl
  | succ d ih =>
    intro m p i hi hd hp
    have h2 : 285 * 2 ^ (i - 8) < 32768 := by
      have : 2 ^ (i - 8) ≤ 2 ^ 6 := Nat.pow_le_pow_right (by decide) (by omega)
      omega
    have hs : p >>> i < 65536 := by rw [Nat.shiftRight_eq_div_pow]; have := Nat.div_le_self p (2 ^ i); omega
    have hx : p ^^^ (285 <<< (i - 8)) < 32768 := by
      rw [Nat.shiftLeft_eq]; exact Nat.xor_lt_two_pow (n := 15) hp h2
    rw [show d + 1 + 1 + m = (d + 1 + m) + 1 from by omega]
    simp only [quicksetref_mulOf.l1, Gf.refR]
    rw [if_pos (by omega), if_pos (by omega), shr_nat (by omega), band1 hs, wrap_id (n := (i : Int) - 8) (by omega) (by omega), wrap_id (n := (i : Int) - 1) (by omega) (by omega), show ((i : Int) - 8) = ((i - 8 : Nat) : Int) from by omega, show ((i : Int) - 1) = ((i - 1 : Nat) : Int) from by omega,
      show (285 : Int) = ((285 : Nat) : Int) from rfl, shl_nat (by omega) (by omega)]
    rcases Gf.bit_cases (p >>> i) with hb' | hb'
    · rw [if_neg (by rw [hb']; decide), hb', Nat.mul_zero, Nat.xor_zero]
      exact ih m p (i - 1) (by omega) (by omega) hp
    · rw [if_pos (by rw [hb']; rfl), if_pos (by omega), hb', Nat.mul_one, bxor (by omega) (by rw [Nat.shiftLeft_eq]; omega)]
      exact ih m _ (i - 1) (by omega) (by omega) hx
theorem mulof_is {k a b : Nat} (ha : a < 256) (hb : b < 256) (hk : 17 ≤ k) : quicksetref_mulOf.f k (a : Int) (b : Int) = some ((Gf.mul a b : Nat) : Int) := by
  obtain ⟨m, rfl⟩ : ∃ m, k = 8 + 1 + (7 + 1 + m) := ⟨k - 17, by omega⟩
  obtain ⟨h1, h2⟩ := mulof_first 8 (7 + 1 + m) a b 0 0 rfl ha hb (by decide)
  rw [Gf.mul_ref ha hb]
  unfold quicksetref_mulOf.f
  exact h1.trans (mulof_second 7 m _ 14 rfl (Nat.le_refl _) h2)
theorem expof_loop : ∀ (d k n i : Nat), i + d = n % 255 → d + 17 ≤ k → quicksetref_expOf.l0 k (n : Int) ((Gf.pow 2 i : Nat) : Int) (i : Int) = some ((Gf.pow 2 (n % 255) : Nat) : Int) := by
  intro d
  induction d with
  | zero =>
    intro k n i hi hk
    obtain ⟨k, rfl⟩ : ∃ m, k = m + 1 := ⟨k - 1, by omega⟩
    simp only [quicksetref_expOf.l0]
    rw [if_neg (by rw [Int.tmod_eq_emod_of_nonneg (by omega)]; omega), ← hi]
    rfl
  | succ d ih =>
    intro k n i hi hk
    obtain ⟨k, rfl⟩ : ∃ m, k = m + 1 := ⟨k - 1, by omega⟩
    simp only [quicksetref_expOf.l0]
    rw [if_pos (by rw [Int.tmod_eq_emod_of_nonneg (by omega)]; omega), show (2 : Int) = ((2 : Nat) : Int) from rfl, mulof_is (Gf.pow_lt (by decide) i) (by decide) (by omega)]
    simp only [bsome]
    rw [wrap_id (by omega) (by omega), show ((i : Int) + 1) = ((i + 1 : Nat) : Int) from by omega]
    exact ih k n (i + 1) (by omega) (by omega)
theorem expof_is {k n : Nat} (hk : 300 ≤ k) : quicksetref_expOf.f k (n : Int) = some ((Gf.pow 2 n : Nat) : Int) := by
  have := expof_loop (n % 255) k n 0 (by omega) (by omega)
  rw [← Gf.two_pow_mod] at this
  exact this
/-! Lists that are read at whole numbers -/
theorem rd_cons (l : List Int) (i : Nat) (h : i < l.length) : l.drop i = rd l (i : Int) :: l.drop (i + 1) := by
  rw [List.drop_eq_getElem_cons h]
  congr 1
  show _ = l.getD ((i : Nat) : Int).toNat 0
  rw [Int.toNat_natCast, List.getD_eq_getElem?_getD, List.getElem?_eq_getElem h]
  rfl
theorem L1_cons (l : List (List Int)) (i : Nat) (h : i < l.length) : l.drop i = rd_L1 l (i : Int) :: l.drop (i + 1) := by
  rw [List.drop_eq_getElem_cons h]
  congr 1
  show _ = l.getD ((i : Nat) : Int).toNat []
  rw [Int.toNat_natCast, List.getD_eq_getElem?_getD, List.getElem?_eq_getElem h]
  rfl
theorem wrap_suc (i : Nat) (h : i < 9000000000000000000) : wrap64 ((i : Int) + 1) = ((i + 1 : Nat) : Int) := by rw [wrap_id (by omega) (by omega)]; omega
theorem L1_mem {l : List (List Int)} (i : Nat) (h : i < l.length) : rd_L1 l (i : Int) ∈ l := by
  have := L1_cons l i h
  have h2 : rd_L1 l (i : Int) ∈ l.drop i := by rw [this]; exact List.mem_cons_self
  exact List.mem_of_mem_drop h2
/-! Elements of the field, among numbers; sums of products -/
def elB (a : Int) : Bool := decide (0 ≤ a) && decide (a < 256)
theorem elB_nat {a : Int} (h : elB a = true) : a = ((a.toNat : Nat) : Int) ∧ a.toNat < 256 := by
  simp only [elB, Bool.and_eq_true, decide_eq_true_eq] at h
  omega
theorem rd_get (r : List Int) (i : Nat) (h : i < r.length) : rd r (i : Int) = r[i] := by
  show r.getD ((i : Nat) : Int).toNat 0 = _
  rw [Int.toNat_natCast, List.getD_eq_getElem?_getD, List.getElem?_eq_getElem h]
  rfl
theorem L1_get (r : List (List Int)) (i : Nat) (h : i < r.length) : rd_L1 r (i : Int) = r[i] := by
  show r.getD ((i : Nat) : Int).toNat [] = _
  rw [Int.toNat_natCast, List.getD_eq_getElem?_getD, List.getElem?_eq_getElem h]
  rfl
theorem all_rd {r : List Int} (h : r.all elB = true) {i : Nat} (hi : i < r.length) : elB (rd r (i : Int)) = true := by
  rw [rd_get r i hi]
  exact List.all_eq_true.1 h _ (List.getElem_mem hi)
def ev (r : List Int) (i : Nat) : Nat := (rd r (i : Int)).toNat
theorem ev_is {r : List Int} (h : r.all elB = true) {i : Nat} (hi : i < r.length) : rd r (i : Int) = (ev r i : Int) ∧ ev r i < 256 := elB_nat (all_rd h hi)
theorem wf_small {a : Nat} (h : a < 65536) : (Lit.int .i64 (a : Int)).wf = true := by
  simp only [Lit.wf, IntKind.min, IntKind.max, IntKind.signed, IntKind.bits, Bool.and_eq_true, decide_eq_true_eq, if_true]
  omega
def dotN (a b : Nat → Nat) : Nat → Nat
  | 0 => 0
  | n + 1 => dotN a b n ^^^ Gf.mul (a n) (b n)
theorem dotN_lt {a b : Nat → Nat} : ∀ {n : Nat}, (∀ i, i < n → a i < 256) → dotN a b n < 256
  | 0, _ => by simp [dotN]
  | n + 1, h => Gf.xor_lt (dotN_lt fun i hi => h i (by omega)) (Gf.mul_lt (h n (by omega)) _)
theorem bytes_all {r : List Int} (h : ∀ y ∈ r, (Lit.int .u8 y).wf = true) : r.all elB = true := by
  rw [List.all_eq_true]
  intro y hy
  have := h y hy
  simp only [Lit.wf, IntKind.min, IntKind.max, IntKind.signed, IntKind.bits, Bool.and_eq_true, decide_eq_true_eq] at this
  simp only [elB, Bool.and_eq_true, decide_eq_true_eq]
  simp at this
  omega
theorem bxor8 {a b : Nat} (ha : a < 256) (hb : b < 256) : Go.bits .xor .u8 (a : Int) (b : Int) = ((a ^^^ b : Nat) : Int) := by
  have hx : a ^^^ b < 256 := Nat.xor_lt_two_pow (n := 8) ha hb
  have e : (BitVec.ofInt 8 (a : Int) ^^^ BitVec.ofInt 8 (b : Int)).toNat = a ^^^ b := by
    rw [BitVec.ofInt_natCast, BitVec.ofInt_natCast, BitVec.toNat_xor, BitVec.toNat_ofNat, BitVec.toNat_ofNat, Nat.mod_eq_of_lt (show a < 2 ^ 8 from ha), Nat.mod_eq_of_lt (show b < 2 ^ 8 from hb)]
  show IntKind.u8.wrap (((BitVec.ofInt 8 (a : Int) ^^^ BitVec.ofInt 8 (b : Int)).toNat : Nat) : Int) = _
  rw [e, IntKind.wrap_u8]
  omega
theorem gfmul_is {k a b : Nat} (ha : a < 256) (hb : b < 256) (hk : 12 ≤ k) : gf_Mul.f k (a : Int) (b : Int) = some (((Gf.mul a b : Nat) : Int), 0) := by
  obtain ⟨j, rfl⟩ : ∃ j, k = j + 3 := ⟨k - 3, by omega⟩
  unfold gf_Mul.f
  rw [bad_two j _ _ (wf_small (by omega)) (wf_small (by omega)), bsome, isEl_true (by omega), isEl_true (by omega), times_is ha hb (by omega), bsome]
  rfl
def evenOne (n : Nat) (b : List Int) : Bool := decide (b.length = n) && decide (b.length ≤ 4096)
def evenB (l : List (List Int)) : Bool := l.all (evenOne (rd_L1 l 0).length)
theorem even_loop (l : List (List Int)) (hl : l.length < 1000000000000000) : ∀ d i, i + d = l.length → ∃ k, par_even.l0 k l l (l.length : Int) (i : Int) = some ((l.drop i).all (evenOne (rd_L1 l 0).length))
  | 0, i, hi => ⟨1, by simp only [par_even.l0]; rw [if_neg (by omega), List.drop_eq_nil_of_le (by omega)]; rfl⟩
  | d + 1, i, hi => by
    obtain ⟨k, hk⟩ := even_loop l hl d (i + 1) (by omega)
    refine ⟨k + 1, ?_⟩
    simp only [par_even.l0]
    rw [if_pos (by omega), if_pos (by omega), if_pos (by omega), if_pos (by omega), wrap_suc i (by omega), hk, L1_cons l i (by omega), List.all_cons]
    by_cases h0 : ((rd_L1 l i).length : Int) = ((rd_L1 l 0).length : Int)
    · rw [if_pos h0]
      by_cases h2 : ((rd_L1 l i).length : Int) > 4096
      · rw [if_pos h2]; simp [evenOne, show ¬ (rd_L1 l i).length ≤ 4096 from by omega]
      · rw [if_neg h2]
        simp [evenOne, show (rd_L1 l i).length = (rd_L1 l 0).length from by omega, show (rd_L1 l 0).length ≤ 4096 from by omega]
    · rw [if_neg h0]; simp [evenOne, show ¬ (rd_L1 l i).length = (rd_L1 l 0).length from by omega]
theorem even_is (l : List (List Int)) (hl : l.length < 1000000000000000) : ∃ k, par_even.f k l = some (evenB l) := by
  have := even_loop l hl l.length 0 (by omega)
  simpa [par_even.f, evenB] using this
def pmayB (l : List (List Int)) : Bool := decide (1 ≤ l.length) && decide (l.length ≤ 12) && evenB l
theorem parmay_is (l : List (List Int)) (hl : l.length < 1000000000000000) : ∃ k, par_May.f k l = some (pmayB l) := by
  obtain ⟨k, hk⟩ := even_is l hl
  refine ⟨k, ?_⟩
  unfold par_May.f
  by_cases h0 : (l.length : Int) > 0
  · rw [if_pos h0]
    by_cases h1 : (l.length : Int) ≤ 12
    · rw [if_pos h1, hk, bsome]; simp [pmayB, show 1 ≤ l.length from by omega, show l.length ≤ 12 from by omega]
    · rw [if_neg h1]; simp [pmayB, show ¬ l.length ≤ 12 from by omega]
  · rw [if_neg h0]; simp [pmayB, show ¬ 1 ≤ l.length from by omega]
theorem refpar_loop (l : List (List Int)) (hl : l.length < 1000000000000000) : ∀ d i, i + d = l.length → ∃ k, quicksetref_ParMay.l0 k l l (l.length : Int) (i : Int) = some ((l.drop i).all (evenOne (rd_L1 l 0).length))
  | 0, i, hi => ⟨1, by simp only [quicksetref_ParMay.l0]; rw [if_neg (by omega), List.drop_eq_nil_of_le (by omega)]; rfl⟩
  | d + 1, i, hi => by
    obtain ⟨k, hk⟩ := refpar_loop l hl d (i + 1) (by omega)
    refine ⟨k + 1, ?_⟩
    simp only [quicksetref_ParMay.l0]
    rw [if_pos (by omega), if_pos (by omega), if_pos (by omega), if_pos (by omega), wrap_suc i (by omega), hk, L1_cons l i (by omega), List.all_cons]
    by_cases h0 : ((rd_L1 l i).length : Int) = ((rd_L1 l 0).length : Int)
    · rw [if_pos h0]
      by_cases h2 : ((rd_L1 l i).length : Int) > 4096
      · rw [if_pos h2]; simp [evenOne, show ¬ (rd_L1 l i).length ≤ 4096 from by omega]
      · rw [if_neg h2]
        simp [evenOne, show (rd_L1 l i).length = (rd_L1 l 0).length from by omega, show (rd_L1 l 0).length ≤ 4096 from by omega]
    · rw [if_neg h0]; simp [evenOne, show ¬ (rd_L1 l i).length = (rd_L1 l 0).length from by omega]
theorem refparmay_is (l : List (List Int)) : ∃ k, quicksetref_ParMay.f k l = some (pmayB l) := by
  by_cases h0 : (l.length : Int) < 1
  · refine ⟨1, ?_⟩
    simp only [quicksetref_ParMay.f, quicksetref_ParMay.j0]
    rw [if_pos h0, if_pos trivial]; simp [pmayB, show ¬ 1 ≤ l.length from by omega]
  · by_cases h1 : (l.length : Int) > 12
    · refine ⟨1, ?_⟩
      simp only [quicksetref_ParMay.f, quicksetref_ParMay.j0]
      rw [if_neg h0, if_pos (by simpa using h1)]; simp [pmayB, show ¬ l.length ≤ 12 from by omega]
    · obtain ⟨k, hk⟩ := refpar_loop l (by omega) l.length 0 (by omega)
      refine ⟨k + 1, ?_⟩
      simp only [quicksetref_ParMay.f, quicksetref_ParMay.j0]
      rw [if_neg h0, if_neg (by simpa using h1), show (0 : Int) = ((0 : Nat) : Int) from rfl, hk]
      simp [pmayB, evenB, show 1 ≤ l.length from by omega, show l.length ≤ 12 from by omega]
/-! What a parity column is: at each place the sum of the data columns' bytes, each times a power of 2 -/
def col (d : List (List Int)) (c : Nat) (i : Nat) : Nat := ev (rd_L1 d (i : Int)) c
def fac (j : Nat) (i : Nat) : Nat := Gf.pow 2 (j * i)
def encAt (d : List (List Int)) (j n : Nat) : List Int := (List.range (rd_L1 d 0).length).map fun (c : Nat) => ((dotN (fac j) (col d c) n : Nat) : Int)
theorem fac_lt (j i : Nat) : fac j i < 256 := Gf.pow_lt (by decide) _
theorem factor_is {k j i : Nat} (hj : j ≤ 100) (hi : i ≤ 100) (hk : 80 ≤ k) : par_factor.f k (j : Int) (i : Int) = some ((fac j i : Nat) : Int) := by
  have hm : j * i ≤ 10000 := Nat.le_trans (Nat.mul_le_mul hj hi) (by decide)
  obtain ⟨q, rfl⟩ : ∃ q, k = q + 2 := ⟨k - 2, by omega⟩
  have e : wrap64 ((i : Int) * (j : Int)) = ((j * i : Nat) : Int) := by
    rw [show (i : Int) * (j : Int) = ((j * i : Nat) : Int) from by rw [Nat.mul_comm]; simp]
    exact wrap_id (by omega) (by omega)
  unfold par_factor.f gf_Exp.f gf_Pow.f
  rw [e, show (2 : Int) = ((2 : Nat) : Int) from rfl, bad_one q _ (wf_small (by decide)), bsome, isEl_true (by omega), if_neg (by decide), if_neg (by omega), power_is (by decide) (by omega) (by omega), bsome, bsome, bsome]
  rfl
def tabN (x n : Nat) : List Int := (List.range n).map fun (i : Nat) => ((Gf.mul x i : Nat) : Int)
theorem tab_is {k x : Nat} (hx : x < 256) (hk : 12 ≤ k) : ∀ n, n ≤ 256 → par_mix.tab k (x : Int) n = some (tabN x n)
  | 0, _ => rfl
  | n + 1, hn => by
    unfold par_mix.tab
    rw [tab_is hx hk n (by omega), bsome, gfmul_is hx (by omega) hk, bsome, tabN, tabN, List.range_succ, List.map_append]
    have := Gf.mul_lt hx n
    rw [show (((Gf.mul x n : Nat) : Int), (0 : Int)).1 % 256 = ((Gf.mul x n : Nat) : Int) from by show ((Gf.mul x n : Nat) : Int) % 256 = _; omega]
    rfl
theorem tab_at (x i : Nat) (hi : i < 256) : rd (tabN x 256) (i : Int) = ((Gf.mul x i : Nat) : Int) := by
  rw [rd_get _ _ (by simp [tabN]; omega)]
  simp [tabN]
/-- Column i is mixed in, up to place c. -/
def encMix (d : List (List Int)) (j i c : Nat) : List Int := (List.range (rd_L1 d 0).length).map fun (q : Nat) => ((dotN (fac j) (col d q) (if q < c then i + 1 else i) : Nat) : Int)
theorem encMix_len (d : List (List Int)) (j i c : Nat) : (encMix d j i c).length = (rd_L1 d 0).length := by simp [encMix]
theorem encMix_zero (d : List (List Int)) (j i : Nat) : encMix d j i 0 = encAt d j i := by simp [encMix, encAt]
theorem encMix_full (d : List (List Int)) (j i : Nat) : encMix d j i (rd_L1 d 0).length = encAt d j (i + 1) := by
  refine List.ext_getElem (by simp [encMix, encAt]) (fun q h1 h2 => ?_)
  simp only [encMix, encAt, List.getElem_map, List.getElem_range]
  rw [if_pos (by simpa [encMix] using h1)]
section
variable (d : List (List Int)) (hd : ∀ i, i < d.length → (rd_L1 d (i : Int)).length = (rd_L1 d 0).length ∧ (rd_L1 d (i : Int)).all elB = true)
include hd
theorem mixN_is (j i : Nat) (hi : i < d.length) : ∀ c, c ≤ (rd_L1 d 0).length → par_mix.mixN (tabN (fac j i) 256) (rd_L1 d (i : Int)) c (encAt d j i) = encMix d j i c
  | 0, _ => by rw [encMix_zero]; rfl
  | c + 1, hc => by
    have e1 := ev_is (hd i hi).2 (i := c) (by rw [(hd i hi).1]; omega)
    have e2 := dotN_lt (a := fac j) (b := col d c) (n := i) (fun q _ => fac_lt j q)
    have e3 : rd (encMix d j i c) (c : Int) = ((dotN (fac j) (col d c) i : Nat) : Int) := by
      rw [rd_get _ _ (by rw [encMix_len]; omega)]
      simp [encMix]
    unfold par_mix.mixN
    rw [mixN_is j i hi c (by omega), e3, e1.1, tab_at _ _ e1.2, bxor8 e2 (Gf.mul_lt (fac_lt j i) _)]
    refine List.ext_getElem (by simp [encMix]) (fun q h1 h2 => ?_)
    rw [List.getElem_set]
    simp only [encMix, List.getElem_map, List.getElem_range]
    by_cases e : c = q
    · subst e; rw [if_pos rfl, if_pos (by omega)]; rfl
    · rw [if_neg e]
      by_cases e4 : q < c
      · rw [if_pos e4, if_pos (by omega)]
      · rw [if_neg e4, if_neg (by omega)]
theorem mix_is {k : Nat} (hk : 12 ≤ k) (j i : Nat) (hi : i < d.length) (hs : (rd_L1 d 0).length ≤ 4096) : par_mix.f k (encAt d j i) (rd_L1 d (i : Int)) ((fac j i : Nat) : Int) = some (encAt d j (i + 1)) := by
  unfold par_mix.f
  rw [tab_is (fac_lt j i) hk 256 (Nat.le_refl _), bsome, if_pos ⟨by rw [(hd i hi).1]; simp [encAt], by rw [(hd i hi).1]; omega, (hd i hi).2⟩, (hd i hi).1, mixN_is d hd j i hi _ (Nat.le_refl _), encMix_full]
theorem encode_loop (j : Nat) (hj : j ≤ 100) (h12 : d.length ≤ 12) (hs : (rd_L1 d 0).length ≤ 4096) : ∀ m i, i + m = d.length → ∃ k, par_encode.l0 k (j : Int) (encAt d j i) d (d.length : Int) (i : Int) = some (encAt d j d.length)
  | 0, i, hi => ⟨1, by rw [par_encode.l0, if_neg (by omega), show i = d.length from by omega]⟩
  | m + 1, i, hi => by
    obtain ⟨k0, hk⟩ := encode_loop j hj h12 hs m (i + 1) (by omega)
    have hk := at_rounds (fun k => par_encode.mono_l k _ _ _ _ _) (show k0 ≤ k0 + 80 by omega) hk
    refine ⟨k0 + 80 + 1, ?_⟩
    rw [par_encode.l0, if_pos (by omega), if_pos (by omega), if_pos (by omega), factor_is hj (by omega) (by omega), bsome, mix_is d hd (by omega) j i (by omega) hs, bsome, wrap_suc i (by omega)]
    exact hk
theorem encode_is (j : Nat) (hj : j ≤ 100) (h1 : 1 ≤ d.length) (h12 : d.length ≤ 12) (hs : (rd_L1 d 0).length ≤ 4096) : ∃ k, par_encode.f k d (j : Int) = some (encAt d j d.length) := by
  obtain ⟨k, hk⟩ := encode_loop d hd j hj h12 hs d.length 0 (by omega)
  refine ⟨k, ?_⟩
  unfold par_encode.f
  rw [if_pos (by omega), if_pos (by omega), if_pos (by omega), Int.toNat_natCast]
  rw [show encAt d j 0 = List.replicate (rd_L1 d 0).length 0 from by
    refine List.ext_getElem (by simp [encAt]) (fun q h1 h2 => ?_)
    simp [encAt, dotN]] at hk
  exact hk
def parity (d : List (List Int)) (p : Nat) : List (List Int) := (List.range p).map fun (j : Nat) => encAt d j d.length
theorem encodes_loop (p : Nat) (hp : p ≤ 100) (h1 : 1 ≤ d.length) (h12 : d.length ≤ 12) (hs : (rd_L1 d 0).length ≤ 4096) : ∀ m j, j + m = p → ∃ k, par_Encode.l0 k d (parity d j) (p : Int) (j : Int) = some (parity d p, 0)
  | 0, j, hj => ⟨1, by rw [par_Encode.l0, if_neg (by omega), show j = p from by omega]⟩
  | m + 1, j, hj => by
    obtain ⟨k, hk, he⟩ := together (fun k => par_Encode.mono_l k _ _ _ _) (fun k => par_encode.mono _ _ k) (encodes_loop p hp h1 h12 hs m (j + 1) (by omega)) (encode_is d hd j (by omega) h1 h12 hs)
    refine ⟨k + 1, ?_⟩
    rw [par_Encode.l0, if_pos (by omega), he, bsome, if_pos (by simp [parity]; omega), wrap_suc j (by omega)]
    rw [show parity d (j + 1) = parity d j ++ [encAt d j d.length] from by simp [parity, List.range_succ]] at hk
    exact hk
end
def encB (d : List (List Int)) (p : Int) : List (List Int) × Int := if pmayB d = true then (if 1 ≤ p ∧ p ≤ 3 then (parity d p.toNat, 0) else ([], 2)) else ([], 4)
theorem pmay_rows {d : List (List Int)} (h : pmayB d = true) (hb : ∀ r ∈ d, r.all elB = true) : 1 ≤ d.length ∧ d.length ≤ 12 ∧ (rd_L1 d 0).length ≤ 4096 ∧ ∀ i, i < d.length → (rd_L1 d (i : Int)).length = (rd_L1 d 0).length ∧ (rd_L1 d (i : Int)).all elB = true := by
  simp only [pmayB, evenB, Bool.and_eq_true, decide_eq_true_eq, List.all_eq_true] at h
  have hr : ∀ i, i < d.length → evenOne (rd_L1 d 0).length (rd_L1 d (i : Int)) = true := fun i hi => h.2 _ (L1_mem i hi)
  have h0 := hr 0 (by omega)
  simp only [evenOne, Bool.and_eq_true, decide_eq_true_eq] at h0 hr
  exact ⟨h.1.1, h.1.2, h0.2, fun i hi => ⟨(hr i hi).1, hb _ (L1_mem i hi)⟩⟩
theorem encodes_is (d : List (List Int)) (p : Int) (hl : d.length < 1000000000000000) (hb : ∀ r ∈ d, r.all elB = true) : ∃ k, par_Encode.f k d p = some (encB d p) := by
  obtain ⟨k0, h0⟩ := parmay_is d hl
  unfold encB
  by_cases c1 : pmayB d = true
  · obtain ⟨g1, g2, g3, g4⟩ := pmay_rows c1 hb
    rw [if_pos c1]
    by_cases c2 : 1 ≤ p ∧ p ≤ 3
    · rw [if_pos c2]
      obtain ⟨q, rfl⟩ : ∃ q : Nat, p = (q : Int) := ⟨p.toNat, by omega⟩
      obtain ⟨k, h1, h2⟩ := together (fun k => par_May.mono d k) (fun k => par_Encode.mono_l k _ _ _ _) ⟨k0, h0⟩ (encodes_loop d g4 q (by omega) g1 g2 g3 q 0 (by omega))
      refine ⟨k, ?_⟩
      unfold par_Encode.f par_some.f
      rw [h1, bsome, if_pos c1, if_pos (by omega), bsome, if_pos (by simp; omega)]
      exact h2
    · rw [if_neg c2]
      refine ⟨k0, ?_⟩
      unfold par_Encode.f par_some.f
      rw [h0, bsome, if_pos c1]
      by_cases c3 : p ≥ 1
      · rw [if_pos c3, bsome, if_neg (by simp; omega)]
      · rw [if_neg c3, bsome, if_neg (by decide)]
  · rw [if_neg c1]
    refine ⟨k0, ?_⟩
    unfold par_Encode.f
    rw [h0, bsome, if_neg c1]
def pre (d : List (List Int)) (j c : Nat) : List Int := (List.range c).map fun (q : Nat) => ((dotN (fac j) (col d q) d.length : Nat) : Int)
def fillP (d : List (List Int)) (p j : Nat) : List (List Int) := parity d j ++ List.replicate (p - j) []
theorem fillP_len (d : List (List Int)) (p j : Nat) (h : j ≤ p) : (fillP d p j).length = p := by simp [fillP, parity]; omega
theorem fillP_next (d : List (List Int)) (p j : Nat) (h : j < p) : (fillP d p j).set j (encAt d j d.length) = fillP d p (j + 1) := by
  unfold fillP parity
  rw [List.set_append_right (h := by simp)]
  simp only [List.length_map, List.length_range, Nat.sub_self, List.range_succ, List.map_append, List.append_assoc, List.map_cons, List.map_nil, List.cons_append, List.nil_append]
  congr 1
  obtain ⟨e, he⟩ : ∃ e, p - j = e + 1 := ⟨p - j - 1, by omega⟩
  rw [he, show p - (j + 1) = e from by omega, List.replicate_succ, List.set_cons_zero]
theorem fillP_start (d : List (List Int)) (p j : Nat) (h : j < p) : (fillP d p j).set j (pre d j 0) = fillP d p j := by
  unfold fillP parity
  rw [List.set_append_right (h := by simp)]
  obtain ⟨e, he⟩ : ∃ e, p - j = e + 1 := ⟨p - j - 1, by omega⟩
  rw [he, List.replicate_succ]
  simp [pre]
theorem L1_set_same (x : List (List Int)) (i : Nat) (a : List Int) (h : i < x.length) : rd_L1 (x.set i a) (i : Int) = a := by
  rw [L1_get _ _ (by simpa using h), List.getElem_set_self]
section
variable (d : List (List Int)) (hd : ∀ i, i < d.length → (rd_L1 d (i : Int)).length = (rd_L1 d 0).length ∧ (rd_L1 d (i : Int)).all elB = true) (h1 : 1 ≤ d.length) (h12 : d.length ≤ 12) (hs : (rd_L1 d 0).length ≤ 4096) (p : Nat) (hp : p ≤ 100) (R : List (List Int) × Int)
include hd h12 hs hp
theorem refenc_in (Y : List (List Int)) (hY : Y.length = p) (j c : Nat) (hj : j < p) (hc : c < (rd_L1 d 0).length) (hn : ∃ k, quicksetref_ParEncode.l1 k d (Y.set j (pre d j (c + 1))) (j : Int) (p : Int) (j : Int) ((rd_L1 d 0).length : Int) ((c + 1 : Nat) : Int) = some R) :
    ∀ m i, i + m = d.length → ∃ k, quicksetref_ParEncode.l2 k d (Y.set j (pre d j c)) (j : Int) (c : Int) ((dotN (fac j) (col d c) i : Nat) : Int) (p : Int) (j : Int) ((rd_L1 d 0).length : Int) (c : Int) (d.length : Int) (i : Int) = some R
  | 0, i, hi => by
    obtain ⟨k, hk⟩ := hn
    refine ⟨k + 1, ?_⟩
    have e2 := dotN_lt (a := fac j) (b := col d c) (n := i) (fun q _ => fac_lt j q)
    rw [quicksetref_ParEncode.l2, if_neg (by omega), if_pos (by omega), if_pos (by rw [List.length_set]; omega), L1_set_same _ _ _ (by omega), if_pos (by simp [pre]; omega), wrap_suc c (by omega), Int.toNat_natCast, List.set_set, show (((dotN (fac j) (col d c) i : Nat) : Int)) % 256 = ((dotN (fac j) (col d c) d.length : Nat) : Int) from by rw [show i = d.length from by omega] at e2 ⊢; omega]
    rw [show pre d j (c + 1) = pre d j c ++ [((dotN (fac j) (col d c) d.length : Nat) : Int)] from by simp [pre, List.range_succ]] at hk
    exact hk
  | m + 1, i, hi => by
    obtain ⟨k0, hk⟩ := refenc_in Y hY j c hj hc hn m (i + 1) (by omega)
    have hk := at_rounds (fun k => (quicksetref_ParEncode.mono_l k).2.2.2 _ _ _ _ _ _ _ _ _ _ _) (show k0 ≤ k0 + 300 by omega) hk
    have hm : j * i ≤ 10000 := Nat.le_trans (Nat.mul_le_mul (show j ≤ 100 by omega) (show i ≤ 100 by omega)) (by decide)
    have e1 := ev_is (hd i (by omega)).2 (i := c) (by rw [(hd i (by omega)).1]; omega)
    have e2 := dotN_lt (a := fac j) (b := col d c) (n := i) (fun q _ => fac_lt j q)
    have e : wrap64 ((j : Int) * (i : Int)) = ((j * i : Nat) : Int) := by
      rw [show (j : Int) * (i : Int) = ((j * i : Nat) : Int) from by simp]
      exact wrap_id (by omega) (by omega)
    refine ⟨k0 + 300 + 1, ?_⟩
    rw [quicksetref_ParEncode.l2, if_pos (by omega), e, expof_is (by omega), bsome, if_pos (by omega), if_pos (by omega), if_pos (by omega), if_pos (by rw [(hd i (by omega)).1]; omega), e1.1, wrap_id (n := ((ev (rd_L1 d (i : Int)) c : Nat) : Int)) (by omega) (by omega), show Gf.pow 2 (j * i) = fac j i from rfl, mulof_is (fac_lt j i) e1.2 (by omega), bsome, bxor (by omega) (by have := Gf.mul_lt (fac_lt j i) (ev (rd_L1 d (i : Int)) c); omega), wrap_suc i (by omega)]
    exact hk
theorem refenc_row (Y : List (List Int)) (hY : Y.length = p) (j : Nat) (hj : j < p) (hn : ∃ k, quicksetref_ParEncode.l0 k d (Y.set j (encAt d j d.length)) (p : Int) ((j + 1 : Nat) : Int) = some R) :
    ∀ m c, c + m = (rd_L1 d 0).length → ∃ k, quicksetref_ParEncode.l1 k d (Y.set j (pre d j c)) (j : Int) (p : Int) (j : Int) ((rd_L1 d 0).length : Int) (c : Int) = some R
  | 0, c, hc => by
    obtain ⟨k, hk⟩ := hn
    refine ⟨k + 1, ?_⟩
    rw [quicksetref_ParEncode.l1, if_neg (by omega), wrap_suc j (by omega), show c = (rd_L1 d 0).length from by omega]
    exact hk
  | m + 1, c, hc => by
    obtain ⟨k, hk⟩ := refenc_in d hd h12 hs p hp R Y hY j c hj (by omega) (refenc_row Y hY j hj hn m (c + 1) (by omega)) d.length 0 (by omega)
    refine ⟨k + 1, ?_⟩
    rw [quicksetref_ParEncode.l1, if_pos (by omega)]
    exact hk
include h1
theorem refenc_all : ∀ m j, j + m = p → ∃ k, quicksetref_ParEncode.l0 k d (fillP d p j) (p : Int) (j : Int) = some (parity d p, 0)
  | 0, j, hj => ⟨1, by rw [quicksetref_ParEncode.l0, if_neg (by omega), show j = p from by omega]; simp [fillP]⟩
  | m + 1, j, hj => by
    have hn := refenc_all m (j + 1) (by omega)
    rw [← fillP_next d p j (by omega)] at hn
    obtain ⟨k, hk⟩ := refenc_row d hd h12 hs p hp _ (fillP d p j) (fillP_len d p j (by omega)) j (by omega) hn (rd_L1 d 0).length 0 (by omega)
    rw [fillP_start d p j (by omega)] at hk
    refine ⟨k + 1, ?_⟩
    rw [quicksetref_ParEncode.l0, if_pos (by omega), if_pos (by omega)]
    exact hk
end
theorem refenc_is (d : List (List Int)) (p : Int) (hl : d.length < 1000000000000000) (hb : ∀ r ∈ d, r.all elB = true) : ∃ k, quicksetref_ParEncode.f k d p = some (encB d p) := by
  obtain ⟨k0, h0⟩ := refparmay_is d
  have q0 := at_rounds (fun k => quicksetref_ParMay.mono d k) (show k0 ≤ k0 + 1 by omega) h0
  unfold encB
  by_cases c1 : pmayB d = true
  · obtain ⟨g1, g2, g3, g4⟩ := pmay_rows c1 hb
    rw [if_pos c1]
    by_cases c2 : 1 ≤ p ∧ p ≤ 3
    · rw [if_pos c2]
      obtain ⟨q, rfl⟩ : ∃ q : Nat, p = (q : Int) := ⟨p.toNat, by omega⟩
      obtain ⟨k1, h1⟩ := refenc_all d g4 g1 g2 g3 q (by omega) q 0 (by omega)
      have q1 := at_rounds (fun k => (quicksetref_ParEncode.mono_l k).2.1 _ _ _ _) (show k1 ≤ k0 + k1 by omega) h1
      have q2 := at_rounds (fun k => quicksetref_ParMay.mono d k) (show k0 ≤ k0 + k1 + 1 by omega) h0
      refine ⟨k0 + k1 + 1, ?_⟩
      unfold quicksetref_ParEncode.f
      rw [q2, bsome, if_pos c1, if_neg (by omega), quicksetref_ParEncode.j0, if_neg (by simp; omega), if_pos (by omega), if_pos (by omega), bsome, Int.toNat_natCast, List.length_replicate]
      rw [show fillP d q 0 = List.replicate q [] from by simp [fillP, parity]] at q1
      exact q1
    · rw [if_neg c2]
      refine ⟨k0 + 1, ?_⟩
      unfold quicksetref_ParEncode.f
      rw [q0, bsome, if_pos c1]
      by_cases c3 : p < 1
      · rw [if_pos c3, quicksetref_ParEncode.j0, if_pos rfl]
      · rw [if_neg c3, quicksetref_ParEncode.j0, if_pos (by simp; omega)]
  · rw [if_neg c1]
    refine ⟨k0, ?_⟩
    unfold quicksetref_ParEncode.f
    rw [h0, bsome, if_neg c1]
theorem same_bloop (a : List Int) (hl : a.length < 1000000000000000) : ∀ d i, i + d = a.length → ∃ k, quicksetlaw_sameBytes.l0 k a a (i : Int) = some true
  | 0, i, hi => ⟨1, by rw [quicksetlaw_sameBytes.l0, if_neg (by omega)]⟩
  | d + 1, i, hi => by
    obtain ⟨k, hk⟩ := same_bloop a hl d (i + 1) (by omega)
    refine ⟨k + 1, ?_⟩
    rw [quicksetlaw_sameBytes.l0, if_pos (by omega), if_pos (by omega), if_pos (by omega), if_pos rfl, wrap_suc i (by omega), hk]
theorem same_bytes (a : List Int) (hl : a.length < 1000000000000000) : ∃ k, quicksetlaw_sameBytes.f k a a = some true := by
  obtain ⟨k, hk⟩ := same_bloop a hl a.length 0 (by omega)
  refine ⟨k, ?_⟩
  unfold quicksetlaw_sameBytes.f
  rw [if_pos rfl]
  exact hk
theorem same_lloop (a : List (List Int)) (hl : a.length < 1000000000000000) (hr : ∀ r ∈ a, r.length < 1000000000000000) : ∀ d i, i + d = a.length → ∃ k, quicksetlaw_sameLists.l0 k a a (i : Int) = some true
  | 0, i, hi => ⟨1, by rw [quicksetlaw_sameLists.l0, if_neg (by omega)]⟩
  | d + 1, i, hi => by
    obtain ⟨k, hk, hs⟩ := together (fun k => quicksetlaw_sameLists.mono_l k _ _ _) (fun k => quicksetlaw_sameBytes.mono _ _ k) (same_lloop a hl hr d (i + 1) (by omega)) (same_bytes (rd_L1 a (i : Int)) (hr _ (L1_mem i (by omega))))
    refine ⟨k + 1, ?_⟩
    rw [quicksetlaw_sameLists.l0, if_pos (by omega), if_pos (by omega), if_pos (by omega), hs, bsome, if_pos rfl, wrap_suc i (by omega), hk]
theorem same_lists (a : List (List Int)) (hl : a.length < 1000000000000000) (hr : ∀ r ∈ a, r.length < 1000000000000000) : ∃ k, quicksetlaw_sameLists.f k a a = some true := by
  obtain ⟨k, hk⟩ := same_lloop a hl hr a.length 0 (by omega)
  refine ⟨k, ?_⟩
  unfold quicksetlaw_sameLists.f
  rw [if_pos rfl]
  exact hk
end Go.Proofs.Ytpaenlplpaabjaa.Par
