/- The field of 256 elements, over plain numbers: no Go in it. Its product is a sum of doublings; sums, products, powers and inverses obey the field's laws. No conditions. -/
set_option linter.unusedVariables false
namespace Go.Proofs.Ytpaenlplpaabjaa.Gf

def xt (a : Nat) : Nat := (2 * a) ^^^ (285 * (a / 128))
def mulL : Nat → Nat → Nat → Nat → Nat
  | 0, _, _, o => o
  | k + 1, a, b, o => mulL k (xt a) (b / 2) (o ^^^ (a * (b % 2)))
def mul (a b : Nat) : Nat := mulL 8 a b 0

/-- The product of polynomials, then the long division. -/
def refP : Nat → Nat → Nat → Nat → Nat → Nat
  | 0, _, _, p, _ => p
  | k + 1, a, b, p, i => refP k a b (p ^^^ ((a <<< i) * ((b >>> i) % 2))) (i + 1)
def refR : Nat → Nat → Nat → Nat
  | 0, p, _ => p
  | k + 1, p, i => refR k (p ^^^ ((285 <<< (i - 8)) * ((p >>> i) % 2))) (i - 1)
def refMul (a b : Nat) : Nat := refR 7 (refP 8 a b 0 0) 14

/-- Whether all pairs pass. -/
def allB (p : Nat → Bool) : Nat → Bool
  | 0 => true
  | n + 1 => p n && allB p n
theorem allB_at {p : Nat → Bool} : ∀ {n : Nat}, allB p n = true → ∀ i, i < n → p i = true
  | 0, _, i, hi => absurd hi (Nat.not_lt_zero i)
  | n + 1, h, i, hi => by
    simp only [allB, Bool.and_eq_true] at h
    rcases Nat.lt_or_ge i n with hl | hl
    · exact allB_at h.2 i hl
    · have : i = n := by omega
      subst this; exact h.1
/-- Sums of bits: what two sum-keeping functions tell of the powers of two, they tell of all. -/
theorem xor_lt {a b : Nat} (ha : a < 256) (hb : b < 256) : a ^^^ b < 256 := Nat.xor_lt_two_pow (n := 8) ha hb
def topOk (a : Nat) : Bool := Nat.beq a 0 || (Nat.beq ((2 ^ a.log2) ^^^ (a - 2 ^ a.log2)) a && Nat.blt (a - 2 ^ a.log2) a && Nat.blt a.log2 8)
theorem top_ok {a : Nat} (h0 : 0 < a) (ha : a < 256) : (2 ^ a.log2) ^^^ (a - 2 ^ a.log2) = a ∧ a - 2 ^ a.log2 < a ∧ a.log2 < 8 := by
  have h : allB topOk 256 = true := by decide +kernel
  have h := allB_at h a ha
  simp only [topOk, Bool.or_eq_true, Bool.and_eq_true, Nat.beq_eq, Nat.blt_eq] at h
  rcases h with h | h
  · omega
  · exact ⟨h.1.1, h.1.2, h.2⟩
theorem additive_ext {f g : Nat → Nat} (hf : ∀ a b, a < 256 → b < 256 → f (a ^^^ b) = f a ^^^ f b) (hg : ∀ a b, a < 256 → b < 256 → g (a ^^^ b) = g a ^^^ g b)
    (h : ∀ i, i < 8 → f (2 ^ i) = g (2 ^ i)) : ∀ a, a < 256 → f a = g a := by
  intro a
  induction a using Nat.strongRecOn with
  | ind a ih =>
    intro ha
    rcases Nat.eq_zero_or_pos a with h0 | h0
    · subst h0
      have e1 := hf 0 0 (by decide) (by decide)
      have e2 := hg 0 0 (by decide) (by decide)
      simp only [Nat.xor_self] at e1 e2
      rw [e1, e2]
    · obtain ⟨h1, h2, h3⟩ := top_ok h0 ha
      have h4 : 2 ^ a.log2 < 256 := Nat.lt_of_le_of_lt (Nat.pow_le_pow_right (by decide) (show a.log2 ≤ 7 by omega)) (by decide)
      have e1 := hf (2 ^ a.log2) (a - 2 ^ a.log2) h4 (by omega)
      have e2 := hg (2 ^ a.log2) (a - 2 ^ a.log2) h4 (by omega)
      rw [h1] at e1 e2
      rw [e1, e2, h _ h3, ih _ h2 (by omega)]
theorem xor_swap (a b c d : Nat) : (a ^^^ b) ^^^ (c ^^^ d) = (a ^^^ c) ^^^ (b ^^^ d) := by
  rw [Nat.xor_assoc, Nat.xor_assoc, ← Nat.xor_assoc b, Nat.xor_comm b c, Nat.xor_assoc c]
theorem bit_cases (b : Nat) : b % 2 = 0 ∨ b % 2 = 1 := by omega
theorem xor_mod2 (a b : Nat) : (a ^^^ b) % 2 = (a % 2) ^^^ (b % 2) := Nat.xor_mod_two_pow (n := 1)
theorem xor_div2 (a b : Nat) : (a ^^^ b) / 2 = (a / 2) ^^^ (b / 2) := by
  have := Nat.shiftRight_xor_distrib (a := a) (b := b) (i := 1)
  simpa [Nat.shiftRight_eq_div_pow] using this
theorem mul_bits (a b c : Nat) : a * ((b % 2) ^^^ (c % 2)) = a * (b % 2) ^^^ a * (c % 2) := by
  rcases bit_cases b with h | h <;> rcases bit_cases c with h' | h' <;> rw [h, h'] <;> simp
theorem xt_lt {a : Nat} (ha : a < 256) : xt a < 256 := by
  have h : allB (fun a => Nat.blt (xt a) 256) 256 = true := by decide +kernel
  simpa [Nat.blt_eq] using allB_at h a ha
theorem xt_xor {a b : Nat} (ha : a < 256) (hb : b < 256) : xt (a ^^^ b) = xt a ^^^ xt b := by
  have e1 : 2 * (a ^^^ b) = (2 * a) ^^^ (2 * b) := by
    have := Nat.shiftLeft_xor_distrib (a := a) (b := b) (i := 1)
    simpa [Nat.shiftLeft_eq, Nat.mul_comm] using this
  have e2 : (a ^^^ b) / 128 = (a / 128) ^^^ (b / 128) := by
    have := Nat.shiftRight_xor_distrib (a := a) (b := b) (i := 7)
    simpa [Nat.shiftRight_eq_div_pow] using this
  have e3 : 285 * ((a / 128) ^^^ (b / 128)) = 285 * (a / 128) ^^^ 285 * (b / 128) := by
    rcases (show a / 128 = 0 ∨ a / 128 = 1 by omega) with h | h <;> rcases (show b / 128 = 0 ∨ b / 128 = 1 by omega) with h' | h' <;> rw [h, h'] <;> simp
  unfold xt
  rw [e1, e2, e3, xor_swap]
theorem times_lt {a : Nat} (ha : a < 256) (b : Nat) : a * (b % 2) < 256 := by
  rcases bit_cases b with h | h <;> rw [h] <;> omega
theorem times_xor (a b c : Nat) : (a ^^^ b) * (c % 2) = a * (c % 2) ^^^ b * (c % 2) := by
  rcases bit_cases c with h | h <;> rw [h] <;> simp
theorem times_xt (a c : Nat) : xt (a * (c % 2)) = xt a * (c % 2) := by
  rcases bit_cases c with h | h <;> rw [h] <;> simp [xt]

theorem mulL_lt : ∀ (k : Nat) {a o : Nat} (b : Nat), a < 256 → o < 256 → mulL k a b o < 256
  | 0, _, _, _, _, ho => ho
  | k + 1, _, _, b, ha, ho => mulL_lt k _ (xt_lt ha) (xor_lt ho (times_lt ha b))
theorem mulL_xor : ∀ (k : Nat) {a b : Nat} (c o p : Nat), a < 256 → b < 256 → mulL k (a ^^^ b) c (o ^^^ p) = mulL k a c o ^^^ mulL k b c p
  | 0, _, _, _, _, _, _, _ => rfl
  | k + 1, a, b, c, o, p, ha, hb => by
    simp only [mulL]
    rw [xt_xor ha hb, times_xor, xor_swap, mulL_xor k _ _ _ (xt_lt ha) (xt_lt hb)]
theorem xor_mul {a b : Nat} (c : Nat) (ha : a < 256) (hb : b < 256) : mul (a ^^^ b) c = mul a c ^^^ mul b c := by
  have := mulL_xor 8 c 0 0 ha hb
  simpa [mul] using this
theorem mulL_xor_right : ∀ (k : Nat) (a b c o p : Nat), mulL k a (b ^^^ c) (o ^^^ p) = mulL k a b o ^^^ mulL k a c p
  | 0, _, _, _, _, _ => rfl
  | k + 1, a, b, c, o, p => by
    simp only [mulL]
    rw [xor_div2, xor_mod2, mul_bits, xor_swap, mulL_xor_right k]
theorem mul_xor_right (a b c : Nat) : mul a (b ^^^ c) = mul a b ^^^ mul a c := by
  have := mulL_xor_right 8 a b c 0 0
  simpa [mul] using this
theorem mul_lt {a : Nat} (ha : a < 256) (b : Nat) : mul a b < 256 := mulL_lt 8 b ha (by decide)
theorem two_pow_lt {i : Nat} (hi : i < 8) : 2 ^ i < 256 := Nat.lt_of_le_of_lt (Nat.pow_le_pow_right (by decide) (show i ≤ 7 by omega)) (by decide)
theorem mul_comm {a b : Nat} (ha : a < 256) (hb : b < 256) : mul a b = mul b a := by
  refine additive_ext (f := fun a => mul a b) (g := fun a => mul b a) (fun x y hx hy => xor_mul b hx hy) (fun x y _ _ => mul_xor_right b x y) (fun i hi => ?_) a ha
  refine additive_ext (f := fun b => mul (2 ^ i) b) (g := fun b => mul b (2 ^ i)) (fun x y _ _ => mul_xor_right _ x y) (fun x y hx hy => xor_mul _ hx hy) (fun j hj => ?_) b hb
  have h : allB (fun i => allB (fun j => Nat.beq (mul (2 ^ i) (2 ^ j)) (mul (2 ^ j) (2 ^ i))) 8) 8 = true := by decide +kernel
  simpa only [Nat.beq_eq] using allB_at (allB_at h i hi) j hj
theorem refP_left : ∀ (k a b c p q i : Nat), refP k (a ^^^ b) c (p ^^^ q) i = refP k a c p i ^^^ refP k b c q i
  | 0, _, _, _, _, _, _ => rfl
  | k + 1, a, b, c, p, q, i => by
    simp only [refP]
    rw [Nat.shiftLeft_xor_distrib, times_xor, xor_swap, refP_left k]
theorem refP_right : ∀ (k a b c p q i : Nat), refP k a (b ^^^ c) (p ^^^ q) i = refP k a b p i ^^^ refP k a c q i
  | 0, _, _, _, _, _, _ => rfl
  | k + 1, a, b, c, p, q, i => by
    simp only [refP]
    rw [Nat.shiftRight_xor_distrib, xor_mod2, mul_bits, xor_swap, refP_right k]
theorem refR_xor : ∀ (k p q i : Nat), refR k (p ^^^ q) i = refR k p i ^^^ refR k q i
  | 0, _, _, _ => rfl
  | k + 1, p, q, i => by
    simp only [refR]
    rw [Nat.shiftRight_xor_distrib, xor_mod2, mul_bits, xor_swap, refR_xor k]
theorem mul_ref {a b : Nat} (ha : a < 256) (hb : b < 256) : mul a b = refMul a b := by
  refine additive_ext (f := fun a => mul a b) (g := fun a => refMul a b) (fun x y hx hy => xor_mul b hx hy) (fun x y _ _ => ?_) (fun i hi => ?_) a ha
  · show refR 7 (refP 8 (x ^^^ y) b 0 0) 14 = _
    have := refP_left 8 x y b 0 0 0
    simp only [Nat.xor_self] at this
    rw [this, refR_xor]; rfl
  refine additive_ext (f := fun b => mul (2 ^ i) b) (g := fun b => refMul (2 ^ i) b) (fun x y _ _ => mul_xor_right _ x y) (fun x y _ _ => ?_) (fun j hj => ?_) b hb
  · show refR 7 (refP 8 (2 ^ i) (x ^^^ y) 0 0) 14 = _
    have := refP_right 8 (2 ^ i) x y 0 0 0
    simp only [Nat.xor_self] at this
    rw [this, refR_xor]; rfl
  have h : allB (fun i => allB (fun j => Nat.beq (mul (2 ^ i) (2 ^ j)) (refMul (2 ^ i) (2 ^ j))) 8) 8 = true := by decide +kernel
  simpa only [Nat.beq_eq] using allB_at (allB_at h i hi) j hj
theorem zero_mulL : ∀ (k c o : Nat), mulL k 0 c o = o
  | 0, _, _ => rfl
  | k + 1, c, o => by simp only [mulL, Nat.zero_mul, Nat.xor_zero]; exact zero_mulL k _ _
theorem zero_mul (c : Nat) : mul 0 c = 0 := zero_mulL 8 c 0
theorem mulL_xt : ∀ (k : Nat) {a o : Nat} (c : Nat), a < 256 → o < 256 → mulL k (xt a) c (xt o) = xt (mulL k a c o)
  | 0, _, _, _, _, _ => rfl
  | k + 1, a, o, c, ha, ho => by
    simp only [mulL]
    rw [← times_xt, ← xt_xor ho (times_lt ha c), mulL_xt k _ (xt_lt ha) (xor_lt ho (times_lt ha c))]
theorem mul_xt {a : Nat} (c : Nat) (ha : a < 256) : mul (xt a) c = xt (mul a c) := by
  have := mulL_xt 8 c ha (show 0 < 256 by decide)
  rw [show xt 0 = 0 from by decide] at this
  exact this
theorem mul_times (a c d : Nat) : mul (a * (d % 2)) c = mul a c * (d % 2) := by
  rcases bit_cases d with h | h <;> rw [h] <;> simp [zero_mul]
theorem mulL_mul : ∀ (k : Nat) {a o : Nat} (b c : Nat), a < 256 → o < 256 → mulL k (mul a c) b (mul o c) = mul (mulL k a b o) c
  | 0, _, _, _, _, _, _ => rfl
  | k + 1, a, o, b, c, ha, ho => by
    simp only [mulL]
    rw [← mul_xt c ha, ← mul_times, ← xor_mul c ho (times_lt ha b), mulL_mul k _ _ (xt_lt ha) (xor_lt ho (times_lt ha b))]
/-- (a b) c = (a c) b -/
theorem mul_right_comm {a : Nat} (b c : Nat) (ha : a < 256) : mul (mul a b) c = mul (mul a c) b := by
  have := mulL_mul 8 b c ha (show 0 < 256 by decide)
  rw [zero_mul] at this
  exact this.symm
theorem mul_assoc {a b c : Nat} (ha : a < 256) (hb : b < 256) (hc : c < 256) : mul (mul a b) c = mul a (mul b c) := by
  rw [mul_comm ha hb, mul_right_comm a c hb, mul_comm (mul_lt hb c) ha]
theorem mul_xor {a b c : Nat} (ha : a < 256) (hb : b < 256) (hc : c < 256) : mul a (b ^^^ c) = mul a b ^^^ mul a c := by
  rw [mul_comm ha (xor_lt hb hc), xor_mul a hb hc, mul_comm hb ha, mul_comm hc ha]
theorem mul_one {a : Nat} (ha : a < 256) : mul a 1 = a := by
  have h : allB (fun a => Nat.beq (mul a 1) a) 256 = true := by decide +kernel
  simpa only [Nat.beq_eq] using allB_at h a ha
theorem one_mul {a : Nat} (ha : a < 256) : mul 1 a = a := by rw [mul_comm (by decide) ha, mul_one ha]
theorem mul_zero {a : Nat} (ha : a < 256) : mul a 0 = 0 := by rw [mul_comm ha (by decide), zero_mul]

/-! Powers -/
def pow (a : Nat) : Nat → Nat
  | 0 => 1
  | n + 1 => mul (pow a n) a
theorem pow_lt {a : Nat} (ha : a < 256) : ∀ n, pow a n < 256
  | 0 => show (1 : Nat) < 256 by decide
  | n + 1 => mul_lt (pow_lt ha n) a
theorem pow_one {a : Nat} (ha : a < 256) : pow a 1 = a := one_mul ha
theorem pow_add {a : Nat} (ha : a < 256) (m : Nat) : ∀ n, pow a (m + n) = mul (pow a m) (pow a n)
  | 0 => (mul_one (pow_lt ha m)).symm
  | n + 1 => by
    show mul (pow a (m + n)) a = mul (pow a m) (mul (pow a n) a)
    rw [pow_add ha m n, mul_assoc (pow_lt ha m) (pow_lt ha n) ha]
theorem pow_mul {a : Nat} (ha : a < 256) (m : Nat) : ∀ n, pow a (m * n) = pow (pow a m) n
  | 0 => rfl
  | n + 1 => by rw [Nat.mul_succ, pow_add ha, pow_mul ha m n]; rfl
theorem one_pow : ∀ n, pow 1 n = 1
  | 0 => rfl
  | n + 1 => by show mul (pow 1 n) 1 = 1; rw [one_pow n]; exact mul_one (by decide)
theorem zero_pow {n : Nat} (h : 0 < n) : pow 0 n = 0 := by
  obtain ⟨m, rfl⟩ : ∃ m, n = m + 1 := ⟨n - 1, by omega⟩
  exact mul_zero (pow_lt (by decide) m)
theorem mul_pow {a b : Nat} (ha : a < 256) (hb : b < 256) : ∀ n, pow (mul a b) n = mul (pow a n) (pow b n)
  | 0 => show (1 : Nat) = mul 1 1 by decide
  | n + 1 => by
    show mul (pow (mul a b) n) (mul a b) = mul (mul (pow a n) a) (mul (pow b n) b)
    rw [mul_pow ha hb n, ← mul_assoc (mul_lt (pow_lt ha n) _) ha hb, mul_right_comm _ _ (pow_lt ha n), mul_assoc (mul_lt (pow_lt ha n) a) (pow_lt hb n) hb]
/-- 2 has the order 255 -/
theorem two_pow_255 : pow 2 255 = 1 := by decide +kernel
theorem two_pow_mod (n : Nat) : pow 2 n = pow 2 (n % 255) := by
  have h := Nat.div_add_mod n 255
  rw [show pow 2 n = pow 2 (255 * (n / 255) + n % 255) by rw [h], pow_add (by decide), pow_mul (by decide), two_pow_255, one_pow, one_mul (pow_lt (by decide) _)]

/-- Which power of 2 it is: looked for. -/
def logL (a : Nat) : Nat → Nat → Nat → Nat
  | 0, i, _ => i
  | k + 1, i, x => if x = a then i else logL a k (i + 1) (xt x)
def log (a : Nat) : Nat := logL a 255 0 1
theorem mul_two {a : Nat} (ha : a < 256) : mul a 2 = xt a := by
  have h : allB (fun a => Nat.beq (mul a 2) (xt a)) 256 = true := by decide +kernel
  simpa only [Nat.beq_eq] using allB_at h a ha
def logOk (a : Nat) : Bool := Nat.beq a 0 || (Nat.beq (pow 2 (log a)) a && Nat.blt (log a) 255)
theorem logs_ok : allB logOk 256 = true := by decide +kernel
theorem log_ok {a : Nat} (h0 : 0 < a) (ha : a < 256) : pow 2 (log a) = a ∧ log a < 255 := by
  have h := allB_at logs_ok a ha
  simp only [logOk, Bool.or_eq_true, Bool.and_eq_true, Nat.beq_eq, Nat.blt_eq] at h
  rcases h with h | h
  · omega
  · exact h
def minOk (a : Nat) : Bool := allB (fun j => Nat.ble (log a) j || !Nat.beq (pow 2 j) a) 255
/-- log is the least of its kind -/
theorem logL_le (a : Nat) : ∀ (k i x j : Nat), x = pow 2 i → i ≤ j → j < i + k → pow 2 j = a → logL a k i x ≤ j
  | 0, i, x, j, _, h1, h2, _ => by omega
  | k + 1, i, x, j, hx, h1, h2, hj => by
    simp only [logL]
    split
    · exact h1
    · rename_i hne
      refine logL_le a k (i + 1) (xt x) j ?_ ?_ (by omega) hj
      · subst hx; exact (mul_two (pow_lt (by decide) i)).symm
      · rcases Nat.lt_or_ge i j with h | h
        · exact h
        · have : i = j := by omega
          subst this; subst hx; exact absurd hj hne
theorem log_le {a j : Nat} (h : pow 2 j = a) (hj : j < 255) : log a ≤ j := logL_le a 255 0 1 j rfl (Nat.zero_le _) (by omega) h
theorem pow_pos2 (n : Nat) : 0 < pow 2 n := by
  rw [two_pow_mod]
  have h : allB (fun j => Nat.blt 0 (pow 2 j)) 255 = true := by decide +kernel
  simpa [Nat.blt_eq] using allB_at h (n % 255) (Nat.mod_lt _ (by decide))
theorem log_pow {n : Nat} (hn : n < 255) : log (pow 2 n) = n := by
  have h : allB (fun j => Nat.beq (log (pow 2 j)) j) 255 = true := by decide +kernel
  simpa only [Nat.beq_eq] using allB_at h n hn
theorem log_two_pow (n : Nat) : log (pow 2 n) = n % 255 := by
  rw [two_pow_mod, log_pow (Nat.mod_lt _ (by decide))]

/-! Quotients -/
def inv (a : Nat) : Nat := pow a 254
theorem inv_lt {a : Nat} (ha : a < 256) : inv a < 256 := pow_lt ha 254
theorem pow_255 {a : Nat} (h0 : 0 < a) (ha : a < 256) : pow a 255 = 1 := by
  obtain ⟨h, _⟩ := log_ok h0 ha
  rw [← h, ← pow_mul (by decide), Nat.mul_comm, pow_mul (by decide), two_pow_255, one_pow]
theorem inv_mul {a : Nat} (h0 : 0 < a) (ha : a < 256) : mul (inv a) a = 1 := pow_255 h0 ha
theorem mul_inv {a : Nat} (h0 : 0 < a) (ha : a < 256) : mul a (inv a) = 1 := by rw [mul_comm ha (inv_lt ha), inv_mul h0 ha]
def div (a b : Nat) : Nat := mul a (inv b)
theorem div_lt {a b : Nat} (ha : a < 256) (hb : b < 256) : div a b < 256 := mul_lt ha _
theorem div_mul {a b : Nat} (ha : a < 256) (h0 : 0 < b) (hb : b < 256) : mul (div a b) b = a := by
  rw [div, mul_assoc ha (inv_lt hb) hb, inv_mul h0 hb, mul_one ha]
theorem mul_div {a b : Nat} (ha : a < 256) (h0 : 0 < b) (hb : b < 256) : div (mul a b) b = a := by
  rw [div, mul_assoc ha hb (inv_lt hb), mul_inv h0 hb, mul_one ha]
theorem div_unique {a b x : Nat} (hx : x < 256) (h0 : 0 < b) (hb : b < 256) (h : mul x b = a) : x = div a b := by
  rw [← h, mul_div hx h0 hb]
theorem mul_eq_zero {a b : Nat} (ha : a < 256) (hb : b < 256) (h : mul a b = 0) : a = 0 ∨ b = 0 := by
  rcases Nat.eq_zero_or_pos b with hb0 | hb0
  · exact .inr hb0
  · left
    have := mul_div ha hb0 hb
    rw [h, div, zero_mul] at this
    exact this.symm
theorem mul_ne_zero {a b : Nat} (ha : a < 256) (hb : b < 256) (ha0 : a ≠ 0) (hb0 : b ≠ 0) : mul a b ≠ 0 := fun h => by
  rcases mul_eq_zero ha hb h with h | h
  · exact ha0 h
  · exact hb0 h
theorem xor_eq_zero {a b : Nat} (h : a ^^^ b = 0) : a = b := by
  have : (a ^^^ b) ^^^ b = b := by rw [h, Nat.zero_xor]
  rwa [Nat.xor_assoc, Nat.xor_self, Nat.xor_zero] at this

end Go.Proofs.Ytpaenlplpaabjaa.Gf
