/- The field's functions as matrices use them, and the reference's sweep of a matrix that may be; no conditions. -/
import Derived.Test.YtpaenlplpaabjaaQMatInvertsx0
import Derived.Test.YtpaenlplpaabjaaQMatInvertsx1
import Derived.Test.YtpaenlplpaabjaaQMatInvertsx2
import Derived.Test.YtpaenlplpaabjaaQMatInvertsx3
import Derived.Test.YtpaenlplpaabjaaQMatInvertsx4
import Derived.Test.YtpaenlplpaabjaaMatS
set_option linter.unusedVariables false
set_option linter.unusedSimpArgs false
namespace Go.Proofs.Ytpaenlplpaabjaa.QMatInverts
open Go.RowKit Go.Proofs.YtpaenlplpaabjaaW.PrintWords Go.Proofs.YtpaenlplpaabjaaW.PrintLast Go.Proofs.YtpaenlplpaabjaaW.PrintMore
open Go.Proofs.Ytpaenlplpaabjaa.Sep Go.Proofs.Ytpaenlplpaabjaa.MatB
theorem power_loop : ∀ (d k a n o : Nat), a < 256 → n < 2 ^ d → d ≤ 63 → o < 256 → d + 9 ≤ k → gf_power.l0 k (a : Int) (n : Int) (o : Int) = some ((Gf.mul o (Gf.pow a n) : Nat) : Int) := by
  intro d
  induction d with
  | zero =>
    intro k a n o ha hn _ ho hk
    obtain ⟨k, rfl⟩ : ∃ m, k = m + 1 := ⟨k - 1, by omega⟩
    have : n = 0 := by omega
    subst this
    simp only [gf_power.l0]
    rw [if_neg (by omega), Gf.pow, Gf.mul_one ho]
  | succ d ih =>
    intro k a n o ha hn hd ho hk
    obtain ⟨k, rfl⟩ : ∃ m, k = m + 1 := ⟨k - 1, by omega⟩
    have hn2 : n / 2 < 2 ^ d := by rw [Nat.pow_succ] at hn; omega
    rcases Nat.eq_zero_or_pos n with h0 | h0
    · subst h0
      simp only [gf_power.l0]
      rw [if_neg (by omega), Gf.pow, Gf.mul_one ho]
    · have hsq : ∀ m, Gf.pow (Gf.mul a a) m = Gf.pow a (2 * m) := by
        intro m
        rw [Gf.pow_mul ha, show Gf.pow a 2 = Gf.mul a a from by show Gf.mul (Gf.mul 1 a) a = _; rw [Gf.one_mul ha]]
      have hband : Go.bits .and .i64 (n : Int) 1 = ((n % 2 : Nat) : Int) := by
        have hlt : n < 2 ^ 63 := Nat.lt_of_lt_of_le hn (Nat.pow_le_pow_right (by decide) hd)
        have h64 : n % 2 ^ 64 = n := Nat.mod_eq_of_lt (by omega)
        have e : (BitVec.ofInt 64 (n : Int) &&& BitVec.ofInt 64 1).toNat = n % 2 := by
          rw [BitVec.ofInt_natCast, BitVec.toNat_and, BitVec.toNat_ofNat, h64, show (BitVec.ofInt 64 1).toNat = 1 from rfl, Nat.and_one_is_mod]
        show IntKind.i64.wrap (((BitVec.ofInt 64 (n : Int) &&& BitVec.ofInt 64 1).toNat : Nat) : Int) = _
        rw [e]
        exact iwrap_id (n := ((n % 2 : Nat) : Int)) (by omega) (by omega)
      simp only [gf_power.l0]
      rw [if_pos (by omega), hband, show ((n : Int) / 2) = ((n / 2 : Nat) : Int) from by omega]
      rcases Gf.bit_cases n with hp | hp
      · rw [if_neg (by rw [hp]; decide), times_is ha ha (by omega)]
        simp only [bsome]
        rw [ih k _ _ _ (Gf.mul_lt ha _) hn2 (by omega) ho (by omega), hsq, show 2 * (n / 2) = n from by omega]
      · rw [if_pos (by rw [hp]; rfl), times_is ho ha (by omega), times_is ha ha (by omega)]
        simp only [bsome]
        rw [ih k _ _ _ (Gf.mul_lt ha _) hn2 (by omega) (Gf.mul_lt ho _) (by omega), hsq, Gf.mul_assoc ho ha (Gf.pow_lt ha _)]
        have : Gf.pow a n = Gf.mul a (Gf.pow a (2 * (n / 2))) := by
          rw [show n = 1 + 2 * (n / 2) from by omega, Gf.pow_add ha, Gf.pow_one ha, show (1 + 2 * (n / 2)) / 2 = n / 2 from by omega]
        rw [this]
theorem power_is {k a n : Nat} (ha : a < 256) (hn : n < 9223372036854775808) (hk : 72 ≤ k) : gf_power.f k (a : Int) (n : Int) = some ((Gf.pow a n : Nat) : Int) := by
  unfold gf_power.f
  rw [show (1 : Int) = ((1 : Nat) : Int) from rfl, power_loop 63 k a n 1 ha hn (Nat.le_refl _) (by decide) hk, Gf.one_mul (Gf.pow_lt ha n)]
theorem inv_c : InvC := by
  intro a w h0 ha
  refine (gf_Inv.calls 403 (a : Int) ((Gf.inv a : Nat) : Int) 0 w ?_).mono (fun e w' h => ⟨h.1, h.2⟩)
  unfold gf_Inv.f gf_Div.f
  rw [bad_two 400 1 (a : Int) (by decide) (wf_small (by omega)), isEl_true (a := 1) (by decide), isEl_true (a := (a : Int)) (by omega)]
  simp only [bsome, Bool.and_self, Bool.not_true, Bool.false_eq_true, if_false]
  rw [if_neg (by omega), show (254 : Int) = ((254 : Nat) : Int) from rfl, power_is ha (by decide) (by omega)]
  simp only [bsome]
  rw [show (1 : Int) = ((1 : Nat) : Int) from rfl, times_is (a := 1) (by decide) (Gf.pow_lt ha 254) (by omega)]
  simp only [bsome]
  rw [Gf.one_mul (Gf.pow_lt ha 254)]
  rfl
theorem bes_zero (l : List (List Int)) : ∀ i, i ≤ l.length → bes l 0 i = l.take i
  | 0, _ => by rw [List.take_zero]; rfl
  | i + 1, h => by
    rw [bes, bes_zero l i (by omega), List.take_succ_eq_append_getElem (by omega)]
    congr 1
    unfold besRow
    rw [if_neg (by omega), List.replicate_zero, List.append_nil, rd_L1, Int.toNat_natCast, List.getD_eq_getElem?_getD, List.getElem?_eq_getElem (by omega)]
    rfl
theorem may_all {m : List (List Int)} (h : mayB m = true) : (∀ x ∈ m, x.length = (rd_L1 m 0).length) ∧ (∀ x ∈ m, x.all elB = true) := by
  simp only [mayB, Bool.and_eq_true, decide_eq_true_eq] at h
  have key : ∀ x ∈ m, x.length = (rd_L1 m 0).length ∧ x.all elB = true := fun x hx => by
    have := List.all_eq_true.1 h.2 x hx
    simp only [rowB, Bool.and_eq_true, decide_eq_true_eq] at this
    exact ⟨this.1.1.1, this.2⟩
  exact ⟨fun x hx => (key x hx).1, fun x hx => (key x hx).2⟩
theorem shl_nat {a i : Nat} (h : a * 2 ^ i < 65536) (hi : i ≤ 64) : shl .i64 (a : Int) (i : Int) = ((a <<< i : Nat) : Int) := by
  unfold shl
  rw [show min ((i : Int).toNat) IntKind.i64.bits = i from by simp [IntKind.bits]; omega, Nat.shiftLeft_eq]
  have : (a : Int) * 2 ^ i = ((a * 2 ^ i : Nat) : Int) := by simp
  rw [this, iwrap_id (by omega) (by omega)]
theorem shr_nat {a i : Nat} (hi : i ≤ 64) : shr .i64 (a : Int) (i : Int) = ((a >>> i : Nat) : Int) := by
  unfold shr
  rw [show min ((i : Int).toNat) IntKind.i64.bits = i from by simp [IntKind.bits]; omega, Nat.shiftRight_eq_div_pow]
  simp
theorem mulof_first : ∀ (d m a b p i : Nat), i + d = 8 → a < 256 → b < 256 → p < 32768 → quicksetref_mulOf.l0 (d + 1 + m) (a : Int) (b : Int) (p : Int) (i : Int) = quicksetref_mulOf.l1 m ((Gf.refP d a b p i : Nat) : Int) 14 ∧ Gf.refP d a b p i < 32768 := by
  intro d
  induction d with
  | zero =>
    intro m a b p i hi ha hb hp
    refine ⟨?_, hp⟩
    rw [show 0 + 1 + m = m + 1 from by omega]
    simp only [quicksetref_mulOf.l0]
    rw [if_neg (by omega)]
    rfl
  | succ d ih =>
    intro m a b p i hi ha hb hp
    have h2 : a * 2 ^ i < 32768 := by
      have : 2 ^ i ≤ 2 ^ 7 := Nat.pow_le_pow_right (by decide) (by omega)
      have := Nat.mul_le_mul (show a ≤ 255 by omega) this
      omega
    have hs : b >>> i < 65536 := by rw [Nat.shiftRight_eq_div_pow]; have := Nat.div_le_self b (2 ^ i); omega
    have hx : p ^^^ (a <<< i) < 32768 := by
      rw [Nat.shiftLeft_eq]; exact Nat.xor_lt_two_pow (n := 15) hp h2
    rw [show d + 1 + 1 + m = (d + 1 + m) + 1 from by omega]
    simp only [quicksetref_mulOf.l0, Gf.refP]
    rw [if_pos (by omega), if_pos (by omega), shr_nat (by omega), band1 hs, shl_nat (by omega) (by omega), wrap_id (by omega) (by omega), show ((i : Int) + 1) = ((i + 1 : Nat) : Int) from by omega]
    rcases Gf.bit_cases (b >>> i) with hb' | hb'
    · rw [if_neg (by rw [hb']; decide), hb', Nat.mul_zero, Nat.xor_zero]
      exact ih m a b p (i + 1) (by omega) ha hb hp
    · rw [if_pos (by rw [hb']; rfl), hb', Nat.mul_one, bxor (by omega) (by rw [Nat.shiftLeft_eq]; omega)]
      exact ih m a b _ (i + 1) (by omega) ha hb hx
theorem mulof_second : ∀ (d m p i : Nat), i = d + 7 → d ≤ 7 → p < 32768 → quicksetref_mulOf.l1 (d + 1 + m) (p : Int) (i : Int) = some ((Gf.refR d p i : Nat) : Int) := by
  intro d
  induction d with
  | zero =>
    intro m p i hi _ hp
    rw [show 0 + 1 + m = m + 1 from by omega]
    simp only [quicksetref_mulOf.l1]
    rw [if_neg (by omega)]
    rfl
  | succ d ih =>
    intro m p i hi hd hp
    have h2 : 285 * 2 ^ (i - 8) < 32768 := by
      have : 2 ^ (i - 8) ≤ 2 ^ 6 := Nat.pow_le_pow_right (by decide) (by omega)
      omega
    have hs : p >>> i < 65536 := by rw [Nat.shiftRight_eq_div_pow]; have := Nat.div_le_self p (2 ^ i); omega
    have hx : p ^^^ (285 <<< (i - 8)) < 32768 := by
      rw [Nat.shiftLeft_eq]; exact Nat.xor_lt_two_pow (n := 15) hp h2
    rw [show d + 1 + 1 + m = (d + 1 + m) + 1 from by omega]
    simp only [quicksetref_mulOf.l1, Gf.refR]
    rw [if_pos (by omega), if_pos (by omega), shr_nat (by omega), band1 hs, wrap_id (n := (i : Int) - 8) (by omega) (by omega), wrap_id (n := (i : Int) - 1) (by omega) (by omega), show ((i : Int) - 8) = ((i - 8 : Nat) : Int) from by omega, show ((i : Int) - 1) = ((i - 1 : Nat) : Int) from by omega,
      show (285 : Int) = ((285 : Nat) : Int) from rfl, shl_nat (by omega) (by omega)]
    rcases Gf.bit_cases (p >>> i) with hb' | hb'
    · rw [if_neg (by rw [hb']; decide), hb', Nat.mul_zero, Nat.xor_zero]
      exact ih m p (i - 1) (by omega) (by omega) hp
    · rw [if_pos (by rw [hb']; rfl), if_pos (by omega), hb', Nat.mul_one, bxor (by omega) (by rw [Nat.shiftLeft_eq]; omega)]
      exact ih m _ (i - 1) (by omega) (by omega) hx
theorem mulof_is {k a b : Nat} (ha : a < 256) (hb : b < 256) (hk : 17 ≤ k) : quicksetref_mulOf.f k (a : Int) (b : Int) = some ((Gf.mul a b : Nat) : Int) := by
  obtain ⟨m, rfl⟩ : ∃ m, k = 8 + 1 + (7 + 1 + m) := ⟨k - 17, by omega⟩
  obtain ⟨h1, h2⟩ := mulof_first 8 (7 + 1 + m) a b 0 0 rfl ha hb (by decide)
  rw [Gf.mul_ref ha hb]
  unfold quicksetref_mulOf.f
  exact h1.trans (mulof_second 7 m _ 14 rfl (Nat.le_refl _) h2)
theorem divof_loop {a b : Nat} (ha : a < 256) (h0 : 0 < b) (hb : b < 256) : ∀ (d k i : Nat), i + d = Gf.div a b → d + 18 ≤ k → quicksetref_divOf.l0 k (a : Int) (b : Int) (i : Int) = some ((Gf.div a b : Nat) : Int) := by
  have hq := Gf.div_lt ha hb
  intro d
  induction d with
  | zero =>
    intro k i hi hk
    obtain ⟨k, rfl⟩ : ∃ m, k = m + 1 := ⟨k - 1, by omega⟩
    have : i = Gf.div a b := by omega
    subst this
    simp only [quicksetref_divOf.l0]
    rw [if_pos (by omega), mulof_is hq hb (by omega)]
    simp only [bsome]
    rw [if_pos (by rw [Gf.div_mul ha h0 hb])]
  | succ d ih =>
    intro k i hi hk
    obtain ⟨k, rfl⟩ : ∃ m, k = m + 1 := ⟨k - 1, by omega⟩
    simp only [quicksetref_divOf.l0]
    rw [if_pos (by omega), mulof_is (show i < 256 by omega) hb (by omega)]
    simp only [bsome]
    rw [if_neg (fun h => by have := Gf.div_unique (a := a) (x := i) (by omega) h0 hb (by omega); omega), wrap_id (by omega) (by omega), show ((i : Int) + 1) = ((i + 1 : Nat) : Int) from by omega]
    exact ih k (i + 1) (by omega) (by omega)
theorem divof_is {k a b : Nat} (ha : a < 256) (h0 : 0 < b) (hb : b < 256) (hk : 300 ≤ k) : quicksetref_divOf.f k (a : Int) (b : Int) = some ((Gf.div a b : Nat) : Int) :=
  divof_loop ha h0 hb (Gf.div a b) k 0 (by omega) (by have := Gf.div_lt ha hb; omega)
theorem mul_c : MulC := fun a b w ha hb => (quicksetref_mulOf.calls 17 _ _ _ w (mulof_is ha hb (Nat.le_refl _))).mono (fun e w' h => ⟨h.1, h.2.below⟩)
theorem div_c : DivC := fun a b w ha h0 hb => (quicksetref_divOf.calls 300 _ _ _ w (divof_is ha h0 hb (Nat.le_refl _))).mono (fun e w' h => ⟨h.1, h.2.below⟩)
def rankN (l0 : List (List Int)) : Nat := swRun l0.length (rd_L1 l0 0).length (rd_L1 l0 0).length 0 0 (natM l0)
theorem swept_c (A0 : Option Addr) (c0 : Nat) (l0 : List (List Int)) (w : World) (hr0 : Kd.C (Kd.slice 3 (Kd.int .i64)) w A0 l0.length l0) (hc0 : l0.length ≤ c0) (hm : mayB l0 = true) :
    Calls Try.prog 50 #[.slice A0 l0.length c0] w fun e w' => e = .returned (.int .i64 ((rankN l0 : Nat) : Int)) ∧ Below w.heap.size w w' := by
  obtain ⟨hn0, hn8, hm0, hm8, _⟩ := may_rows hm
  obtain ⟨hrow, hel⟩ := may_all hm
  exact sw_calls mul_c div_c A0 c0 l0 w hr0 hc0 l0.length (rd_L1 l0 0).length rfl hn0 hn8 hm0 hm8 hrow hel _ rfl
end Go.Proofs.Ytpaenlplpaabjaa.QMatInverts
