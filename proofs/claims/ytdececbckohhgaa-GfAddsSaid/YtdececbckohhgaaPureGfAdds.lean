/- GfAdds: the two answers are one, over plain numbers and lists, for every argument; no conditions. -/
import Derived.Test.YtdececbckohhgaaPGfAddsx1
import Derived.Test.YtdececbckohhgaaGfMath
set_option linter.unusedVariables false
set_option linter.unusedSimpArgs false
namespace Go.Proofs.Ytdececbckohhgaa.Pure
open Go.RowKit Go.Proofs.Ytdececbckohhgaa Go.Proofs.Ytdececbckohhgaa.PGfAdds Go.Proofs.YtdececbckohhgaaW.PrintWords Go.Proofs.YtdececbckohhgaaW.PrintLast Go.Proofs.YtdececbckohhgaaW.PrintMore

/-- Laid so that simp does not take it for a change of sight alone (the kernel would then compare great terms by computing). -/
theorem bsome {α β : Type} (x : α) (f : α → Option β) : (some x).bind f = f x := by
  have h : ∀ o, o = some x → o.bind f = f x := by
    intro o ho
    subst ho
    rfl
  exact h _ rfl
/-! Numbers of Go, read as plain ones -/
theorem wf64 {a : Int} (h : (Lit.int .i64 a).wf = true) : -9223372036854775808 ≤ a ∧ a ≤ 9223372036854775807 := by
  simp only [Lit.wf, IntKind.min, IntKind.max, IntKind.signed, IntKind.bits, Bool.and_eq_true, decide_eq_true_eq, if_true] at h
  omega
theorem wrap_id {n : Int} (h0 : -9223372036854775808 ≤ n) (h1 : n ≤ 9223372036854775807) : wrap64 n = n := by unfold wrap64; omega
theorem wrap01 : wrap64 (0 + 1) = 1 := wrap_id (n := 0 + 1) (by decide) (by decide)
theorem wrap11 : wrap64 (1 + 1) = 2 := wrap_id (n := 1 + 1) (by decide) (by decide)
theorem iwrap_id {n : Int} (h0 : 0 ≤ n) (h1 : n ≤ 9223372036854775807) : IntKind.i64.wrap n = n := by rw [IntKind.wrap_i64]; omega
theorem mod64 {a : Nat} (h : a < 256) : a % 2 ^ 64 = a := Nat.mod_eq_of_lt (Nat.lt_of_lt_of_le h (by decide))
theorem mod64' {a : Nat} (h : a < 65536) : a % 2 ^ 64 = a := Nat.mod_eq_of_lt (Nat.lt_of_lt_of_le h (by decide))
theorem bxor {a b : Nat} (ha : a < 65536) (hb : b < 65536) : Go.bits .xor .i64 (a : Int) (b : Int) = ((a ^^^ b : Nat) : Int) := by
  have hx : a ^^^ b < 65536 := Nat.xor_lt_two_pow (n := 16) ha hb
  have e : (BitVec.ofInt 64 (a : Int) ^^^ BitVec.ofInt 64 (b : Int)).toNat = a ^^^ b := by
    rw [BitVec.ofInt_natCast, BitVec.ofInt_natCast, BitVec.toNat_xor, BitVec.toNat_ofNat, BitVec.toNat_ofNat, mod64' ha, mod64' hb]
  show IntKind.i64.wrap (((BitVec.ofInt 64 (a : Int) ^^^ BitVec.ofInt 64 (b : Int)).toNat : Nat) : Int) = _
  rw [e]
  exact iwrap_id (n := ((a ^^^ b : Nat) : Int)) (by omega) (by omega)
theorem band {a b : Nat} (ha : a < 65536) (hb : b < 65536) : Go.bits .and .i64 (a : Int) (b : Int) = ((a &&& b : Nat) : Int) := by
  have hx : a &&& b < 65536 := Nat.and_lt_two_pow (n := 16) _ hb
  have e : (BitVec.ofInt 64 (a : Int) &&& BitVec.ofInt 64 (b : Int)).toNat = a &&& b := by
    rw [BitVec.ofInt_natCast, BitVec.ofInt_natCast, BitVec.toNat_and, BitVec.toNat_ofNat, BitVec.toNat_ofNat, mod64' ha, mod64' hb]
  show IntKind.i64.wrap (((BitVec.ofInt 64 (a : Int) &&& BitVec.ofInt 64 (b : Int)).toNat : Nat) : Int) = _
  rw [e]
  exact iwrap_id (n := ((a &&& b : Nat) : Int)) (by omega) (by omega)
theorem bor {a b : Nat} (ha : a < 65536) (hb : b < 65536) : Go.bits .or .i64 (a : Int) (b : Int) = ((a ||| b : Nat) : Int) := by
  have hx : a ||| b < 65536 := Nat.or_lt_two_pow (n := 16) ha hb
  have e : (BitVec.ofInt 64 (a : Int) ||| BitVec.ofInt 64 (b : Int)).toNat = a ||| b := by
    rw [BitVec.ofInt_natCast, BitVec.ofInt_natCast, BitVec.toNat_or, BitVec.toNat_ofNat, BitVec.toNat_ofNat, mod64' ha, mod64' hb]
  show IntKind.i64.wrap (((BitVec.ofInt 64 (a : Int) ||| BitVec.ofInt 64 (b : Int)).toNat : Nat) : Int) = _
  rw [e]
  exact iwrap_id (n := ((a ||| b : Nat) : Int)) (by omega) (by omega)
theorem band1 {a : Nat} (ha : a < 65536) : Go.bits .and .i64 (a : Int) 1 = ((a % 2 : Nat) : Int) := by
  have := band (b := 1) ha (by decide)
  rw [Nat.and_one_is_mod] at this
  exact this
/-- A number with no bit of 256 on is an element, and none else. -/
theorem not255 {a : Int} (h0 : -9223372036854775808 ≤ a) (h1 : a ≤ 9223372036854775807) : Go.bits .andNot .i64 a 255 = 0 ↔ 0 ≤ a ∧ a ≤ 255 := by
  constructor
  · intro h
    have hz : (BitVec.ofInt 64 a &&& ~~~ BitVec.ofInt 64 255).toNat = 0 := by
      have hlt := (BitVec.ofInt 64 a &&& ~~~ BitVec.ofInt 64 255).isLt
      have h' : IntKind.i64.wrap ((BitVec.ofInt 64 a &&& ~~~ BitVec.ofInt 64 255).toNat : Int) = 0 := h
      rw [IntKind.wrap_i64] at h'
      omega
    have hv : BitVec.ofInt 64 a = BitVec.ofInt 64 a &&& BitVec.ofInt 64 255 := by
      have hz' : BitVec.ofInt 64 a &&& ~~~ BitVec.ofInt 64 255 = 0#64 := BitVec.eq_of_toNat_eq hz
      have hs : BitVec.ofInt 64 a = (BitVec.ofInt 64 a &&& BitVec.ofInt 64 255) ||| (BitVec.ofInt 64 a &&& ~~~ BitVec.ofInt 64 255) := by
        ext i hi
        simp only [BitVec.getElem_or, BitVec.getElem_and, BitVec.getElem_not]
        cases (BitVec.ofInt 64 a)[i] <;> cases (BitVec.ofInt 64 255)[i] <;> rfl
      rw [hz', BitVec.or_zero] at hs
      exact hs
    have hle : (BitVec.ofInt 64 a).toNat ≤ 255 := by
      rw [hv, BitVec.toNat_and]
      exact Nat.and_le_right
    rw [BitVec.toNat_ofInt] at hle
    omega
  · rintro ⟨h0, h1⟩
    obtain ⟨n, rfl⟩ := Int.eq_ofNat_of_zero_le h0
    have h : Gf.allB (fun n => decide (Go.bits .andNot .i64 (n : Int) 255 = 0)) 256 = true := by decide +kernel
    simpa using Gf.allB_at h n (by omega)
theorem elem_nat {a : Int} (h : 0 ≤ a ∧ a ≤ 255) : ∃ n : Nat, a = (n : Int) ∧ n < 256 := by
  obtain ⟨n, rfl⟩ := Int.eq_ofNat_of_zero_le h.1
  exact ⟨n, rfl, by omega⟩
def isEl (a : Int) : Bool := decide (0 ≤ a ∧ a ≤ 255)
theorem isEl_true {a : Int} (h : 0 ≤ a ∧ a ≤ 255) : isEl a = true := decide_eq_true h
theorem isEl_false {a : Int} (h : ¬(0 ≤ a ∧ a ≤ 255)) : isEl a = false := decide_eq_false h

theorem bad_none (k : Nat) (l : List Int) (n i : Int) (h : ¬ i < n) : gf_bad.l0 (k + 1) l n i = some false := by simp only [gf_bad.l0]; rw [if_neg h]
theorem bad_step (k : Nat) (l : List Int) (n i : Int) (h : i < n) (h0 : 0 ≤ i) (h1 : i < (l.length : Int)) (a : Int) (ha : rd l i = a) (w0 : -9223372036854775808 ≤ a) (w1 : a ≤ 9223372036854775807) :
    gf_bad.l0 (k + 1) l n i = if isEl a then gf_bad.l0 k l n (wrap64 (i + 1)) else some true := by
  simp only [gf_bad.l0]
  rw [if_pos h, if_pos h0, if_pos h1, ha]
  by_cases he : 0 ≤ a ∧ a ≤ 255
  · rw [if_pos ((not255 w0 w1).2 he), isEl_true he, if_pos rfl]
  · rw [if_neg (fun hh => he ((not255 w0 w1).1 hh)), isEl_false he, if_neg (by decide)]
theorem bad_one (k : Nat) (a : Int) (w : (Lit.int .i64 a).wf = true) : gf_bad.f (k + 2) [a] = some (!isEl a) := by
  obtain ⟨w0, w1⟩ := wf64 w
  unfold gf_bad.f
  rw [bad_step (k + 1) [a] _ 0 (by simp) (by decide) (by simp) a rfl w0 w1]
  cases isEl a with
  | false => rfl
  | true => rw [if_pos rfl, wrap01, bad_none k _ _ _ (by simp)]; rfl
theorem bad_two (k : Nat) (a b : Int) (wa : (Lit.int .i64 a).wf = true) (wb : (Lit.int .i64 b).wf = true) : gf_bad.f (k + 3) [a, b] = some (!(isEl a && isEl b)) := by
  obtain ⟨a0, a1⟩ := wf64 wa
  obtain ⟨b0, b1⟩ := wf64 wb
  unfold gf_bad.f
  rw [bad_step (k + 2) [a, b] _ 0 (by simp) (by decide) (by simp) a rfl a0 a1]
  cases isEl a with
  | false => rfl
  | true =>
    rw [if_pos rfl, wrap01, bad_step (k + 1) [a, b] _ 1 (by simp) (by decide) (by simp) b rfl b0 b1]
    cases isEl b with
    | false => rfl
    | true => rw [if_pos rfl, wrap11, bad_none k _ _ _ (by simp)]; rfl

theorem element_is (a : Int) : quicksetref_Element.f a = some (isEl a) := by
  unfold quicksetref_Element.f isEl
  by_cases h : a ≥ 0
  · rw [if_pos h]; simp [h]
  · rw [if_neg h]; simp; omega

theorem or_and {a b : Nat} (ha : a < 256) (hb : b < 256) : (a ||| b) = (a &&& b) + (a ^^^ b) := by
  have h : Gf.allB (fun a => Gf.allB (fun b => Nat.beq (a ||| b) ((a &&& b) + (a ^^^ b))) 256) 256 = true := by decide +kernel
  simpa only [Nat.beq_eq] using Gf.allB_at (Gf.allB_at h a ha) b hb
theorem GfAdds : quicksetlaw_GfAdds.Pure := by
  intro a b wa wb
  refine ⟨3, ?_⟩
  unfold quicksetlaw_GfAdds.f gf_Add.f quicksetref_GfAdd.f
  rw [bad_two 0 a b wa wb, element_is, element_is]
  simp only [bsome]
  by_cases ha : 0 ≤ a ∧ a ≤ 255
  · by_cases hb : 0 ≤ b ∧ b ≤ 255
    · rw [isEl_true ha, isEl_true hb]
      obtain ⟨a, rfl, ha'⟩ := elem_nat ha
      obtain ⟨b, rfl, hb'⟩ := elem_nat hb
      have hx := Gf.xor_lt ha' hb'
      simp only [Bool.and_self, Bool.not_true, Bool.false_eq_true, if_false, if_true, bsome]
      rw [bxor (by omega) (by omega), bor (by omega) (by omega), band (by omega) (by omega), or_and ha' hb', wrap_id (by omega) (by omega), if_pos (by omega)]
      rfl
    · rw [isEl_true ha, isEl_false hb]; simp
  · rw [isEl_false ha]; simp

end Go.Proofs.Ytdececbckohhgaa.Pure
