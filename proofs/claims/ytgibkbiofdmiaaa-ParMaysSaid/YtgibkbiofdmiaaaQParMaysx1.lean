/- Printed from a stub by wip/stub.py with the kit's print.py, then turned by hand. -/
import Derived.Test.YtgibkbiofdmiaaaQParMaysx0
namespace Go.Proofs.Ytgibkbiofdmiaaa.QParMays
open Go.RowKit Go.Proofs.YtgibkbiofdmiaaaW.PrintWords Go.Proofs.YtgibkbiofdmiaaaW.PrintLast Go.Proofs.YtgibkbiofdmiaaaW.PrintMore
attribute [local go_sem] max2_int min2_int max_two min_two max_three min_three max_four min_four   -- for this text's walks alone
set_option linter.unusedVariables false
set_option linter.unusedSimpArgs false

-- NOT PRINTED: function 62 (slices_IndexFunc_byte_byte)

-- NOT PRINTED: function 55 (slices_ContainsFunc_byte_byte)

/-! ### par_even: function 43 -/
def par_even.l0 : Nat → List (List Int) → List (List Int) → Int → Int → Option (Bool)
  | 0, _, _, _, _ => none
  | k + 1, x0, x6, x7, x8 => if x8 < x7 then (if 0 ≤ x8 then (if x8 < (x6.length : Int) then (if 0 < (x0.length : Int) then (if ((rd_L1 x6 x8).length : Int) = ((rd_L1 x0 0).length : Int) then (if ((rd_L1 x6 x8).length : Int) > 4096 then (some false) else (par_even.l0 k x0 x6 x7 (wrap64 (x8 + 1)))) else (some false)) else (none)) else (none)) else (none)) else (some true)
def par_even.f (k : Nat) (l0 : List (List Int)) : Option (Bool) := if 1 ≤ 35184372088832 then (par_even.l0 k l0 l0 (l0.length : Int) 0) else (none)
theorem par_even.mono_l : ∀ k, (∀ y0 y1 y2 y3, LeO (par_even.l0 k y0 y1 y2 y3) (par_even.l0 (k + 1) y0 y1 y2 y3))
  | 0 => fun _ _ _ _ r h => by simp [par_even.l0] at h
  | k + 1 => by
    have ih0 := par_even.mono_l k
    · intro y0 y1 y2 y3
      unfold par_even.l0
      repeat' first
      | (with_reducible exact ih0 _ _ _ _)
      | (with_reducible exact LeO.refl _)
      | (with_reducible exact LeO.none _)
      | (with_reducible refine LeO.ite ?_ ?_)
      | (with_reducible refine LeO.bind ?_ (fun _ => ?_))
      | exact ih0 _ _ _ _
      | exact LeO.none _
      | refine LeO.ite ?_ ?_
      | refine LeO.bind ?_ (fun _ => ?_)
theorem par_even.mono : ∀ a0 k, LeO (par_even.f k a0) (par_even.f (k + 1) a0) := by
  intro a0 k
  have ih0 := par_even.mono_l k
  unfold par_even.f
  repeat' first
      | (with_reducible exact ih0 _ _ _ _)
      | (with_reducible exact LeO.refl _)
      | (with_reducible exact LeO.none _)
      | (with_reducible refine LeO.ite ?_ ?_)
      | (with_reducible refine LeO.bind ?_ (fun _ => ?_))
      | exact ih0 _ _ _ _
      | exact LeO.none _
      | refine LeO.ite ?_ ?_
      | refine LeO.bind ?_ (fun _ => ?_)
def evB (n0 n : Nat) : Bool := decide ((n : Int) = (n0 : Int)) && decide ((n : Int) ≤ 4096)
set_option maxHeartbeats 400000 in
theorem ev_clo (B : Nat) (A : Option Addr) (cap : Nat) (l : List (List Int)) (A1 : Option Addr) (c1 n1 : Nat) (w : World) (hB : w.cell? ⟨B, 0, none⟩ = some (.slice A l.length cap)) (hC : Kd.C (Kd.slice 5 (Kd.int .u8)) w A l.length l) (h0 : (0 : Int) < (l.length : Int)) :
    Calls Try.prog 56 #[.slice A1 n1 c1, .pointer (some ⟨B, 0, none⟩)] w fun e w' => e = .returned (.bool (!evB (rd_L1 l 0).length n1)) ∧ Drawn0 w w' := by
  obtain ⟨ad, A2, c2, e2, hx, hl2, _⟩ := at_L1 hC 0 (Int.le_refl 0) h0
  subst e2
  replace hx : w.cell? ad = some (.slice A2 (rd_L1 l 0).length c2) := hx
  generalize (rd_L1 l 0).length = n0 at hx ⊢
  clear hC
  by_cases c9 : (n1 : Int) = (n0 : Int)
  · have c9b0 : ((n1 : Int) == (n0 : Int)) = true := beq_iff_eq.mpr c9
    have c9b1 : ((n1 : Int) != (n0 : Int)) = false := bne_eq_false_iff_eq.mpr c9
    have c9b2 : (n1 == n0) = true := by simp; omega
    have c9b3 : (n1 != n0) = false := by simp; omega
    by_cases c10 : (n1 : Int) > 4096
    · have c10b0 : decide (4096 < (n1 : Int)) = true := decide_eq_true c10
      have c10b1 : decide (4096 < n1) = true := decide_eq_true (by omega)
      have e : evB n0 n1 = false := by simp [evB]; omega
      rw [e]
      clear c9 c10 e
      go_enter Try.func56, Try.ntmps56
      go_wp2_with (fail)
      go_ret
      exact ⟨by first | rfl | simp [*], by repeat (first | exact Drawn0.refl _ | exact ⟨_, rfl⟩)⟩
    · have c10b0 : decide (4096 < (n1 : Int)) = false := decide_eq_false c10
      have c10b1 : decide (4096 < n1) = false := decide_eq_false (by omega)
      have e : evB n0 n1 = true := by simp [evB]; omega
      rw [e]
      clear c9 c10 e
      go_enter Try.func56, Try.ntmps56
      go_wp2_with (fail)
      go_ret
      exact ⟨by first | rfl | simp [*], by repeat (first | exact Drawn0.refl _ | exact ⟨_, rfl⟩)⟩
  · have c9b0 : ((n1 : Int) == (n0 : Int)) = false := by simpa using c9
    have c9b1 : ((n1 : Int) != (n0 : Int)) = true := by simpa using c9
    have c9b2 : (n1 == n0) = false := by simp; omega
    have c9b3 : (n1 != n0) = true := by simp; omega
    have e : evB n0 n1 = false := by simp [evB]; omega
    rw [e]
    clear c9 e
    go_enter Try.func56, Try.ntmps56
    go_wp2_with (fail)
    go_ret
    exact ⟨by first | rfl | simp [*], by repeat (first | exact Drawn0.refl _ | exact ⟨_, rfl⟩)⟩
set_option maxHeartbeats 1000000 in
theorem par_even.index (k : Nat) (B : Nat) (A : Option Addr) (cap : Nat) (l : List (List Int)) (r : Bool) (w : World) (hB : w.cell? ⟨B, 0, none⟩ = some (.slice A l.length cap)) (hC : Kd.C (Kd.slice 5 (Kd.int .u8)) w A l.length l) (h : par_even.l0 k l l (l.length : Int) 0 = some r) :
    Calls Try.prog 62 #[.slice A l.length cap, .func (.func 56) #[] #[.pointer (some ⟨B, 0, none⟩)]] w fun e w' => (∃ q : Int, e = .returned (.int .i64 q) ∧ (decide (0 ≤ q) = !r)) ∧ Drawn0 w w' := by
  have HC := Aside0.mk hC
  have HB0 := Aside0.mk hB
  have HH := Aside0.mk h
  clear hC hB h
  go_enter Try.func62, Try.ntmps62
  go_wp2_with (fail)
  go_loopg [5, 8] k (fun kq v5 v8 wr => ∃ i : Int, v8 = .int .i64 i ∧ Aside0 (par_even.l0 kq l l (l.length : Int) i = some r) ∧ Aside0 (Drawn0 w wr))
  case atStart => exact ⟨0, rfl, HH, Aside0.mk (Drawn0.refl _)⟩
  case round =>
    obtain ⟨i, rfl, HI, HB⟩ := hrel
    cases gk with
    | zero => exact absurd HI.out (by simp [par_even.l0])
    | succ g1 =>
      have H := HI.out
      rw [par_even.l0] at H
      clear HI HH
      by_cases hlt : i < (l.length : Int)
      · rw [if_pos hlt] at H
        by_cases h0 : 0 ≤ i
        · have hz : (0 : Int) < (l.length : Int) := by omega
          rw [if_pos h0, if_pos hlt, if_pos hz] at H
          obtain ⟨ad, A2, c2, he, hx, _, _⟩ := at_L1 HC.out i h0 hlt
          subst he
          have hx := (HB.out.below.cell (World.block_lt_of_cell? w _ hx)).trans hx
          have hcl := ev_clo B (some ad) cap l A2 c2 (rd_L1 l i).length wr ((HB.out.below.cell (World.block_lt_of_cell? w _ HB0.out)).trans HB0.out) (Kd.C_below HC.out HB.out.below) hz
          cases hel : evB (rd_L1 l 0).length (rd_L1 l i).length with
          | true =>
            have h2 : ((rd_L1 l i).length : Int) = ((rd_L1 l 0).length : Int) ∧ ((rd_L1 l i).length : Int) ≤ 4096 := by simpa [evB] using hel
            rw [if_pos h2.1, if_neg (by omega)] at H
            have HI := Aside0.mk H
            rw [hel] at hcl
            clear H h2 hel
            go_wp2_with (go_at_call 56; refine hcl.mono ?_; rintro e w1 ⟨rfl, ⟨nd, rfl⟩⟩)
            go_roundg g1
            case measure => omega
            case rel => exact ⟨_, rfl, HI, Aside0.mk (HB.out.step nd)⟩
          | false =>
            have hr : r = false := by
              by_cases h3 : ((rd_L1 l i).length : Int) = ((rd_L1 l 0).length : Int)
              · rw [if_pos h3] at H
                by_cases h4 : ((rd_L1 l i).length : Int) > 4096
                · rw [if_pos h4] at H
                  exact (Option.some.inj H).symm
                · simp [evB] at hel
                  omega
              · rw [if_neg h3] at H
                exact (Option.some.inj H).symm
            subst hr
            rw [hel] at hcl
            clear H hel
            go_wp2_with (go_at_call 56; refine hcl.mono ?_; rintro e w1 ⟨rfl, ⟨nd, rfl⟩⟩)
            go_ret
            exact ⟨⟨i, rfl, by simp [h0]⟩, HB.out.step nd⟩
        · rw [if_neg h0] at H
          cases H
      · rw [if_neg hlt] at H
        obtain rfl := Option.some.inj H
        clear H
        go_wp2_with (fail)
        go_ret
        exact ⟨⟨-1, rfl, by first | rfl | decide | omega⟩, HB.out⟩
set_option maxHeartbeats 400000 in
theorem par_even.contains (k : Nat) (B : Nat) (A : Option Addr) (cap : Nat) (l : List (List Int)) (r : Bool) (w : World) (hB : w.cell? ⟨B, 0, none⟩ = some (.slice A l.length cap)) (hC : Kd.C (Kd.slice 5 (Kd.int .u8)) w A l.length l) (h : par_even.l0 k l l (l.length : Int) 0 = some r) :
    Calls Try.prog 55 #[.slice A l.length cap, .func (.func 56) #[] #[.pointer (some ⟨B, 0, none⟩)]] w fun e w' => e = .returned (.bool (!r)) ∧ Drawn0 w w' := by
  have HC := Aside0.mk hC
  have HB0 := Aside0.mk hB
  clear hC hB
  go_enter Try.func55, Try.ntmps55
  go_wp2_with (go_at_call 62; refine (par_even.index k B A cap l r _ HB0.out HC.out h).mono ?_; rintro e w1 ⟨⟨q, rfl, hr⟩, hb1⟩)
  go_ret
  exact ⟨by rw [← hr]; rfl, hb1⟩
set_option maxHeartbeats 400000 in
theorem par_even.calls (k : Nat) (A0 : Option Addr) (c0 : Nat) (l0 : List (List Int)) (r : Bool) (w : World) (hr0 : Kd.C (Kd.slice 5 (Kd.int .u8)) w A0 l0.length l0) (hc0 : l0.length ≤ c0) (h : par_even.f k l0 = some r) :
    Calls Try.prog 43 #[.slice A0 l0.length c0] w fun e w' => e = .returned (.bool r) ∧ Below w.heap.size w w' := by
  have HC := Aside0.mk hr0
  clear hr0
  have HH : Aside0 (par_even.l0 k l0 l0 (l0.length : Int) 0 = some r) := Aside0.mk (by simpa [par_even.f] using h)
  clear h
  go_enter Try.func43, Try.ntmps43
  go_wp2_with (go_at_call 55; refine (par_even.contains k w.heap.size A0 c0 l0 r _ (by go_simp) (Kd.C_alloc HC.out _) HH.out).mono ?_; rintro e w1 ⟨rfl, hb1⟩)
  go_ret
  exact ⟨by simp, ((Below.refl _ _).alloc (Nat.le_refl _) _).trans (hb1.below.mono (by simp))⟩

/-! ### par_May: function 19 -/
def par_May.f (k : Nat) (l0 : List (List Int)) : Option (Bool) := if (l0.length : Int) > 0 then (if (l0.length : Int) ≤ 12 then ((par_even.f k l0).bind fun t106 => (some t106)) else (some false)) else (some false)
theorem par_May.mono : ∀ a0 k, LeO (par_May.f k a0) (par_May.f (k + 1) a0) := by
  intro a0 k
  unfold par_May.f
  repeat' first
      | (with_reducible exact par_even.mono _ _)
      | (with_reducible exact LeO.refl _)
      | (with_reducible exact LeO.none _)
      | (with_reducible refine LeO.ite ?_ ?_)
      | (with_reducible refine LeO.bind ?_ (fun _ => ?_))
      | exact par_even.mono _ _
      | exact LeO.none _
      | refine LeO.ite ?_ ?_
      | refine LeO.bind ?_ (fun _ => ?_)
set_option maxHeartbeats 8000000 in
set_option maxRecDepth 100000 in
theorem par_May.calls (k : Nat) (A0 : Option Addr) (c0 : Nat) (l0 : List (List Int)) (r : Bool) (w : World) (hr0 : Kd.C (Kd.slice 5 (Kd.int .u8)) w A0 l0.length l0) (hc0 : l0.length ≤ c0) (h : par_May.f k l0 = some r) :
    Calls Try.prog 19 #[.slice A0 l0.length c0] w fun e w' => e = .returned (.bool r) ∧ Below w.heap.size w w' := by
  have HR0 := Aside0.mk hr0
  have HC0 := Aside0.mk hc0
  clear hr0 hc0
  have HB := Aside0.mk (Below.refl w.heap.size w)
  have H : (if (l0.length : Int) > 0 then (if (l0.length : Int) ≤ 12 then ((par_even.f k l0).bind fun t106 => (some t106)) else (some false)) else (some false)) = some r := h
  clear h
  by_cases c2 : (l0.length : Int) > 0
  · rw [if_pos c2] at H
    have c2b0 : decide (0 < (l0.length : Int)) = true := decide_eq_true c2
    have c2b1 : decide (0 < l0.length) = true := decide_eq_true (by omega)
    clear c2
    by_cases c3 : (l0.length : Int) ≤ 12
    · rw [if_pos c3] at H
      have c3b0 : decide ((l0.length : Int) ≤ 12) = true := decide_eq_true c3
      have c3b1 : decide (l0.length ≤ 12) = true := decide_eq_true (by omega)
      clear c3
      replace H := Option.bind_eq_some_iff.mp H
      obtain ⟨t106, A40, H⟩ := H
      replace H : (some t106) = some r := H
      have A4 := Aside0.mk A40
      clear A40
      obtain rfl := Option.some.inj H
      go_enter Try.func19, Try.ntmps19
      go_wp2_with (first | (go_at_call 43; (with_reducible refine (par_even.calls k _ _ l0 t106 _ ?side1 ?side2 A4.out).mono ?_); (case side1 => repeat (first | exact HR0.out | (with_reducible refine Kd.C_alloc ?_ _) | (with_reducible refine Kd.C_drewN ?_ _) | (with_reducible refine Kd.C_drew ?_))); (case side2 => exact HC0.out); rintro e w5 ⟨rfl, hb⟩; have n0_ := Aside0.mk (below_step (by repeat (first | (with_reducible first | exact HB.out | apply below_alloc | apply pw_below_drewN | apply below_drew1) | exact HB.out)) hb); clear HB; have HB := n0_; clear n0_; (try clear hb); (try clear hb2); (try clear hk); (try clear hi)))
      go_ret
      exact ⟨by first | rfl | (simp [errW_none, errW_some] <;> rfl) | (simp [*, errW_none, errW_some] <;> rfl), by repeat (first | (with_reducible first | exact HB.out | apply below_alloc | apply pw_below_drewN | apply below_drew1) | exact HB.out)⟩
    · rw [if_neg c3] at H
      have c3b0 : decide ((l0.length : Int) ≤ 12) = false := decide_eq_false c3
      have c3b1 : decide (l0.length ≤ 12) = false := decide_eq_false (by omega)
      clear c3
      obtain rfl := Option.some.inj H
      go_enter Try.func19, Try.ntmps19
      go_wp2
      go_ret
      exact ⟨by first | rfl | (simp [errW_none, errW_some] <;> rfl) | (simp [*, errW_none, errW_some] <;> rfl), by repeat (first | (with_reducible first | exact HB.out | apply below_alloc | apply pw_below_drewN | apply below_drew1) | exact HB.out)⟩
  · rw [if_neg c2] at H
    have c2b0 : decide (0 < (l0.length : Int)) = false := decide_eq_false c2
    have c2b1 : decide (0 < l0.length) = false := decide_eq_false (by omega)
    clear c2
    obtain rfl := Option.some.inj H
    go_enter Try.func19, Try.ntmps19
    go_wp2
    go_ret
    exact ⟨by first | rfl | (simp [errW_none, errW_some] <;> rfl) | (simp [*, errW_none, errW_some] <;> rfl), by repeat (first | (with_reducible first | exact HB.out | apply below_alloc | apply pw_below_drewN | apply below_drew1) | exact HB.out)⟩

/-! ### quicksetref_ParMay: function 20 -/
mutual
def quicksetref_ParMay.j0 : Nat → List (List Int) → Bool → Option (Bool)
  | 0, _, _ => none
  | k + 1, x0, x12 => if x12 = true then (some false) else (quicksetref_ParMay.l0 k x0 x0 (x0.length : Int) 0)
def quicksetref_ParMay.l0 : Nat → List (List Int) → List (List Int) → Int → Int → Option (Bool)
  | 0, _, _, _, _ => none
  | k + 1, x0, x13, x14, x15 => if x15 < x14 then (if 0 ≤ x15 then (if x15 < (x13.length : Int) then (if 0 < (x0.length : Int) then (if ((rd_L1 x13 x15).length : Int) = ((rd_L1 x0 0).length : Int) then (if ((rd_L1 x13 x15).length : Int) > 4096 then (some false) else (quicksetref_ParMay.l0 k x0 x13 x14 (wrap64 (x15 + 1)))) else (some false)) else (none)) else (none)) else (none)) else (some true)
end
def quicksetref_ParMay.f (k : Nat) (l0 : List (List Int)) : Option (Bool) := if (l0.length : Int) < 1 then (quicksetref_ParMay.j0 k l0 true) else (quicksetref_ParMay.j0 k l0 (decide ((l0.length : Int) > 12)))
theorem quicksetref_ParMay.mono_l : ∀ k, (∀ y0 y1, LeO (quicksetref_ParMay.j0 k y0 y1) (quicksetref_ParMay.j0 (k + 1) y0 y1)) ∧ (∀ y0 y1 y2 y3, LeO (quicksetref_ParMay.l0 k y0 y1 y2 y3) (quicksetref_ParMay.l0 (k + 1) y0 y1 y2 y3))
  | 0 => ⟨fun _ _ r h => by simp [quicksetref_ParMay.j0] at h, fun _ _ _ _ r h => by simp [quicksetref_ParMay.l0] at h⟩
  | k + 1 => by
    obtain ⟨ih0, ih1⟩ := quicksetref_ParMay.mono_l k
    refine ⟨?_, ?_⟩
    · intro y0 y1
      unfold quicksetref_ParMay.j0
      repeat' first
      | (with_reducible exact ih0 _ _)
      | (with_reducible exact ih1 _ _ _ _)
      | (with_reducible exact LeO.refl _)
      | (with_reducible exact LeO.none _)
      | (with_reducible refine LeO.ite ?_ ?_)
      | (with_reducible refine LeO.bind ?_ (fun _ => ?_))
      | exact ih0 _ _
      | exact ih1 _ _ _ _
      | exact LeO.none _
      | refine LeO.ite ?_ ?_
      | refine LeO.bind ?_ (fun _ => ?_)
    · intro y0 y1 y2 y3
      unfold quicksetref_ParMay.l0
      repeat' first
      | (with_reducible exact ih0 _ _)
      | (with_reducible exact ih1 _ _ _ _)
      | (with_reducible exact LeO.refl _)
      | (with_reducible exact LeO.none _)
      | (with_reducible refine LeO.ite ?_ ?_)
      | (with_reducible refine LeO.bind ?_ (fun _ => ?_))
      | exact ih0 _ _
      | exact ih1 _ _ _ _
      | exact LeO.none _
      | refine LeO.ite ?_ ?_
      | refine LeO.bind ?_ (fun _ => ?_)
theorem quicksetref_ParMay.mono : ∀ a0 k, LeO (quicksetref_ParMay.f k a0) (quicksetref_ParMay.f (k + 1) a0) := by
  intro a0 k
  obtain ⟨ih0, ih1⟩ := quicksetref_ParMay.mono_l k
  unfold quicksetref_ParMay.f
  repeat' first
      | (with_reducible exact ih0 _ _)
      | (with_reducible exact ih1 _ _ _ _)
      | (with_reducible exact LeO.refl _)
      | (with_reducible exact LeO.none _)
      | (with_reducible refine LeO.ite ?_ ?_)
      | (with_reducible refine LeO.bind ?_ (fun _ => ?_))
      | exact ih0 _ _
      | exact ih1 _ _ _ _
      | exact LeO.none _
      | refine LeO.ite ?_ ?_
      | refine LeO.bind ?_ (fun _ => ?_)
set_option maxHeartbeats 8000000 in
set_option maxRecDepth 100000 in
theorem quicksetref_ParMay.calls (k : Nat) (A0 : Option Addr) (c0 : Nat) (l0 : List (List Int)) (r : Bool) (w : World) (hr0 : Kd.C (Kd.slice 5 (Kd.int .u8)) w A0 l0.length l0) (hc0 : l0.length ≤ c0) (h : quicksetref_ParMay.f k l0 = some r) :
    Calls Try.prog 20 #[.slice A0 l0.length c0] w fun e w' => e = .returned (.bool r) ∧ Drawn0 w w' := by
  have HR0 := Aside0.mk hr0
  have HC0 := Aside0.mk hc0
  clear hr0 hc0
  have H : (if (l0.length : Int) < 1 then (quicksetref_ParMay.j0 k l0 true) else (quicksetref_ParMay.j0 k l0 (decide ((l0.length : Int) > 12)))) = some r := h
  clear h
  have HC2 := Aside0.mk H
  clear H
  go_enter Try.func20, Try.ntmps20
  go_upto_region 1 with (fail)
  go_cut [12] (fun v12 wc => ∃ (kq : Nat) (x12_1 : Bool), v12 = .bool x12_1 ∧ Aside0 (quicksetref_ParMay.j0 kq l0 x12_1 = some r) ∧ Aside0 (kq ≤ k) ∧ Drawn0 w wc)
  case first =>
    have H := HC2.out
    clear HC2
    by_cases c3 : (l0.length : Int) < 1
    · rw [if_pos c3] at H
      have c3b0 : decide ((l0.length : Int) < 1) = true := decide_eq_true c3
      have c3b1 : decide (l0.length < 1) = true := decide_eq_true (by omega)
      clear c3
      (first | rw [c3b0] | (simp only [i64_w, i32_w]; rw [c3b0]) | skip)
      have H' := Aside0.mk H
      clear H
      go_wp2
      go_meet
      case rel => exact ⟨_, (true), (by first | rfl | (simp; done) | (simp [*]; done)), H', ⟨by first | omega | exact Nat.le_refl _⟩, by repeat (first | exact Drawn0.refl _ | apply Drawn0.step)⟩
    · rw [if_neg c3] at H
      have c3b0 : decide ((l0.length : Int) < 1) = false := decide_eq_false c3
      have c3b1 : decide (l0.length < 1) = false := decide_eq_false (by omega)
      clear c3
      (first | rw [c3b0] | (simp only [i64_w, i32_w]; rw [c3b0]) | skip)
      have H' := Aside0.mk H
      clear H
      go_wp2
      go_meet
      case rel => exact ⟨_, (decide ((l0.length : Int) > 12)), (by first | rfl | (simp; done) | (simp [*]; done)), H', ⟨by first | omega | exact Nat.le_refl _⟩, by repeat (first | exact Drawn0.refl _ | apply Drawn0.step)⟩
  case rest =>
    clear HC2
    try clear c2
    try clear p2
    try clear c3
    try clear c3b0
    try clear c3b1
    obtain ⟨kq, x12_1, rfl, HA, HJ1, ⟨mc1, rfl⟩⟩ := hcut
    cases kq with
    | zero => exact absurd HA.out (by simp [quicksetref_ParMay.j0])
    | succ kj1 =>
      have H := HA.out
      clear HA
      simp only [quicksetref_ParMay.j0] at H
      by_cases c4 : x12_1 = true
      · subst c4
        have H1 : (some false) = some r := by rw [if_pos rfl] at H; exact H
        clear H
        have H := H1
        clear H1
        obtain rfl := Option.some.inj H
        go_wp2
        go_ret
        exact ⟨by first | rfl | (simp; done) | (simp [*]; done), by repeat (first | exact Drawn0.refl _ | apply Drawn0.step)⟩
      · replace c4 := Bool.eq_false_iff.mpr c4
        subst c4
        have H1 : (quicksetref_ParMay.l0 kj1 l0 l0 (l0.length : Int) 0) = some r := by rw [if_neg (show ¬ (false = true) by decide)] at H; exact H
        clear H
        have H := H1
        clear H1
        have H' := Aside0.mk H
        clear H
        go_wp2
        go_loopg [15] kj1 (fun kq v15 w' => ∃ (x15_2 : Int), v15 = .int .i64 x15_2 ∧ Aside0 (quicksetref_ParMay.l0 kq l0 l0 (l0.length : Int) x15_2 = some r) ∧ Aside0 (kq ≤ kj1) ∧ Drawn0 w w')
        case atStart => exact ⟨(0), (by first | rfl | (simp; done) | (simp [*]; done)), H', ⟨Nat.le_refl _⟩, by repeat (first | exact Drawn0.refl _ | apply Drawn0.step)⟩
        case round =>
          clear H'
          try clear c1
          try clear c2
          try clear p2
          try clear c3
          try clear c3b0
          try clear c3b1
          try clear c4
          try clear p2
          obtain ⟨x15_2, rfl, HA, HK2, ⟨m2, rfl⟩⟩ := hrel
          cases gk with
          | zero => exact absurd HA.out (by simp [quicksetref_ParMay.l0])
          | succ k2 =>
            have H := HA.out
            clear HA
            simp only [quicksetref_ParMay.l0] at H
            by_cases c5 : x15_2 < (l0.length : Int)
            · rw [if_pos c5] at H
              have c5b0 : decide (x15_2 < (l0.length : Int)) = true := decide_eq_true c5
              clear c5
              by_cases c6 : 0 ≤ x15_2
              · rw [if_pos c6] at H
                have c6b0 : decide (0 ≤ x15_2) = true := decide_eq_true c6
                clear c6
                by_cases c7 : x15_2 < (l0.length : Int)
                · rw [if_pos c7] at H
                  have c7b0 : decide (x15_2 < (l0.length : Int)) = true := decide_eq_true c7
                  clear c7
                  by_cases c8 : 0 < (l0.length : Int)
                  · rw [if_pos c8] at H
                    have c8b0 : decide (0 < (l0.length : Int)) = true := decide_eq_true c8
                    have c8b1 : decide (0 < l0.length) = true := decide_eq_true (by omega)
                    clear c8
                    by_cases c9 : ((rd_L1 l0 x15_2).length : Int) = ((rd_L1 l0 0).length : Int)
                    · rw [if_pos c9] at H
                      have c9b0 : (((rd_L1 l0 x15_2).length : Int) == ((rd_L1 l0 0).length : Int)) = true := beq_iff_eq.mpr c9
                      have c9b1 : (((rd_L1 l0 x15_2).length : Int) != ((rd_L1 l0 0).length : Int)) = false := bne_eq_false_iff_eq.mpr c9
                      have c9b2 : ((rd_L1 l0 x15_2).length == (rd_L1 l0 0).length) = true := by first | simpa using c9 | (simp at c9 ⊢; omega)
                      clear c9
                      by_cases c10 : ((rd_L1 l0 x15_2).length : Int) > 4096
                      · rw [if_pos c10] at H
                        have c10b0 : decide (4096 < ((rd_L1 l0 x15_2).length : Int)) = true := decide_eq_true c10
                        have c10b1 : decide (4096 < (rd_L1 l0 x15_2).length) = true := decide_eq_true (by omega)
                        clear c10
                        obtain rfl := Option.some.inj H
                        have p107 : 0 ≤ (x15_2 : Int) := of_decide_eq_true (by first | (with_reducible assumption) | assumption)
                        have q107 : x15_2 < (l0.length : Int) := of_decide_eq_true (by first | (with_reducible assumption) | assumption)
                        obtain ⟨ad107, A107_0, c107_0, e107, hx107_0, hl107_0, hi107_0⟩ := at_L1 HR0.out x15_2 p107 q107
                        cases e107
                        have HR107_0 := Aside0.mk hi107_0
                        have HC107_0 := Aside0.mk hl107_0
                        clear hi107_0 hl107_0
                        replace p107 := eq_true p107
                        replace q107 := eq_true q107
                        have p108 : 0 ≤ (0 : Int) := (by omega)
                        have q108 : 0 < (l0.length : Int) := of_decide_eq_true (by first | (with_reducible assumption) | assumption)
                        obtain ⟨ad108, A108_0, c108_0, e108, hx108_0, hl108_0, hi108_0⟩ := at_L1 HR0.out 0 p108 q108
                        obtain rfl : ad107 = ad108 := (by injection e108)
                        have qi108 : (0 < l0.length) = True := eq_true (by omega)
                        (try rw [show ((0 : Int)).toNat = 0 from rfl] at hx108_0)
                        (try rw [Addr.add_zero'] at hx108_0)
                        have HR108_0 := Aside0.mk hi108_0
                        have HC108_0 := Aside0.mk hl108_0
                        clear hi108_0 hl108_0
                        replace p108 := eq_true p108
                        replace q108 := eq_true q108
                        go_wp2
                        go_ret
                        exact ⟨by first | rfl | (simp; done) | (simp [*]; done), by repeat (first | exact Drawn0.refl _ | apply Drawn0.step)⟩
                      · rw [if_neg c10] at H
                        have c10b0 : decide (4096 < ((rd_L1 l0 x15_2).length : Int)) = false := decide_eq_false c10
                        have c10b1 : decide (4096 < (rd_L1 l0 x15_2).length) = false := decide_eq_false (by omega)
                        clear c10
                        have H' := Aside0.mk H
                        clear H
                        have p107 : 0 ≤ (x15_2 : Int) := of_decide_eq_true (by first | (with_reducible assumption) | assumption)
                        have q107 : x15_2 < (l0.length : Int) := of_decide_eq_true (by first | (with_reducible assumption) | assumption)
                        obtain ⟨ad107, A107_0, c107_0, e107, hx107_0, hl107_0, hi107_0⟩ := at_L1 HR0.out x15_2 p107 q107
                        cases e107
                        have HR107_0 := Aside0.mk hi107_0
                        have HC107_0 := Aside0.mk hl107_0
                        clear hi107_0 hl107_0
                        replace p107 := eq_true p107
                        replace q107 := eq_true q107
                        have p108 : 0 ≤ (0 : Int) := (by omega)
                        have q108 : 0 < (l0.length : Int) := of_decide_eq_true (by first | (with_reducible assumption) | assumption)
                        obtain ⟨ad108, A108_0, c108_0, e108, hx108_0, hl108_0, hi108_0⟩ := at_L1 HR0.out 0 p108 q108
                        obtain rfl : ad107 = ad108 := (by injection e108)
                        have qi108 : (0 < l0.length) = True := eq_true (by omega)
                        (try rw [show ((0 : Int)).toNat = 0 from rfl] at hx108_0)
                        (try rw [Addr.add_zero'] at hx108_0)
                        have HR108_0 := Aside0.mk hi108_0
                        have HC108_0 := Aside0.mk hl108_0
                        clear hi108_0 hl108_0
                        replace p108 := eq_true p108
                        replace q108 := eq_true q108
                        go_wp2
                        go_roundg k2
                        case measure => have := HJ1.out; have := HK2.out; omega
                        case rel => exact ⟨(wrap64 (x15_2 + 1)), (by first | rfl | (simp; done) | (simp [*]; done)), H', ⟨by have := HJ1.out; have := HK2.out; omega⟩, by repeat (first | exact Drawn0.refl _ | apply Drawn0.step)⟩
                    · rw [if_neg c9] at H
                      have c9b0 : (((rd_L1 l0 x15_2).length : Int) == ((rd_L1 l0 0).length : Int)) = false := beq_eq_false_iff_ne.mpr c9
                      have c9b1 : (((rd_L1 l0 x15_2).length : Int) != ((rd_L1 l0 0).length : Int)) = true := bne_iff_ne.mpr c9
                      have c9b2 : ((rd_L1 l0 x15_2).length == (rd_L1 l0 0).length) = false := by first | simpa using c9 | (simp at c9 ⊢; omega)
                      obtain rfl := Option.some.inj H
                      have p107 : 0 ≤ (x15_2 : Int) := of_decide_eq_true (by first | (with_reducible assumption) | assumption)
                      have q107 : x15_2 < (l0.length : Int) := of_decide_eq_true (by first | (with_reducible assumption) | assumption)
                      obtain ⟨ad107, A107_0, c107_0, e107, hx107_0, hl107_0, hi107_0⟩ := at_L1 HR0.out x15_2 p107 q107
                      cases e107
                      have HR107_0 := Aside0.mk hi107_0
                      have HC107_0 := Aside0.mk hl107_0
                      clear hi107_0 hl107_0
                      replace p107 := eq_true p107
                      replace q107 := eq_true q107
                      have p108 : 0 ≤ (0 : Int) := (by omega)
                      have q108 : 0 < (l0.length : Int) := of_decide_eq_true (by first | (with_reducible assumption) | assumption)
                      obtain ⟨ad108, A108_0, c108_0, e108, hx108_0, hl108_0, hi108_0⟩ := at_L1 HR0.out 0 p108 q108
                      obtain rfl : ad107 = ad108 := (by injection e108)
                      have qi108 : (0 < l0.length) = True := eq_true (by omega)
                      (try rw [show ((0 : Int)).toNat = 0 from rfl] at hx108_0)
                      (try rw [Addr.add_zero'] at hx108_0)
                      have HR108_0 := Aside0.mk hi108_0
                      have HC108_0 := Aside0.mk hl108_0
                      clear hi108_0 hl108_0
                      replace p108 := eq_true p108
                      replace q108 := eq_true q108
                      go_wp2
                      go_ret
                      exact ⟨by first | rfl | (simp; done) | (simp [*]; done), by repeat (first | exact Drawn0.refl _ | apply Drawn0.step)⟩
                  · rw [if_neg c8] at H
                    exact absurd H (by simp)
                · rw [if_neg c7] at H
                  exact absurd H (by simp)
              · rw [if_neg c6] at H
                exact absurd H (by simp)
            · rw [if_neg c5] at H
              have c5b0 : decide (x15_2 < (l0.length : Int)) = false := decide_eq_false c5
              clear c5
              obtain rfl := Option.some.inj H
              go_wp2
              go_ret
              exact ⟨by first | rfl | (simp; done) | (simp [*]; done), by repeat (first | exact Drawn0.refl _ | apply Drawn0.step)⟩

/-! ### quicksetlaw_ParMays: function 5 -/
def quicksetlaw_ParMays.f (k : Nat) (l0 : List (List Int)) : Option (Bool) := (par_May.f k l0).bind fun t109 => ((quicksetref_ParMay.f k l0).bind fun t110 => (some (t109 == t110)))
theorem quicksetlaw_ParMays.mono : ∀ a0 k, LeO (quicksetlaw_ParMays.f k a0) (quicksetlaw_ParMays.f (k + 1) a0) := by
  intro a0 k
  unfold quicksetlaw_ParMays.f
  repeat' first
      | (with_reducible exact par_May.mono _ _)
      | (with_reducible exact quicksetref_ParMay.mono _ _)
      | (with_reducible exact LeO.refl _)
      | (with_reducible exact LeO.none _)
      | (with_reducible refine LeO.ite ?_ ?_)
      | (with_reducible refine LeO.bind ?_ (fun _ => ?_))
      | exact par_May.mono _ _
      | exact quicksetref_ParMay.mono _ _
      | exact LeO.none _
      | refine LeO.ite ?_ ?_
      | refine LeO.bind ?_ (fun _ => ?_)
set_option maxHeartbeats 8000000 in
set_option maxRecDepth 100000 in
theorem quicksetlaw_ParMays.calls (k : Nat) (A0 : Option Addr) (c0 : Nat) (l0 : List (List Int)) (r : Bool) (w : World) (hr0 : Kd.C (Kd.slice 5 (Kd.int .u8)) w A0 l0.length l0) (hc0 : l0.length ≤ c0) (h : quicksetlaw_ParMays.f k l0 = some r) :
    Calls Try.prog 5 #[.slice A0 l0.length c0] w fun e w' => e = .returned (.bool r) ∧ Below w.heap.size w w' := by
  have HR0 := Aside0.mk hr0
  have HC0 := Aside0.mk hc0
  clear hr0 hc0
  have HB := Aside0.mk (Below.refl w.heap.size w)
  have H : ((par_May.f k l0).bind fun t109 => ((quicksetref_ParMay.f k l0).bind fun t110 => (some (t109 == t110)))) = some r := h
  clear h
  replace H := Option.bind_eq_some_iff.mp H
  obtain ⟨t109, A20, H⟩ := H
  replace H : ((quicksetref_ParMay.f k l0).bind fun t110 => (some (t109 == t110))) = some r := H
  have A2 := Aside0.mk A20
  clear A20
  replace H := Option.bind_eq_some_iff.mp H
  obtain ⟨t110, A30, H⟩ := H
  replace H : (some (t109 == t110)) = some r := H
  have A3 := Aside0.mk A30
  clear A30
  obtain rfl := Option.some.inj H
  go_enter Try.func5, Try.ntmps5
  go_wp2_with (first | ((with_reducible refine gate_callee (f := 19) rfl ?_); refine goesL_ (some 4) rfl rfl Try.func19 (by kernel_rfl) rfl #[.slice A0 l0.length c0] rfl (by (try simp only [List.map_toArray, List.map_cons, List.map_nil]); first | done | rfl | (simp only [List.length_drop, List.length_take]; rfl)) ?_; (with_reducible refine (par_May.calls k _ _ l0 t109 _ ?side1 ?side2 A2.out).mono ?_); (case side1 => repeat (first | exact HR0.out | (with_reducible refine Kd.C_alloc ?_ _) | (with_reducible refine Kd.C_drewN ?_ _) | (with_reducible refine Kd.C_drew ?_))); (case side2 => exact HC0.out); rintro e w4 ⟨rfl, hb⟩; refine ⟨_, rfl, ?_⟩; have n0_ := Aside0.mk (below_step (by repeat (first | (with_reducible first | exact HB.out | apply below_alloc | apply pw_below_drewN | apply below_drew1) | exact HB.out)) hb); clear HB; have HB := n0_; clear n0_; (try clear hb); (try clear hb2); (try clear hk); (try clear hi)) | ((with_reducible refine gate_callee (f := 20) rfl ?_); refine goesL_ (some 6) rfl rfl Try.func20 (by kernel_rfl) rfl #[.slice A0 l0.length c0] rfl (by (try simp only [List.map_toArray, List.map_cons, List.map_nil]); first | done | rfl | (simp only [List.length_drop, List.length_take]; rfl)) ?_; (with_reducible refine (quicksetref_ParMay.calls k _ _ l0 t110 _ ?side1 ?side2 A3.out).mono ?_); (case side1 => repeat (first | exact (Kd.C_below HR0.out HB.out) | (with_reducible refine Kd.C_alloc ?_ _) | (with_reducible refine Kd.C_drewN ?_ _) | (with_reducible refine Kd.C_drew ?_))); (case side2 => exact HC0.out); rintro e w' ⟨rfl, ⟨nd, rfl⟩⟩; refine ⟨_, rfl, ?_⟩))
  go_ret
  exact ⟨by first | rfl | (simp [errW_none, errW_some] <;> rfl) | (simp [*, errW_none, errW_some] <;> rfl), by repeat (first | (with_reducible first | exact HB.out | apply below_alloc | apply pw_below_drewN | apply below_drew1) | exact HB.out)⟩

end Go.Proofs.Ytgibkbiofdmiaaa.QParMays
