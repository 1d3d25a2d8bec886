/- Printed from a stub by wip/stub.py with the kit's print.py, then turned by hand. -/
import Derived.Test.YthnchojddoefiaaLabelW
import Derived.StillTailTactics
import Derived.Test.YthnchojddoefiaaLabelD
import Derived.StillTailTactics
import Derived.Test.YthnchojddoefiaaQLabelBestsx0
namespace Go.Proofs.Ythnchojddoefiaa.QLabelBests
open Go.RowKit Go.Proofs.YthnchojddoefiaaW.PrintWords Go.Proofs.YthnchojddoefiaaW.PrintLast Go.Proofs.YthnchojddoefiaaW.PrintMore
attribute [local go_sem] max2_int min2_int max_two min_two max_three min_three max_four min_four   -- for this text's walks alone
set_option linter.unusedVariables false
set_option linter.unusedSimpArgs false

/-! ### quicksetref_fromLow: function 60 -/
def quicksetref_fromLow.l0 : Nat → List Int → Int → Int → Option (Int)
  | 0, _, _, _ => none
  | k + 1, x0, x3, x4 => if x4 ≥ 0 then (if 0 ≤ x4 then (if x4 < (x0.length : Int) then (quicksetref_fromLow.l0 k x0 (IntKind.u64.wrap ((IntKind.u64.wrap (x3 * 256)) + (IntKind.u64.wrap (rd x0 x4)))) (wrap64 (x4 - 1))) else (none)) else (none)) else (some (wrap64 (x3)))
def quicksetref_fromLow.f (k : Nat) (l0 : List Int) : Option (Int) := quicksetref_fromLow.l0 k l0 0 (wrap64 ((l0.length : Int) - 1))
theorem quicksetref_fromLow.mono_l : ∀ k, (∀ y0 y1 y2, LeO (quicksetref_fromLow.l0 k y0 y1 y2) (quicksetref_fromLow.l0 (k + 1) y0 y1 y2))
  | 0 => fun _ _ _ r h => by simp [quicksetref_fromLow.l0] at h
  | k + 1 => by
    have ih0 := quicksetref_fromLow.mono_l k
    · intro y0 y1 y2
      unfold quicksetref_fromLow.l0
      repeat' first
      | (with_reducible exact ih0 _ _ _)
      | (with_reducible exact LeO.refl _)
      | (with_reducible exact LeO.none _)
      | (with_reducible refine LeO.ite ?_ ?_)
      | (with_reducible refine LeO.bind ?_ (fun _ => ?_))
      | exact ih0 _ _ _
      | exact LeO.none _
      | refine LeO.ite ?_ ?_
      | refine LeO.bind ?_ (fun _ => ?_)
theorem quicksetref_fromLow.mono : ∀ a0 k, LeO (quicksetref_fromLow.f k a0) (quicksetref_fromLow.f (k + 1) a0) := by
  intro a0 k
  have ih0 := quicksetref_fromLow.mono_l k
  unfold quicksetref_fromLow.f
  repeat' first
      | (with_reducible exact ih0 _ _ _)
      | (with_reducible exact LeO.refl _)
      | (with_reducible exact LeO.none _)
      | (with_reducible refine LeO.ite ?_ ?_)
      | (with_reducible refine LeO.bind ?_ (fun _ => ?_))
      | exact ih0 _ _ _
      | exact LeO.none _
      | refine LeO.ite ?_ ?_
      | refine LeO.bind ?_ (fun _ => ?_)
set_option maxHeartbeats 8000000 in
set_option maxRecDepth 100000 in
theorem quicksetref_fromLow.calls (k : Nat) (A0 : Option Addr) (c0 : Nat) (l0 : List Int) (r : Int) (w : World) (hr0 : Kd.C (Kd.int .u8) w A0 l0.length l0) (hc0 : l0.length ≤ c0) (h : quicksetref_fromLow.f k l0 = some r) :
    Calls Try.prog 60 #[.slice A0 l0.length c0] w fun e w' => e = .returned (.int .i64 r) ∧ Drawn0 w w' := by
  have HR0 := Aside0.mk hr0
  have HC0 := Aside0.mk hc0
  clear hr0 hc0
  have H : (quicksetref_fromLow.l0 k l0 0 (wrap64 ((l0.length : Int) - 1))) = some r := h
  clear h
  have H' := Aside0.mk H
  clear H
  go_enter Try.func60, Try.ntmps60
  go_wp2
  go_loopg [3, 4] k (fun kq v3 v4 w' => ∃ (x3_1 : Int) (x4_1 : Int), v3 = .int .u64 x3_1 ∧ v4 = .int .i64 x4_1 ∧ Aside0 (quicksetref_fromLow.l0 kq l0 x3_1 x4_1 = some r) ∧ Aside0 (kq ≤ k) ∧ Drawn0 w w')
  case atStart => exact ⟨(0), (wrap64 ((l0.length : Int) - 1)), (by first | rfl | (simp; done) | (simp [*]; done)), (by first | rfl | (simp; done) | (simp [*]; done)), H', ⟨Nat.le_refl _⟩, by repeat (first | exact Drawn0.refl _ | apply Drawn0.step)⟩
  case round =>
    clear H'
    obtain ⟨x3_1, x4_1, rfl, rfl, HA, HK1, ⟨m1, rfl⟩⟩ := hrel
    cases gk with
    | zero => exact absurd HA.out (by simp [quicksetref_fromLow.l0])
    | succ k1 =>
      have H := HA.out
      clear HA
      simp only [quicksetref_fromLow.l0] at H
      by_cases c2 : x4_1 ≥ 0
      · rw [if_pos c2] at H
        have c2b0 : decide (0 ≤ x4_1) = true := decide_eq_true c2
        clear c2
        by_cases c3 : 0 ≤ x4_1
        · rw [if_pos c3] at H
          have c3b0 : decide (0 ≤ x4_1) = true := decide_eq_true c3
          clear c3
          by_cases c4 : x4_1 < (l0.length : Int)
          · rw [if_pos c4] at H
            have c4b0 : decide (x4_1 < (l0.length : Int)) = true := decide_eq_true c4
            clear c4
            have H' := Aside0.mk H
            clear H
            have p101 : 0 ≤ (x4_1 : Int) := of_decide_eq_true (by first | (with_reducible assumption) | assumption)
            have q101 : x4_1 < (l0.length : Int) := of_decide_eq_true (by first | (with_reducible assumption) | assumption)
            obtain ⟨ad101, e101, hx101_0⟩ := Kd.at_int HR0.out x4_1 p101 q101
            cases e101
            replace p101 := eq_true p101
            replace q101 := eq_true q101
            go_wp2
            go_roundg k1
            case measure => have := HK1.out; omega
            case rel => exact ⟨(IntKind.u64.wrap ((IntKind.u64.wrap (x3_1 * 256)) + (IntKind.u64.wrap (rd l0 x4_1)))), (wrap64 (x4_1 - 1)), (by first | rfl | (simp; done) | (simp [*]; done)), (by first | rfl | (simp; done) | (simp [*]; done)), H', ⟨by have := HK1.out; omega⟩, by repeat (first | exact Drawn0.refl _ | apply Drawn0.step)⟩
          · rw [if_neg c4] at H
            exact absurd H (by simp)
        · rw [if_neg c3] at H
          exact absurd H (by simp)
      · rw [if_neg c2] at H
        have c2b0 : decide (0 ≤ x4_1) = false := decide_eq_false c2
        clear c2
        obtain rfl := Option.some.inj H
        go_wp2
        go_ret
        exact ⟨by first | rfl | (simp; done) | (simp [*]; done), by repeat (first | exact Drawn0.refl _ | apply Drawn0.step)⟩

/-! ### label_in: function 95 -/
def label_in.f (a0 : Int) (a1 : Int) (a2 : Int) : Option (Bool) := if a0 ≥ a1 then (some (decide (a0 ≤ a2))) else (some false)
set_option maxHeartbeats 8000000 in
set_option maxRecDepth 100000 in
theorem label_in.calls (a0 : Int) (a1 : Int) (a2 : Int) (r : Bool) (w : World) (h : label_in.f a0 a1 a2 = some r) :
    Calls Try.prog 95 #[.int .i64 a0, .int .i64 a1, .int .i64 a2] w fun e w' => e = .returned (.bool r) ∧ Drawn0 w w' := by
  have H : (if a0 ≥ a1 then (some (decide (a0 ≤ a2))) else (some false)) = some r := h
  clear h
  by_cases c4 : a0 ≥ a1
  · rw [if_pos c4] at H
    have c4b0 : decide (a1 ≤ a0) = true := decide_eq_true c4
    clear c4
    obtain rfl := Option.some.inj H
    go_enter Try.func95, Try.ntmps95
    go_wp2
    go_ret
    exact ⟨by first | rfl | (simp; done) | (simp [*]; done), by repeat (first | exact Drawn0.refl _ | apply Drawn0.step)⟩
  · rw [if_neg c4] at H
    have c4b0 : decide (a1 ≤ a0) = false := decide_eq_false c4
    clear c4
    obtain rfl := Option.some.inj H
    go_enter Try.func95, Try.ntmps95
    go_wp2
    go_ret
    exact ⟨by first | rfl | (simp; done) | (simp [*]; done), by repeat (first | exact Drawn0.refl _ | apply Drawn0.step)⟩

/-! ### label_May: function 47 -/
def label_May.f (a0_0 : Int) (a0_1 : Int) (a0_2 : Int) (a0_3 : Int) (a0_4 : Int) (a0_5 : Int) (a0_6 : Int) (a0_7 : Int) (a0_8 : Int) (a0_9 : Int) (a0_10 : Int) (a0_11 : Int) (a0_12 : Int) : Option (Bool) := (label_in.f a0_0 1 1048576).bind fun t104 => (if t104 = true then ((label_in.f a0_2 2 8).bind fun t105 => (if t105 = true then ((label_in.f a0_1 0 (wrap64 (a0_2 - 1))).bind fun t106 => (if t106 = true then ((label_in.f a0_3 1 (mn 3 (wrap64 (a0_2 - 1)))).bind fun t107 => (if t107 = true then ((label_in.f a0_4 0 1048576).bind fun t108 => (if t108 = true then ((label_in.f a0_5 0 65536).bind fun t109 => (if t109 = true then ((label_in.f a0_6 0 32).bind fun t110 => (if t110 = true then ((label_in.f a0_7 0 (wrap64 (a0_6 * 128))).bind fun t111 => (if t111 = true then ((label_in.f a0_8 0 a0_4).bind fun t112 => (some t112)) else (some false))) else (some false))) else (some false))) else (some false))) else (some false))) else (some false))) else (some false))) else (some false))
set_option maxHeartbeats 8000000 in
set_option maxRecDepth 100000 in
theorem label_May.calls (a0_0 : Int) (a0_1 : Int) (a0_2 : Int) (a0_3 : Int) (a0_4 : Int) (a0_5 : Int) (a0_6 : Int) (a0_7 : Int) (a0_8 : Int) (a0_9 : Int) (a0_10 : Int) (a0_11 : Int) (a0_12 : Int) (r : Bool) (w : World) (h : label_May.f a0_0 a0_1 a0_2 a0_3 a0_4 a0_5 a0_6 a0_7 a0_8 a0_9 a0_10 a0_11 a0_12 = some r) :
    Calls Try.prog 47 #[.agg #[.int .i64 a0_0, .int .i64 a0_1, .int .i64 a0_2, .int .i64 a0_3, .int .i64 a0_4, .int .i64 a0_5, .int .i64 a0_6, .int .i64 a0_7, .int .i64 a0_8, .int .i64 a0_9, .int .i64 a0_10, .int .i64 a0_11, .int .i64 a0_12]] w fun e w' => e = .returned (.bool r) ∧ Below w.heap.size w w' := by
  have hu27 := Try.underlying27
  have hu25 := Try.underlying25
  have HB := Aside0.mk (Below.refl w.heap.size w)
  have H : ((label_in.f a0_0 1 1048576).bind fun t104 => (if t104 = true then ((label_in.f a0_2 2 8).bind fun t105 => (if t105 = true then ((label_in.f a0_1 0 (wrap64 (a0_2 - 1))).bind fun t106 => (if t106 = true then ((label_in.f a0_3 1 (mn 3 (wrap64 (a0_2 - 1)))).bind fun t107 => (if t107 = true then ((label_in.f a0_4 0 1048576).bind fun t108 => (if t108 = true then ((label_in.f a0_5 0 65536).bind fun t109 => (if t109 = true then ((label_in.f a0_6 0 32).bind fun t110 => (if t110 = true then ((label_in.f a0_7 0 (wrap64 (a0_6 * 128))).bind fun t111 => (if t111 = true then ((label_in.f a0_8 0 a0_4).bind fun t112 => (some t112)) else (some false))) else (some false))) else (some false))) else (some false))) else (some false))) else (some false))) else (some false))) else (some false))) = some r := h
  clear h
  replace H := Option.bind_eq_some_iff.mp H
  obtain ⟨t104, A20, H⟩ := H
  replace H : (if t104 = true then ((label_in.f a0_2 2 8).bind fun t105 => (if t105 = true then ((label_in.f a0_1 0 (wrap64 (a0_2 - 1))).bind fun t106 => (if t106 = true then ((label_in.f a0_3 1 (mn 3 (wrap64 (a0_2 - 1)))).bind fun t107 => (if t107 = true then ((label_in.f a0_4 0 1048576).bind fun t108 => (if t108 = true then ((label_in.f a0_5 0 65536).bind fun t109 => (if t109 = true then ((label_in.f a0_6 0 32).bind fun t110 => (if t110 = true then ((label_in.f a0_7 0 (wrap64 (a0_6 * 128))).bind fun t111 => (if t111 = true then ((label_in.f a0_8 0 a0_4).bind fun t112 => (some t112)) else (some false))) else (some false))) else (some false))) else (some false))) else (some false))) else (some false))) else (some false))) else (some false)) = some r := H
  have A2 := Aside0.mk A20
  clear A20
  by_cases c3 : t104 = true
  · subst c3
    have H1 : ((label_in.f a0_2 2 8).bind fun t105 => (if t105 = true then ((label_in.f a0_1 0 (wrap64 (a0_2 - 1))).bind fun t106 => (if t106 = true then ((label_in.f a0_3 1 (mn 3 (wrap64 (a0_2 - 1)))).bind fun t107 => (if t107 = true then ((label_in.f a0_4 0 1048576).bind fun t108 => (if t108 = true then ((label_in.f a0_5 0 65536).bind fun t109 => (if t109 = true then ((label_in.f a0_6 0 32).bind fun t110 => (if t110 = true then ((label_in.f a0_7 0 (wrap64 (a0_6 * 128))).bind fun t111 => (if t111 = true then ((label_in.f a0_8 0 a0_4).bind fun t112 => (some t112)) else (some false))) else (some false))) else (some false))) else (some false))) else (some false))) else (some false))) else (some false))) = some r := by rw [if_pos rfl] at H; exact H
    clear H
    have H := H1
    clear H1
    replace H := Option.bind_eq_some_iff.mp H
    obtain ⟨t105, A40, H⟩ := H
    replace H : (if t105 = true then ((label_in.f a0_1 0 (wrap64 (a0_2 - 1))).bind fun t106 => (if t106 = true then ((label_in.f a0_3 1 (mn 3 (wrap64 (a0_2 - 1)))).bind fun t107 => (if t107 = true then ((label_in.f a0_4 0 1048576).bind fun t108 => (if t108 = true then ((label_in.f a0_5 0 65536).bind fun t109 => (if t109 = true then ((label_in.f a0_6 0 32).bind fun t110 => (if t110 = true then ((label_in.f a0_7 0 (wrap64 (a0_6 * 128))).bind fun t111 => (if t111 = true then ((label_in.f a0_8 0 a0_4).bind fun t112 => (some t112)) else (some false))) else (some false))) else (some false))) else (some false))) else (some false))) else (some false))) else (some false)) = some r := H
    have A4 := Aside0.mk A40
    clear A40
    by_cases c5 : t105 = true
    · subst c5
      have H1 : ((label_in.f a0_1 0 (wrap64 (a0_2 - 1))).bind fun t106 => (if t106 = true then ((label_in.f a0_3 1 (mn 3 (wrap64 (a0_2 - 1)))).bind fun t107 => (if t107 = true then ((label_in.f a0_4 0 1048576).bind fun t108 => (if t108 = true then ((label_in.f a0_5 0 65536).bind fun t109 => (if t109 = true then ((label_in.f a0_6 0 32).bind fun t110 => (if t110 = true then ((label_in.f a0_7 0 (wrap64 (a0_6 * 128))).bind fun t111 => (if t111 = true then ((label_in.f a0_8 0 a0_4).bind fun t112 => (some t112)) else (some false))) else (some false))) else (some false))) else (some false))) else (some false))) else (some false))) = some r := by rw [if_pos rfl] at H; exact H
      clear H
      have H := H1
      clear H1
      replace H := Option.bind_eq_some_iff.mp H
      obtain ⟨t106, A60, H⟩ := H
      replace H : (if t106 = true then ((label_in.f a0_3 1 (mn 3 (wrap64 (a0_2 - 1)))).bind fun t107 => (if t107 = true then ((label_in.f a0_4 0 1048576).bind fun t108 => (if t108 = true then ((label_in.f a0_5 0 65536).bind fun t109 => (if t109 = true then ((label_in.f a0_6 0 32).bind fun t110 => (if t110 = true then ((label_in.f a0_7 0 (wrap64 (a0_6 * 128))).bind fun t111 => (if t111 = true then ((label_in.f a0_8 0 a0_4).bind fun t112 => (some t112)) else (some false))) else (some false))) else (some false))) else (some false))) else (some false))) else (some false)) = some r := H
      have A6 := Aside0.mk A60
      clear A60
      by_cases c7 : t106 = true
      · subst c7
        have H1 : ((label_in.f a0_3 1 (mn 3 (wrap64 (a0_2 - 1)))).bind fun t107 => (if t107 = true then ((label_in.f a0_4 0 1048576).bind fun t108 => (if t108 = true then ((label_in.f a0_5 0 65536).bind fun t109 => (if t109 = true then ((label_in.f a0_6 0 32).bind fun t110 => (if t110 = true then ((label_in.f a0_7 0 (wrap64 (a0_6 * 128))).bind fun t111 => (if t111 = true then ((label_in.f a0_8 0 a0_4).bind fun t112 => (some t112)) else (some false))) else (some false))) else (some false))) else (some false))) else (some false))) = some r := by rw [if_pos rfl] at H; exact H
        clear H
        have H := H1
        clear H1
        obtain ⟨ji8, hji8⟩ : ∃ j_ : Int, (mn 3 (wrap64 (a0_2 - 1))) = j_ := ⟨_, rfl⟩
        replace H : ((label_in.f a0_3 1 (ji8)).bind fun t107 => (if t107 = true then ((label_in.f a0_4 0 1048576).bind fun t108 => (if t108 = true then ((label_in.f a0_5 0 65536).bind fun t109 => (if t109 = true then ((label_in.f a0_6 0 32).bind fun t110 => (if t110 = true then ((label_in.f a0_7 0 (wrap64 (a0_6 * 128))).bind fun t111 => (if t111 = true then ((label_in.f a0_8 0 a0_4).bind fun t112 => (some t112)) else (some false))) else (some false))) else (some false))) else (some false))) else (some false))) = some r := by first | (rw [hji8] at H; exact H) | (simp only [hji8] at H ⊢; exact H)
        (try rw [hji8] at A2)
        (try rw [hji8] at A4)
        (try rw [hji8] at A6)
        (try (have hji8h : ji8 ≤ 3 := by (rw [← hji8]; unfold mn; (repeat' split) <;> omega)))
        (try (have hji8g : ji8 ≤ 64 := by omega))
        have hji8_ : (if (wrap64 (a0_2 - 1)) < 3 then (wrap64 (a0_2 - 1)) else 3) = ji8 := hji8
        replace H := Option.bind_eq_some_iff.mp H
        obtain ⟨t107, A90, H⟩ := H
        replace H : (if t107 = true then ((label_in.f a0_4 0 1048576).bind fun t108 => (if t108 = true then ((label_in.f a0_5 0 65536).bind fun t109 => (if t109 = true then ((label_in.f a0_6 0 32).bind fun t110 => (if t110 = true then ((label_in.f a0_7 0 (wrap64 (a0_6 * 128))).bind fun t111 => (if t111 = true then ((label_in.f a0_8 0 a0_4).bind fun t112 => (some t112)) else (some false))) else (some false))) else (some false))) else (some false))) else (some false)) = some r := H
        have A9 := Aside0.mk A90
        clear A90
        by_cases c10 : t107 = true
        · subst c10
          have H1 : ((label_in.f a0_4 0 1048576).bind fun t108 => (if t108 = true then ((label_in.f a0_5 0 65536).bind fun t109 => (if t109 = true then ((label_in.f a0_6 0 32).bind fun t110 => (if t110 = true then ((label_in.f a0_7 0 (wrap64 (a0_6 * 128))).bind fun t111 => (if t111 = true then ((label_in.f a0_8 0 a0_4).bind fun t112 => (some t112)) else (some false))) else (some false))) else (some false))) else (some false))) = some r := by rw [if_pos rfl] at H; exact H
          clear H
          have H := H1
          clear H1
          replace H := Option.bind_eq_some_iff.mp H
          obtain ⟨t108, A110, H⟩ := H
          replace H : (if t108 = true then ((label_in.f a0_5 0 65536).bind fun t109 => (if t109 = true then ((label_in.f a0_6 0 32).bind fun t110 => (if t110 = true then ((label_in.f a0_7 0 (wrap64 (a0_6 * 128))).bind fun t111 => (if t111 = true then ((label_in.f a0_8 0 a0_4).bind fun t112 => (some t112)) else (some false))) else (some false))) else (some false))) else (some false)) = some r := H
          have A11 := Aside0.mk A110
          clear A110
          by_cases c12 : t108 = true
          · subst c12
            have H1 : ((label_in.f a0_5 0 65536).bind fun t109 => (if t109 = true then ((label_in.f a0_6 0 32).bind fun t110 => (if t110 = true then ((label_in.f a0_7 0 (wrap64 (a0_6 * 128))).bind fun t111 => (if t111 = true then ((label_in.f a0_8 0 a0_4).bind fun t112 => (some t112)) else (some false))) else (some false))) else (some false))) = some r := by rw [if_pos rfl] at H; exact H
            clear H
            have H := H1
            clear H1
            replace H := Option.bind_eq_some_iff.mp H
            obtain ⟨t109, A130, H⟩ := H
            replace H : (if t109 = true then ((label_in.f a0_6 0 32).bind fun t110 => (if t110 = true then ((label_in.f a0_7 0 (wrap64 (a0_6 * 128))).bind fun t111 => (if t111 = true then ((label_in.f a0_8 0 a0_4).bind fun t112 => (some t112)) else (some false))) else (some false))) else (some false)) = some r := H
            have A13 := Aside0.mk A130
            clear A130
            by_cases c14 : t109 = true
            · subst c14
              have H1 : ((label_in.f a0_6 0 32).bind fun t110 => (if t110 = true then ((label_in.f a0_7 0 (wrap64 (a0_6 * 128))).bind fun t111 => (if t111 = true then ((label_in.f a0_8 0 a0_4).bind fun t112 => (some t112)) else (some false))) else (some false))) = some r := by rw [if_pos rfl] at H; exact H
              clear H
              have H := H1
              clear H1
              replace H := Option.bind_eq_some_iff.mp H
              obtain ⟨t110, A150, H⟩ := H
              replace H : (if t110 = true then ((label_in.f a0_7 0 (wrap64 (a0_6 * 128))).bind fun t111 => (if t111 = true then ((label_in.f a0_8 0 a0_4).bind fun t112 => (some t112)) else (some false))) else (some false)) = some r := H
              have A15 := Aside0.mk A150
              clear A150
              by_cases c16 : t110 = true
              · subst c16
                have H1 : ((label_in.f a0_7 0 (wrap64 (a0_6 * 128))).bind fun t111 => (if t111 = true then ((label_in.f a0_8 0 a0_4).bind fun t112 => (some t112)) else (some false))) = some r := by rw [if_pos rfl] at H; exact H
                clear H
                have H := H1
                clear H1
                replace H := Option.bind_eq_some_iff.mp H
                obtain ⟨t111, A170, H⟩ := H
                replace H : (if t111 = true then ((label_in.f a0_8 0 a0_4).bind fun t112 => (some t112)) else (some false)) = some r := H
                have A17 := Aside0.mk A170
                clear A170
                by_cases c18 : t111 = true
                · subst c18
                  have H1 : ((label_in.f a0_8 0 a0_4).bind fun t112 => (some t112)) = some r := by rw [if_pos rfl] at H; exact H
                  clear H
                  have H := H1
                  clear H1
                  replace H := Option.bind_eq_some_iff.mp H
                  obtain ⟨t112, A190, H⟩ := H
                  replace H : (some t112) = some r := H
                  have A19 := Aside0.mk A190
                  clear A190
                  obtain rfl := Option.some.inj H
                  go_enter Try.func47, Try.ntmps47
                  go_wp2_with (first | ((with_reducible refine gate_dst (N := 1) rfl ?_); (try (refine gate_guard (by rfl) ?_; dsimp only)); refine box_event ?hg (N := 1) ?hd (cs := #[.int .i64 a0_0, .int .i64 a0_1, .int .i64 a0_2, .int .i64 a0_3, .int .i64 a0_4, .int .i64 a0_5, .int .i64 a0_6, .int .i64 a0_7, .int .i64 a0_8, .int .i64 a0_9, .int .i64 a0_10, .int .i64 a0_11, .int .i64 a0_12]) (t := 27) ?hr ?_; (case hd => rfl); (case hg => rfl); (case hr => first | (go_simp; done) | (go_simp; rfl)); intro gb102 hg w20 hbox hb; have n0_ := Aside0.mk (below_step (by repeat (first | (with_reducible first | exact HB.out | apply below_alloc | apply pw_below_drewN | apply below_drew1) | exact HB.out)) hb); have n1_ := Aside0.mk (hbox); have n2_ := Aside0.mk ((by rw [hg]; exact (below_size (by repeat (first | (with_reducible first | exact HB.out | apply below_alloc | apply pw_below_drewN | apply below_drew1) | exact HB.out))) : w.heap.size ≤ gb102)); have n3_ := Aside0.mk ((by rw [hg]; exact (below_size (by repeat (first | (with_reducible first | exact HB.out | apply below_alloc | apply pw_below_drewN | apply below_drew1) | exact HB.out))) : w.heap.size ≤ gb102)); clear HB; have HB := n0_; have BK102 := n1_; have GW102 := n2_; have GE102 := n3_; clear n0_ n1_ n2_ n3_; clear hb hbox hg; have hcz21_0 : w20.cell? ⟨gb102, 0, none⟩ = some (.int .i64 a0_0) := (blk_cell BK102.out 0).trans rfl; have hcz21_1 : w20.cell? ⟨gb102, 1, none⟩ = some (.int .i64 a0_1) := (blk_cell BK102.out 1).trans rfl; have hcz21_2 : w20.cell? ⟨gb102, 2, none⟩ = some (.int .i64 a0_2) := (blk_cell BK102.out 2).trans rfl; have hcz21_3 : w20.cell? ⟨gb102, 3, none⟩ = some (.int .i64 a0_3) := (blk_cell BK102.out 3).trans rfl; have hcz21_4 : w20.cell? ⟨gb102, 4, none⟩ = some (.int .i64 a0_4) := (blk_cell BK102.out 4).trans rfl; have hcz21_5 : w20.cell? ⟨gb102, 5, none⟩ = some (.int .i64 a0_5) := (blk_cell BK102.out 5).trans rfl; have hcz21_6 : w20.cell? ⟨gb102, 6, none⟩ = some (.int .i64 a0_6) := (blk_cell BK102.out 6).trans rfl; have hcz21_7 : w20.cell? ⟨gb102, 7, none⟩ = some (.int .i64 a0_7) := (blk_cell BK102.out 7).trans rfl; have hcz21_8 : w20.cell? ⟨gb102, 8, none⟩ = some (.int .i64 a0_8) := (blk_cell BK102.out 8).trans rfl; have hcz21_9 : w20.cell? ⟨gb102, 9, none⟩ = some (.int .i64 a0_9) := (blk_cell BK102.out 9).trans rfl; have hcz21_10 : w20.cell? ⟨gb102, 10, none⟩ = some (.int .i64 a0_10) := (blk_cell BK102.out 10).trans rfl; have hcz21_11 : w20.cell? ⟨gb102, 11, none⟩ = some (.int .i64 a0_11) := (blk_cell BK102.out 11).trans rfl; have hcz21_12 : w20.cell? ⟨gb102, 12, none⟩ = some (.int .i64 a0_12) := (blk_cell BK102.out 12).trans rfl; have hfz21_0 := blk_frozen BK102.out 0; have hfz21_1 := blk_frozen BK102.out 1; have hfz21_2 := blk_frozen BK102.out 2; have hfz21_3 := blk_frozen BK102.out 3; have hfz21_4 := blk_frozen BK102.out 4; have hfz21_5 := blk_frozen BK102.out 5; have hfz21_6 := blk_frozen BK102.out 6; have hfz21_7 := blk_frozen BK102.out 7; have hfz21_8 := blk_frozen BK102.out 8; have hfz21_9 := blk_frozen BK102.out 9; have hfz21_10 := blk_frozen BK102.out 10; have hfz21_11 := blk_frozen BK102.out 11; have hfz21_12 := blk_frozen BK102.out 12) | ((with_reducible refine gate_dst (N := 3) rfl ?_); (try (refine gate_guard (by rfl) ?_; dsimp only)); refine box_event ?hg (N := 3) ?hd (cs := #[.int .i64 0, .int .i64 0, .int .i64 0, .int .i64 0, .int .i64 0, .int .i64 0, .int .i64 0, .int .i64 0]) (t := 25) ?hr ?_; (case hd => rfl); (case hg => rfl); (case hr => first | (go_simp; done) | (go_simp; rfl)); intro gb103 hg w22 hbox hb; have n0_ := Aside0.mk (blk_below (g := gb102) (o := .cells #[.int .i64 a0_0, .int .i64 a0_1, .int .i64 a0_2, .int .i64 a0_3, .int .i64 a0_4, .int .i64 a0_5, .int .i64 a0_6, .int .i64 a0_7, .int .i64 a0_8, .int .i64 a0_9, .int .i64 a0_10, .int .i64 a0_11, .int .i64 a0_12] 27 (0, 0)) (by (with_reducible repeat (first | refine blk_drewN ?_ _ | refine blk_drew ?_ | refine blk_alloc ?_ _)); exact BK102.out) hb); have n1_ := Aside0.mk (below_step (by repeat (first | (with_reducible first | exact HB.out | apply below_alloc | apply pw_below_drewN | apply below_drew1 | refine below_set ?_ GE102.out) | exact HB.out)) hb); have n2_ := Aside0.mk (hbox); have n3_ := Aside0.mk ((by rw [hg]; exact (below_size (by repeat (first | (with_reducible first | exact HB.out | apply below_alloc | apply pw_below_drewN | apply below_drew1 | refine below_set ?_ GE102.out) | exact HB.out))) : w.heap.size ≤ gb103)); have n4_ := Aside0.mk ((by rw [hg]; exact (below_size (by repeat (first | (with_reducible first | exact HB.out | apply below_alloc | apply pw_below_drewN | apply below_drew1 | refine below_set ?_ GE102.out) | exact HB.out))) : w.heap.size ≤ gb103)); have n5_ := Aside0.mk ((by rw [hg]; exact Nat.ne_of_lt (blk_lt (g := gb102) (o := .cells #[.int .i64 a0_0, .int .i64 a0_1, .int .i64 a0_2, .int .i64 a0_3, .int .i64 a0_4, .int .i64 a0_5, .int .i64 a0_6, .int .i64 a0_7, .int .i64 a0_8, .int .i64 a0_9, .int .i64 a0_10, .int .i64 a0_11, .int .i64 a0_12] 27 (0, 0)) (by (with_reducible repeat (first | refine blk_drewN ?_ _ | refine blk_drew ?_ | refine blk_alloc ?_ _)); exact BK102.out)) : gb102 ≠ gb103)); have n6_ := Aside0.mk ((by rw [hg]; exact Nat.ne_of_gt (blk_lt (g := gb102) (o := .cells #[.int .i64 a0_0, .int .i64 a0_1, .int .i64 a0_2, .int .i64 a0_3, .int .i64 a0_4, .int .i64 a0_5, .int .i64 a0_6, .int .i64 a0_7, .int .i64 a0_8, .int .i64 a0_9, .int .i64 a0_10, .int .i64 a0_11, .int .i64 a0_12] 27 (0, 0)) (by (with_reducible repeat (first | refine blk_drewN ?_ _ | refine blk_drew ?_ | refine blk_alloc ?_ _)); exact BK102.out)) : gb103 ≠ gb102)); clear BK102; clear HB; have BK102 := n0_; have HB := n1_; have BK103 := n2_; have GW103 := n3_; have GE103 := n4_; have NB102_103 := n5_; have NB103_102 := n6_; clear n0_ n1_ n2_ n3_ n4_ n5_ n6_; clear hb hbox hg; have hnb23 := NB103_102.out; have hnc23 := NB102_103.out; have hcz24_0 : w22.cell? ⟨gb103, 0, none⟩ = some (.int .i64 0) := (blk_cell BK103.out 0).trans rfl; have hcz24_1 : w22.cell? ⟨gb103, 1, none⟩ = some (.int .i64 0) := (blk_cell BK103.out 1).trans rfl; have hcz24_2 : w22.cell? ⟨gb103, 2, none⟩ = some (.int .i64 0) := (blk_cell BK103.out 2).trans rfl; have hcz24_3 : w22.cell? ⟨gb103, 3, none⟩ = some (.int .i64 0) := (blk_cell BK103.out 3).trans rfl; have hcz24_4 : w22.cell? ⟨gb103, 4, none⟩ = some (.int .i64 0) := (blk_cell BK103.out 4).trans rfl; have hcz24_5 : w22.cell? ⟨gb103, 5, none⟩ = some (.int .i64 0) := (blk_cell BK103.out 5).trans rfl; have hcz24_6 : w22.cell? ⟨gb103, 6, none⟩ = some (.int .i64 0) := (blk_cell BK103.out 6).trans rfl; have hcz24_7 : w22.cell? ⟨gb103, 7, none⟩ = some (.int .i64 0) := (blk_cell BK103.out 7).trans rfl; have hfz24_0 := blk_frozen BK103.out 0; have hfz24_1 := blk_frozen BK103.out 1; have hfz24_2 := blk_frozen BK103.out 2; have hfz24_3 := blk_frozen BK103.out 3; have hfz24_4 := blk_frozen BK103.out 4; have hfz24_5 := blk_frozen BK103.out 5; have hfz24_6 := blk_frozen BK103.out 6; have hfz24_7 := blk_frozen BK103.out 7; have hcz25_0 : w22.cell? ⟨gb102, 0, none⟩ = some (.int .i64 a0_0) := (blk_cell BK102.out 0).trans rfl; have hcz25_1 : w22.cell? ⟨gb102, 1, none⟩ = some (.int .i64 a0_1) := (blk_cell BK102.out 1).trans rfl; have hcz25_2 : w22.cell? ⟨gb102, 2, none⟩ = some (.int .i64 a0_2) := (blk_cell BK102.out 2).trans rfl; have hcz25_3 : w22.cell? ⟨gb102, 3, none⟩ = some (.int .i64 a0_3) := (blk_cell BK102.out 3).trans rfl; have hcz25_4 : w22.cell? ⟨gb102, 4, none⟩ = some (.int .i64 a0_4) := (blk_cell BK102.out 4).trans rfl; have hcz25_5 : w22.cell? ⟨gb102, 5, none⟩ = some (.int .i64 a0_5) := (blk_cell BK102.out 5).trans rfl; have hcz25_6 : w22.cell? ⟨gb102, 6, none⟩ = some (.int .i64 a0_6) := (blk_cell BK102.out 6).trans rfl; have hcz25_7 : w22.cell? ⟨gb102, 7, none⟩ = some (.int .i64 a0_7) := (blk_cell BK102.out 7).trans rfl; have hcz25_8 : w22.cell? ⟨gb102, 8, none⟩ = some (.int .i64 a0_8) := (blk_cell BK102.out 8).trans rfl; have hcz25_9 : w22.cell? ⟨gb102, 9, none⟩ = some (.int .i64 a0_9) := (blk_cell BK102.out 9).trans rfl; have hcz25_10 : w22.cell? ⟨gb102, 10, none⟩ = some (.int .i64 a0_10) := (blk_cell BK102.out 10).trans rfl; have hcz25_11 : w22.cell? ⟨gb102, 11, none⟩ = some (.int .i64 a0_11) := (blk_cell BK102.out 11).trans rfl; have hcz25_12 : w22.cell? ⟨gb102, 12, none⟩ = some (.int .i64 a0_12) := (blk_cell BK102.out 12).trans rfl; have hfz25_0 := blk_frozen BK102.out 0; have hfz25_1 := blk_frozen BK102.out 1; have hfz25_2 := blk_frozen BK102.out 2; have hfz25_3 := blk_frozen BK102.out 3; have hfz25_4 := blk_frozen BK102.out 4; have hfz25_5 := blk_frozen BK102.out 5; have hfz25_6 := blk_frozen BK102.out 6; have hfz25_7 := blk_frozen BK102.out 7; have hfz25_8 := blk_frozen BK102.out 8; have hfz25_9 := blk_frozen BK102.out 9; have hfz25_10 := blk_frozen BK102.out 10; have hfz25_11 := blk_frozen BK102.out 11; have hfz25_12 := blk_frozen BK102.out 12) | ((with_reducible refine gate_callee (f := 95) rfl ?_); refine goesL_ (some 8) rfl rfl Try.func95 (by kernel_rfl) rfl #[.int .i64 a0_0, .int .i64 1, .int .i64 1048576] rfl (by (try simp only [List.map_toArray, List.map_cons, List.map_nil]); first | done | rfl | (simp only [List.length_drop, List.length_take]; rfl)) ?_; (with_reducible refine (label_in.calls a0_0 1 1048576 true _ A2.out).mono ?_); rintro e w' ⟨rfl, ⟨nd, rfl⟩⟩; refine ⟨_, rfl, ?_⟩) | (go_at_call 95; (with_reducible refine (label_in.calls a0_2 2 8 true _ A4.out).mono ?_); rintro e w' ⟨rfl, ⟨nd, rfl⟩⟩) | (go_at_call 95; (with_reducible refine (label_in.calls a0_1 0 (wrap64 (a0_2 - 1)) true _ A6.out).mono ?_); rintro e w' ⟨rfl, ⟨nd, rfl⟩⟩) | (go_at_call 95; (with_reducible refine (label_in.calls a0_3 1 ji8 true _ A9.out).mono ?_); rintro e w' ⟨rfl, ⟨nd, rfl⟩⟩) | (go_at_call 95; (with_reducible refine (label_in.calls a0_4 0 1048576 true _ A11.out).mono ?_); rintro e w' ⟨rfl, ⟨nd, rfl⟩⟩) | (go_at_call 95; (with_reducible refine (label_in.calls a0_5 0 65536 true _ A13.out).mono ?_); rintro e w' ⟨rfl, ⟨nd, rfl⟩⟩) | (go_at_call 95; (with_reducible refine (label_in.calls a0_6 0 32 true _ A15.out).mono ?_); rintro e w' ⟨rfl, ⟨nd, rfl⟩⟩) | (go_at_call 95; (with_reducible refine (label_in.calls a0_7 0 (wrap64 (a0_6 * 128)) true _ A17.out).mono ?_); rintro e w' ⟨rfl, ⟨nd, rfl⟩⟩) | (go_at_call 95; (with_reducible refine (label_in.calls a0_8 0 a0_4 t112 _ A19.out).mono ?_); rintro e w' ⟨rfl, ⟨nd, rfl⟩⟩))
                  go_ret
                  exact ⟨by first | rfl | (simp [errW_none, errW_some] <;> rfl) | (simp only [← hji8]; first | rfl | (simp [errW_none, errW_some] <;> rfl)) | (simp [*, errW_none, errW_some] <;> rfl), by repeat (first | (with_reducible first | exact HB.out | apply below_alloc | apply pw_below_drewN | apply below_drew1 | refine below_set ?_ GE102.out | refine below_set ?_ GE103.out) | exact HB.out)⟩
                · replace c18 := Bool.eq_false_iff.mpr c18
                  subst c18
                  have H1 : (some false) = some r := by rw [if_neg (show ¬ (false = true) by decide)] at H; exact H
                  clear H
                  have H := H1
                  clear H1
                  obtain rfl := Option.some.inj H
                  go_enter Try.func47, Try.ntmps47
                  go_wp2_with (first | ((with_reducible refine gate_dst (N := 1) rfl ?_); (try (refine gate_guard (by rfl) ?_; dsimp only)); refine box_event ?hg (N := 1) ?hd (cs := #[.int .i64 a0_0, .int .i64 a0_1, .int .i64 a0_2, .int .i64 a0_3, .int .i64 a0_4, .int .i64 a0_5, .int .i64 a0_6, .int .i64 a0_7, .int .i64 a0_8, .int .i64 a0_9, .int .i64 a0_10, .int .i64 a0_11, .int .i64 a0_12]) (t := 27) ?hr ?_; (case hd => rfl); (case hg => rfl); (case hr => first | (go_simp; done) | (go_simp; rfl)); intro gb102 hg w26 hbox hb; have n0_ := Aside0.mk (below_step (by repeat (first | (with_reducible first | exact HB.out | apply below_alloc | apply pw_below_drewN | apply below_drew1) | exact HB.out)) hb); have n1_ := Aside0.mk (hbox); have n2_ := Aside0.mk ((by rw [hg]; exact (below_size (by repeat (first | (with_reducible first | exact HB.out | apply below_alloc | apply pw_below_drewN | apply below_drew1) | exact HB.out))) : w.heap.size ≤ gb102)); have n3_ := Aside0.mk ((by rw [hg]; exact (below_size (by repeat (first | (with_reducible first | exact HB.out | apply below_alloc | apply pw_below_drewN | apply below_drew1) | exact HB.out))) : w.heap.size ≤ gb102)); clear HB; have HB := n0_; have BK102 := n1_; have GW102 := n2_; have GE102 := n3_; clear n0_ n1_ n2_ n3_; clear hb hbox hg; have hcz27_0 : w26.cell? ⟨gb102, 0, none⟩ = some (.int .i64 a0_0) := (blk_cell BK102.out 0).trans rfl; have hcz27_1 : w26.cell? ⟨gb102, 1, none⟩ = some (.int .i64 a0_1) := (blk_cell BK102.out 1).trans rfl; have hcz27_2 : w26.cell? ⟨gb102, 2, none⟩ = some (.int .i64 a0_2) := (blk_cell BK102.out 2).trans rfl; have hcz27_3 : w26.cell? ⟨gb102, 3, none⟩ = some (.int .i64 a0_3) := (blk_cell BK102.out 3).trans rfl; have hcz27_4 : w26.cell? ⟨gb102, 4, none⟩ = some (.int .i64 a0_4) := (blk_cell BK102.out 4).trans rfl; have hcz27_5 : w26.cell? ⟨gb102, 5, none⟩ = some (.int .i64 a0_5) := (blk_cell BK102.out 5).trans rfl; have hcz27_6 : w26.cell? ⟨gb102, 6, none⟩ = some (.int .i64 a0_6) := (blk_cell BK102.out 6).trans rfl; have hcz27_7 : w26.cell? ⟨gb102, 7, none⟩ = some (.int .i64 a0_7) := (blk_cell BK102.out 7).trans rfl; have hcz27_8 : w26.cell? ⟨gb102, 8, none⟩ = some (.int .i64 a0_8) := (blk_cell BK102.out 8).trans rfl; have hcz27_9 : w26.cell? ⟨gb102, 9, none⟩ = some (.int .i64 a0_9) := (blk_cell BK102.out 9).trans rfl; have hcz27_10 : w26.cell? ⟨gb102, 10, none⟩ = some (.int .i64 a0_10) := (blk_cell BK102.out 10).trans rfl; have hcz27_11 : w26.cell? ⟨gb102, 11, none⟩ = some (.int .i64 a0_11) := (blk_cell BK102.out 11).trans rfl; have hcz27_12 : w26.cell? ⟨gb102, 12, none⟩ = some (.int .i64 a0_12) := (blk_cell BK102.out 12).trans rfl; have hfz27_0 := blk_frozen BK102.out 0; have hfz27_1 := blk_frozen BK102.out 1; have hfz27_2 := blk_frozen BK102.out 2; have hfz27_3 := blk_frozen BK102.out 3; have hfz27_4 := blk_frozen BK102.out 4; have hfz27_5 := blk_frozen BK102.out 5; have hfz27_6 := blk_frozen BK102.out 6; have hfz27_7 := blk_frozen BK102.out 7; have hfz27_8 := blk_frozen BK102.out 8; have hfz27_9 := blk_frozen BK102.out 9; have hfz27_10 := blk_frozen BK102.out 10; have hfz27_11 := blk_frozen BK102.out 11; have hfz27_12 := blk_frozen BK102.out 12) | ((with_reducible refine gate_dst (N := 3) rfl ?_); (try (refine gate_guard (by rfl) ?_; dsimp only)); refine box_event ?hg (N := 3) ?hd (cs := #[.int .i64 0, .int .i64 0, .int .i64 0, .int .i64 0, .int .i64 0, .int .i64 0, .int .i64 0, .int .i64 0]) (t := 25) ?hr ?_; (case hd => rfl); (case hg => rfl); (case hr => first | (go_simp; done) | (go_simp; rfl)); intro gb103 hg w28 hbox hb; have n0_ := Aside0.mk (blk_below (g := gb102) (o := .cells #[.int .i64 a0_0, .int .i64 a0_1, .int .i64 a0_2, .int .i64 a0_3, .int .i64 a0_4, .int .i64 a0_5, .int .i64 a0_6, .int .i64 a0_7, .int .i64 a0_8, .int .i64 a0_9, .int .i64 a0_10, .int .i64 a0_11, .int .i64 a0_12] 27 (0, 0)) (by (with_reducible repeat (first | refine blk_drewN ?_ _ | refine blk_drew ?_ | refine blk_alloc ?_ _)); exact BK102.out) hb); have n1_ := Aside0.mk (below_step (by repeat (first | (with_reducible first | exact HB.out | apply below_alloc | apply pw_below_drewN | apply below_drew1 | refine below_set ?_ GE102.out) | exact HB.out)) hb); have n2_ := Aside0.mk (hbox); have n3_ := Aside0.mk ((by rw [hg]; exact (below_size (by repeat (first | (with_reducible first | exact HB.out | apply below_alloc | apply pw_below_drewN | apply below_drew1 | refine below_set ?_ GE102.out) | exact HB.out))) : w.heap.size ≤ gb103)); have n4_ := Aside0.mk ((by rw [hg]; exact (below_size (by repeat (first | (with_reducible first | exact HB.out | apply below_alloc | apply pw_below_drewN | apply below_drew1 | refine below_set ?_ GE102.out) | exact HB.out))) : w.heap.size ≤ gb103)); have n5_ := Aside0.mk ((by rw [hg]; exact Nat.ne_of_lt (blk_lt (g := gb102) (o := .cells #[.int .i64 a0_0, .int .i64 a0_1, .int .i64 a0_2, .int .i64 a0_3, .int .i64 a0_4, .int .i64 a0_5, .int .i64 a0_6, .int .i64 a0_7, .int .i64 a0_8, .int .i64 a0_9, .int .i64 a0_10, .int .i64 a0_11, .int .i64 a0_12] 27 (0, 0)) (by (with_reducible repeat (first | refine blk_drewN ?_ _ | refine blk_drew ?_ | refine blk_alloc ?_ _)); exact BK102.out)) : gb102 ≠ gb103)); have n6_ := Aside0.mk ((by rw [hg]; exact Nat.ne_of_gt (blk_lt (g := gb102) (o := .cells #[.int .i64 a0_0, .int .i64 a0_1, .int .i64 a0_2, .int .i64 a0_3, .int .i64 a0_4, .int .i64 a0_5, .int .i64 a0_6, .int .i64 a0_7, .int .i64 a0_8, .int .i64 a0_9, .int .i64 a0_10, .int .i64 a0_11, .int .i64 a0_12] 27 (0, 0)) (by (with_reducible repeat (first | refine blk_drewN ?_ _ | refine blk_drew ?_ | refine blk_alloc ?_ _)); exact BK102.out)) : gb103 ≠ gb102)); clear BK102; clear HB; have BK102 := n0_; have HB := n1_; have BK103 := n2_; have GW103 := n3_; have GE103 := n4_; have NB102_103 := n5_; have NB103_102 := n6_; clear n0_ n1_ n2_ n3_ n4_ n5_ n6_; clear hb hbox hg; have hnb29 := NB103_102.out; have hnc29 := NB102_103.out; have hcz30_0 : w28.cell? ⟨gb103, 0, none⟩ = some (.int .i64 0) := (blk_cell BK103.out 0).trans rfl; have hcz30_1 : w28.cell? ⟨gb103, 1, none⟩ = some (.int .i64 0) := (blk_cell BK103.out 1).trans rfl; have hcz30_2 : w28.cell? ⟨gb103, 2, none⟩ = some (.int .i64 0) := (blk_cell BK103.out 2).trans rfl; have hcz30_3 : w28.cell? ⟨gb103, 3, none⟩ = some (.int .i64 0) := (blk_cell BK103.out 3).trans rfl; have hcz30_4 : w28.cell? ⟨gb103, 4, none⟩ = some (.int .i64 0) := (blk_cell BK103.out 4).trans rfl; have hcz30_5 : w28.cell? ⟨gb103, 5, none⟩ = some (.int .i64 0) := (blk_cell BK103.out 5).trans rfl; have hcz30_6 : w28.cell? ⟨gb103, 6, none⟩ = some (.int .i64 0) := (blk_cell BK103.out 6).trans rfl; have hcz30_7 : w28.cell? ⟨gb103, 7, none⟩ = some (.int .i64 0) := (blk_cell BK103.out 7).trans rfl; have hfz30_0 := blk_frozen BK103.out 0; have hfz30_1 := blk_frozen BK103.out 1; have hfz30_2 := blk_frozen BK103.out 2; have hfz30_3 := blk_frozen BK103.out 3; have hfz30_4 := blk_frozen BK103.out 4; have hfz30_5 := blk_frozen BK103.out 5; have hfz30_6 := blk_frozen BK103.out 6; have hfz30_7 := blk_frozen BK103.out 7; have hcz31_0 : w28.cell? ⟨gb102, 0, none⟩ = some (.int .i64 a0_0) := (blk_cell BK102.out 0).trans rfl; have hcz31_1 : w28.cell? ⟨gb102, 1, none⟩ = some (.int .i64 a0_1) := (blk_cell BK102.out 1).trans rfl; have hcz31_2 : w28.cell? ⟨gb102, 2, none⟩ = some (.int .i64 a0_2) := (blk_cell BK102.out 2).trans rfl; have hcz31_3 : w28.cell? ⟨gb102, 3, none⟩ = some (.int .i64 a0_3) := (blk_cell BK102.out 3).trans rfl; have hcz31_4 : w28.cell? ⟨gb102, 4, none⟩ = some (.int .i64 a0_4) := (blk_cell BK102.out 4).trans rfl; have hcz31_5 : w28.cell? ⟨gb102, 5, none⟩ = some (.int .i64 a0_5) := (blk_cell BK102.out 5).trans rfl; have hcz31_6 : w28.cell? ⟨gb102, 6, none⟩ = some (.int .i64 a0_6) := (blk_cell BK102.out 6).trans rfl; have hcz31_7 : w28.cell? ⟨gb102, 7, none⟩ = some (.int .i64 a0_7) := (blk_cell BK102.out 7).trans rfl; have hcz31_8 : w28.cell? ⟨gb102, 8, none⟩ = some (.int .i64 a0_8) := (blk_cell BK102.out 8).trans rfl; have hcz31_9 : w28.cell? ⟨gb102, 9, none⟩ = some (.int .i64 a0_9) := (blk_cell BK102.out 9).trans rfl; have hcz31_10 : w28.cell? ⟨gb102, 10, none⟩ = some (.int .i64 a0_10) := (blk_cell BK102.out 10).trans rfl; have hcz31_11 : w28.cell? ⟨gb102, 11, none⟩ = some (.int .i64 a0_11) := (blk_cell BK102.out 11).trans rfl; have hcz31_12 : w28.cell? ⟨gb102, 12, none⟩ = some (.int .i64 a0_12) := (blk_cell BK102.out 12).trans rfl; have hfz31_0 := blk_frozen BK102.out 0; have hfz31_1 := blk_frozen BK102.out 1; have hfz31_2 := blk_frozen BK102.out 2; have hfz31_3 := blk_frozen BK102.out 3; have hfz31_4 := blk_frozen BK102.out 4; have hfz31_5 := blk_frozen BK102.out 5; have hfz31_6 := blk_frozen BK102.out 6; have hfz31_7 := blk_frozen BK102.out 7; have hfz31_8 := blk_frozen BK102.out 8; have hfz31_9 := blk_frozen BK102.out 9; have hfz31_10 := blk_frozen BK102.out 10; have hfz31_11 := blk_frozen BK102.out 11; have hfz31_12 := blk_frozen BK102.out 12) | ((with_reducible refine gate_callee (f := 95) rfl ?_); refine goesL_ (some 8) rfl rfl Try.func95 (by kernel_rfl) rfl #[.int .i64 a0_0, .int .i64 1, .int .i64 1048576] rfl (by (try simp only [List.map_toArray, List.map_cons, List.map_nil]); first | done | rfl | (simp only [List.length_drop, List.length_take]; rfl)) ?_; (with_reducible refine (label_in.calls a0_0 1 1048576 true _ A2.out).mono ?_); rintro e w' ⟨rfl, ⟨nd, rfl⟩⟩; refine ⟨_, rfl, ?_⟩) | (go_at_call 95; (with_reducible refine (label_in.calls a0_2 2 8 true _ A4.out).mono ?_); rintro e w' ⟨rfl, ⟨nd, rfl⟩⟩) | (go_at_call 95; (with_reducible refine (label_in.calls a0_1 0 (wrap64 (a0_2 - 1)) true _ A6.out).mono ?_); rintro e w' ⟨rfl, ⟨nd, rfl⟩⟩) | (go_at_call 95; (with_reducible refine (label_in.calls a0_3 1 ji8 true _ A9.out).mono ?_); rintro e w' ⟨rfl, ⟨nd, rfl⟩⟩) | (go_at_call 95; (with_reducible refine (label_in.calls a0_4 0 1048576 true _ A11.out).mono ?_); rintro e w' ⟨rfl, ⟨nd, rfl⟩⟩) | (go_at_call 95; (with_reducible refine (label_in.calls a0_5 0 65536 true _ A13.out).mono ?_); rintro e w' ⟨rfl, ⟨nd, rfl⟩⟩) | (go_at_call 95; (with_reducible refine (label_in.calls a0_6 0 32 true _ A15.out).mono ?_); rintro e w' ⟨rfl, ⟨nd, rfl⟩⟩) | (go_at_call 95; (with_reducible refine (label_in.calls a0_7 0 (wrap64 (a0_6 * 128)) false _ A17.out).mono ?_); rintro e w' ⟨rfl, ⟨nd, rfl⟩⟩))
                  go_ret
                  exact ⟨by first | rfl | (simp [errW_none, errW_some] <;> rfl) | (simp only [← hji8]; first | rfl | (simp [errW_none, errW_some] <;> rfl)) | (simp [*, errW_none, errW_some] <;> rfl), by repeat (first | (with_reducible first | exact HB.out | apply below_alloc | apply pw_below_drewN | apply below_drew1 | refine below_set ?_ GE102.out | refine below_set ?_ GE103.out) | exact HB.out)⟩
              · replace c16 := Bool.eq_false_iff.mpr c16
                subst c16
                have H1 : (some false) = some r := by rw [if_neg (show ¬ (false = true) by decide)] at H; exact H
                clear H
                have H := H1
                clear H1
                obtain rfl := Option.some.inj H
                go_enter Try.func47, Try.ntmps47
                go_wp2_with (first | ((with_reducible refine gate_dst (N := 1) rfl ?_); (try (refine gate_guard (by rfl) ?_; dsimp only)); refine box_event ?hg (N := 1) ?hd (cs := #[.int .i64 a0_0, .int .i64 a0_1, .int .i64 a0_2, .int .i64 a0_3, .int .i64 a0_4, .int .i64 a0_5, .int .i64 a0_6, .int .i64 a0_7, .int .i64 a0_8, .int .i64 a0_9, .int .i64 a0_10, .int .i64 a0_11, .int .i64 a0_12]) (t := 27) ?hr ?_; (case hd => rfl); (case hg => rfl); (case hr => first | (go_simp; done) | (go_simp; rfl)); intro gb102 hg w32 hbox hb; have n0_ := Aside0.mk (below_step (by repeat (first | (with_reducible first | exact HB.out | apply below_alloc | apply pw_below_drewN | apply below_drew1) | exact HB.out)) hb); have n1_ := Aside0.mk (hbox); have n2_ := Aside0.mk ((by rw [hg]; exact (below_size (by repeat (first | (with_reducible first | exact HB.out | apply below_alloc | apply pw_below_drewN | apply below_drew1) | exact HB.out))) : w.heap.size ≤ gb102)); have n3_ := Aside0.mk ((by rw [hg]; exact (below_size (by repeat (first | (with_reducible first | exact HB.out | apply below_alloc | apply pw_below_drewN | apply below_drew1) | exact HB.out))) : w.heap.size ≤ gb102)); clear HB; have HB := n0_; have BK102 := n1_; have GW102 := n2_; have GE102 := n3_; clear n0_ n1_ n2_ n3_; clear hb hbox hg; have hcz33_0 : w32.cell? ⟨gb102, 0, none⟩ = some (.int .i64 a0_0) := (blk_cell BK102.out 0).trans rfl; have hcz33_1 : w32.cell? ⟨gb102, 1, none⟩ = some (.int .i64 a0_1) := (blk_cell BK102.out 1).trans rfl; have hcz33_2 : w32.cell? ⟨gb102, 2, none⟩ = some (.int .i64 a0_2) := (blk_cell BK102.out 2).trans rfl; have hcz33_3 : w32.cell? ⟨gb102, 3, none⟩ = some (.int .i64 a0_3) := (blk_cell BK102.out 3).trans rfl; have hcz33_4 : w32.cell? ⟨gb102, 4, none⟩ = some (.int .i64 a0_4) := (blk_cell BK102.out 4).trans rfl; have hcz33_5 : w32.cell? ⟨gb102, 5, none⟩ = some (.int .i64 a0_5) := (blk_cell BK102.out 5).trans rfl; have hcz33_6 : w32.cell? ⟨gb102, 6, none⟩ = some (.int .i64 a0_6) := (blk_cell BK102.out 6).trans rfl; have hcz33_7 : w32.cell? ⟨gb102, 7, none⟩ = some (.int .i64 a0_7) := (blk_cell BK102.out 7).trans rfl; have hcz33_8 : w32.cell? ⟨gb102, 8, none⟩ = some (.int .i64 a0_8) := (blk_cell BK102.out 8).trans rfl; have hcz33_9 : w32.cell? ⟨gb102, 9, none⟩ = some (.int .i64 a0_9) := (blk_cell BK102.out 9).trans rfl; have hcz33_10 : w32.cell? ⟨gb102, 10, none⟩ = some (.int .i64 a0_10) := (blk_cell BK102.out 10).trans rfl; have hcz33_11 : w32.cell? ⟨gb102, 11, none⟩ = some (.int .i64 a0_11) := (blk_cell BK102.out 11).trans rfl; have hcz33_12 : w32.cell? ⟨gb102, 12, none⟩ = some (.int .i64 a0_12) := (blk_cell BK102.out 12).trans rfl; have hfz33_0 := blk_frozen BK102.out 0; have hfz33_1 := blk_frozen BK102.out 1; have hfz33_2 := blk_frozen BK102.out 2; have hfz33_3 := blk_frozen BK102.out 3; have hfz33_4 := blk_frozen BK102.out 4; have hfz33_5 := blk_frozen BK102.out 5; have hfz33_6 := blk_frozen BK102.out 6; have hfz33_7 := blk_frozen BK102.out 7; have hfz33_8 := blk_frozen BK102.out 8; have hfz33_9 := blk_frozen BK102.out 9; have hfz33_10 := blk_frozen BK102.out 10; have hfz33_11 := blk_frozen BK102.out 11; have hfz33_12 := blk_frozen BK102.out 12) | ((with_reducible refine gate_dst (N := 3) rfl ?_); (try (refine gate_guard (by rfl) ?_; dsimp only)); refine box_event ?hg (N := 3) ?hd (cs := #[.int .i64 0, .int .i64 0, .int .i64 0, .int .i64 0, .int .i64 0, .int .i64 0, .int .i64 0, .int .i64 0]) (t := 25) ?hr ?_; (case hd => rfl); (case hg => rfl); (case hr => first | (go_simp; done) | (go_simp; rfl)); intro gb103 hg w34 hbox hb; have n0_ := Aside0.mk (blk_below (g := gb102) (o := .cells #[.int .i64 a0_0, .int .i64 a0_1, .int .i64 a0_2, .int .i64 a0_3, .int .i64 a0_4, .int .i64 a0_5, .int .i64 a0_6, .int .i64 a0_7, .int .i64 a0_8, .int .i64 a0_9, .int .i64 a0_10, .int .i64 a0_11, .int .i64 a0_12] 27 (0, 0)) (by (with_reducible repeat (first | refine blk_drewN ?_ _ | refine blk_drew ?_ | refine blk_alloc ?_ _)); exact BK102.out) hb); have n1_ := Aside0.mk (below_step (by repeat (first | (with_reducible first | exact HB.out | apply below_alloc | apply pw_below_drewN | apply below_drew1 | refine below_set ?_ GE102.out) | exact HB.out)) hb); have n2_ := Aside0.mk (hbox); have n3_ := Aside0.mk ((by rw [hg]; exact (below_size (by repeat (first | (with_reducible first | exact HB.out | apply below_alloc | apply pw_below_drewN | apply below_drew1 | refine below_set ?_ GE102.out) | exact HB.out))) : w.heap.size ≤ gb103)); have n4_ := Aside0.mk ((by rw [hg]; exact (below_size (by repeat (first | (with_reducible first | exact HB.out | apply below_alloc | apply pw_below_drewN | apply below_drew1 | refine below_set ?_ GE102.out) | exact HB.out))) : w.heap.size ≤ gb103)); have n5_ := Aside0.mk ((by rw [hg]; exact Nat.ne_of_lt (blk_lt (g := gb102) (o := .cells #[.int .i64 a0_0, .int .i64 a0_1, .int .i64 a0_2, .int .i64 a0_3, .int .i64 a0_4, .int .i64 a0_5, .int .i64 a0_6, .int .i64 a0_7, .int .i64 a0_8, .int .i64 a0_9, .int .i64 a0_10, .int .i64 a0_11, .int .i64 a0_12] 27 (0, 0)) (by (with_reducible repeat (first | refine blk_drewN ?_ _ | refine blk_drew ?_ | refine blk_alloc ?_ _)); exact BK102.out)) : gb102 ≠ gb103)); have n6_ := Aside0.mk ((by rw [hg]; exact Nat.ne_of_gt (blk_lt (g := gb102) (o := .cells #[.int .i64 a0_0, .int .i64 a0_1, .int .i64 a0_2, .int .i64 a0_3, .int .i64 a0_4, .int .i64 a0_5, .int .i64 a0_6, .int .i64 a0_7, .int .i64 a0_8, .int .i64 a0_9, .int .i64 a0_10, .int .i64 a0_11, .int .i64 a0_12] 27 (0, 0)) (by (with_reducible repeat (first | refine blk_drewN ?_ _ | refine blk_drew ?_ | refine blk_alloc ?_ _)); exact BK102.out)) : gb103 ≠ gb102)); clear BK102; clear HB; have BK102 := n0_; have HB := n1_; have BK103 := n2_; have GW103 := n3_; have GE103 := n4_; have NB102_103 := n5_; have NB103_102 := n6_; clear n0_ n1_ n2_ n3_ n4_ n5_ n6_; clear hb hbox hg; have hnb35 := NB103_102.out; have hnc35 := NB102_103.out; have hcz36_0 : w34.cell? ⟨gb103, 0, none⟩ = some (.int .i64 0) := (blk_cell BK103.out 0).trans rfl; have hcz36_1 : w34.cell? ⟨gb103, 1, none⟩ = some (.int .i64 0) := (blk_cell BK103.out 1).trans rfl; have hcz36_2 : w34.cell? ⟨gb103, 2, none⟩ = some (.int .i64 0) := (blk_cell BK103.out 2).trans rfl; have hcz36_3 : w34.cell? ⟨gb103, 3, none⟩ = some (.int .i64 0) := (blk_cell BK103.out 3).trans rfl; have hcz36_4 : w34.cell? ⟨gb103, 4, none⟩ = some (.int .i64 0) := (blk_cell BK103.out 4).trans rfl; have hcz36_5 : w34.cell? ⟨gb103, 5, none⟩ = some (.int .i64 0) := (blk_cell BK103.out 5).trans rfl; have hcz36_6 : w34.cell? ⟨gb103, 6, none⟩ = some (.int .i64 0) := (blk_cell BK103.out 6).trans rfl; have hcz36_7 : w34.cell? ⟨gb103, 7, none⟩ = some (.int .i64 0) := (blk_cell BK103.out 7).trans rfl; have hfz36_0 := blk_frozen BK103.out 0; have hfz36_1 := blk_frozen BK103.out 1; have hfz36_2 := blk_frozen BK103.out 2; have hfz36_3 := blk_frozen BK103.out 3; have hfz36_4 := blk_frozen BK103.out 4; have hfz36_5 := blk_frozen BK103.out 5; have hfz36_6 := blk_frozen BK103.out 6; have hfz36_7 := blk_frozen BK103.out 7; have hcz37_0 : w34.cell? ⟨gb102, 0, none⟩ = some (.int .i64 a0_0) := (blk_cell BK102.out 0).trans rfl; have hcz37_1 : w34.cell? ⟨gb102, 1, none⟩ = some (.int .i64 a0_1) := (blk_cell BK102.out 1).trans rfl; have hcz37_2 : w34.cell? ⟨gb102, 2, none⟩ = some (.int .i64 a0_2) := (blk_cell BK102.out 2).trans rfl; have hcz37_3 : w34.cell? ⟨gb102, 3, none⟩ = some (.int .i64 a0_3) := (blk_cell BK102.out 3).trans rfl; have hcz37_4 : w34.cell? ⟨gb102, 4, none⟩ = some (.int .i64 a0_4) := (blk_cell BK102.out 4).trans rfl; have hcz37_5 : w34.cell? ⟨gb102, 5, none⟩ = some (.int .i64 a0_5) := (blk_cell BK102.out 5).trans rfl; have hcz37_6 : w34.cell? ⟨gb102, 6, none⟩ = some (.int .i64 a0_6) := (blk_cell BK102.out 6).trans rfl; have hcz37_7 : w34.cell? ⟨gb102, 7, none⟩ = some (.int .i64 a0_7) := (blk_cell BK102.out 7).trans rfl; have hcz37_8 : w34.cell? ⟨gb102, 8, none⟩ = some (.int .i64 a0_8) := (blk_cell BK102.out 8).trans rfl; have hcz37_9 : w34.cell? ⟨gb102, 9, none⟩ = some (.int .i64 a0_9) := (blk_cell BK102.out 9).trans rfl; have hcz37_10 : w34.cell? ⟨gb102, 10, none⟩ = some (.int .i64 a0_10) := (blk_cell BK102.out 10).trans rfl; have hcz37_11 : w34.cell? ⟨gb102, 11, none⟩ = some (.int .i64 a0_11) := (blk_cell BK102.out 11).trans rfl; have hcz37_12 : w34.cell? ⟨gb102, 12, none⟩ = some (.int .i64 a0_12) := (blk_cell BK102.out 12).trans rfl; have hfz37_0 := blk_frozen BK102.out 0; have hfz37_1 := blk_frozen BK102.out 1; have hfz37_2 := blk_frozen BK102.out 2; have hfz37_3 := blk_frozen BK102.out 3; have hfz37_4 := blk_frozen BK102.out 4; have hfz37_5 := blk_frozen BK102.out 5; have hfz37_6 := blk_frozen BK102.out 6; have hfz37_7 := blk_frozen BK102.out 7; have hfz37_8 := blk_frozen BK102.out 8; have hfz37_9 := blk_frozen BK102.out 9; have hfz37_10 := blk_frozen BK102.out 10; have hfz37_11 := blk_frozen BK102.out 11; have hfz37_12 := blk_frozen BK102.out 12) | ((with_reducible refine gate_callee (f := 95) rfl ?_); refine goesL_ (some 8) rfl rfl Try.func95 (by kernel_rfl) rfl #[.int .i64 a0_0, .int .i64 1, .int .i64 1048576] rfl (by (try simp only [List.map_toArray, List.map_cons, List.map_nil]); first | done | rfl | (simp only [List.length_drop, List.length_take]; rfl)) ?_; (with_reducible refine (label_in.calls a0_0 1 1048576 true _ A2.out).mono ?_); rintro e w' ⟨rfl, ⟨nd, rfl⟩⟩; refine ⟨_, rfl, ?_⟩) | (go_at_call 95; (with_reducible refine (label_in.calls a0_2 2 8 true _ A4.out).mono ?_); rintro e w' ⟨rfl, ⟨nd, rfl⟩⟩) | (go_at_call 95; (with_reducible refine (label_in.calls a0_1 0 (wrap64 (a0_2 - 1)) true _ A6.out).mono ?_); rintro e w' ⟨rfl, ⟨nd, rfl⟩⟩) | (go_at_call 95; (with_reducible refine (label_in.calls a0_3 1 ji8 true _ A9.out).mono ?_); rintro e w' ⟨rfl, ⟨nd, rfl⟩⟩) | (go_at_call 95; (with_reducible refine (label_in.calls a0_4 0 1048576 true _ A11.out).mono ?_); rintro e w' ⟨rfl, ⟨nd, rfl⟩⟩) | (go_at_call 95; (with_reducible refine (label_in.calls a0_5 0 65536 true _ A13.out).mono ?_); rintro e w' ⟨rfl, ⟨nd, rfl⟩⟩) | (go_at_call 95; (with_reducible refine (label_in.calls a0_6 0 32 false _ A15.out).mono ?_); rintro e w' ⟨rfl, ⟨nd, rfl⟩⟩))
                go_ret
                exact ⟨by first | rfl | (simp [errW_none, errW_some] <;> rfl) | (simp only [← hji8]; first | rfl | (simp [errW_none, errW_some] <;> rfl)) | (simp [*, errW_none, errW_some] <;> rfl), by repeat (first | (with_reducible first | exact HB.out | apply below_alloc | apply pw_below_drewN | apply below_drew1 | refine below_set ?_ GE102.out | refine below_set ?_ GE103.out) | exact HB.out)⟩
            · replace c14 := Bool.eq_false_iff.mpr c14
              subst c14
              have H1 : (some false) = some r := by rw [if_neg (show ¬ (false = true) by decide)] at H; exact H
              clear H
              have H := H1
              clear H1
              obtain rfl := Option.some.inj H
              go_enter Try.func47, Try.ntmps47
              go_wp2_with (first | ((with_reducible refine gate_dst (N := 1) rfl ?_); (try (refine gate_guard (by rfl) ?_; dsimp only)); refine box_event ?hg (N := 1) ?hd (cs := #[.int .i64 a0_0, .int .i64 a0_1, .int .i64 a0_2, .int .i64 a0_3, .int .i64 a0_4, .int .i64 a0_5, .int .i64 a0_6, .int .i64 a0_7, .int .i64 a0_8, .int .i64 a0_9, .int .i64 a0_10, .int .i64 a0_11, .int .i64 a0_12]) (t := 27) ?hr ?_; (case hd => rfl); (case hg => rfl); (case hr => first | (go_simp; done) | (go_simp; rfl)); intro gb102 hg w38 hbox hb; have n0_ := Aside0.mk (below_step (by repeat (first | (with_reducible first | exact HB.out | apply below_alloc | apply pw_below_drewN | apply below_drew1) | exact HB.out)) hb); have n1_ := Aside0.mk (hbox); have n2_ := Aside0.mk ((by rw [hg]; exact (below_size (by repeat (first | (with_reducible first | exact HB.out | apply below_alloc | apply pw_below_drewN | apply below_drew1) | exact HB.out))) : w.heap.size ≤ gb102)); have n3_ := Aside0.mk ((by rw [hg]; exact (below_size (by repeat (first | (with_reducible first | exact HB.out | apply below_alloc | apply pw_below_drewN | apply below_drew1) | exact HB.out))) : w.heap.size ≤ gb102)); clear HB; have HB := n0_; have BK102 := n1_; have GW102 := n2_; have GE102 := n3_; clear n0_ n1_ n2_ n3_; clear hb hbox hg; have hcz39_0 : w38.cell? ⟨gb102, 0, none⟩ = some (.int .i64 a0_0) := (blk_cell BK102.out 0).trans rfl; have hcz39_1 : w38.cell? ⟨gb102, 1, none⟩ = some (.int .i64 a0_1) := (blk_cell BK102.out 1).trans rfl; have hcz39_2 : w38.cell? ⟨gb102, 2, none⟩ = some (.int .i64 a0_2) := (blk_cell BK102.out 2).trans rfl; have hcz39_3 : w38.cell? ⟨gb102, 3, none⟩ = some (.int .i64 a0_3) := (blk_cell BK102.out 3).trans rfl; have hcz39_4 : w38.cell? ⟨gb102, 4, none⟩ = some (.int .i64 a0_4) := (blk_cell BK102.out 4).trans rfl; have hcz39_5 : w38.cell? ⟨gb102, 5, none⟩ = some (.int .i64 a0_5) := (blk_cell BK102.out 5).trans rfl; have hcz39_6 : w38.cell? ⟨gb102, 6, none⟩ = some (.int .i64 a0_6) := (blk_cell BK102.out 6).trans rfl; have hcz39_7 : w38.cell? ⟨gb102, 7, none⟩ = some (.int .i64 a0_7) := (blk_cell BK102.out 7).trans rfl; have hcz39_8 : w38.cell? ⟨gb102, 8, none⟩ = some (.int .i64 a0_8) := (blk_cell BK102.out 8).trans rfl; have hcz39_9 : w38.cell? ⟨gb102, 9, none⟩ = some (.int .i64 a0_9) := (blk_cell BK102.out 9).trans rfl; have hcz39_10 : w38.cell? ⟨gb102, 10, none⟩ = some (.int .i64 a0_10) := (blk_cell BK102.out 10).trans rfl; have hcz39_11 : w38.cell? ⟨gb102, 11, none⟩ = some (.int .i64 a0_11) := (blk_cell BK102.out 11).trans rfl; have hcz39_12 : w38.cell? ⟨gb102, 12, none⟩ = some (.int .i64 a0_12) := (blk_cell BK102.out 12).trans rfl; have hfz39_0 := blk_frozen BK102.out 0; have hfz39_1 := blk_frozen BK102.out 1; have hfz39_2 := blk_frozen BK102.out 2; have hfz39_3 := blk_frozen BK102.out 3; have hfz39_4 := blk_frozen BK102.out 4; have hfz39_5 := blk_frozen BK102.out 5; have hfz39_6 := blk_frozen BK102.out 6; have hfz39_7 := blk_frozen BK102.out 7; have hfz39_8 := blk_frozen BK102.out 8; have hfz39_9 := blk_frozen BK102.out 9; have hfz39_10 := blk_frozen BK102.out 10; have hfz39_11 := blk_frozen BK102.out 11; have hfz39_12 := blk_frozen BK102.out 12) | ((with_reducible refine gate_dst (N := 3) rfl ?_); (try (refine gate_guard (by rfl) ?_; dsimp only)); refine box_event ?hg (N := 3) ?hd (cs := #[.int .i64 0, .int .i64 0, .int .i64 0, .int .i64 0, .int .i64 0, .int .i64 0, .int .i64 0, .int .i64 0]) (t := 25) ?hr ?_; (case hd => rfl); (case hg => rfl); (case hr => first | (go_simp; done) | (go_simp; rfl)); intro gb103 hg w40 hbox hb; have n0_ := Aside0.mk (blk_below (g := gb102) (o := .cells #[.int .i64 a0_0, .int .i64 a0_1, .int .i64 a0_2, .int .i64 a0_3, .int .i64 a0_4, .int .i64 a0_5, .int .i64 a0_6, .int .i64 a0_7, .int .i64 a0_8, .int .i64 a0_9, .int .i64 a0_10, .int .i64 a0_11, .int .i64 a0_12] 27 (0, 0)) (by (with_reducible repeat (first | refine blk_drewN ?_ _ | refine blk_drew ?_ | refine blk_alloc ?_ _)); exact BK102.out) hb); have n1_ := Aside0.mk (below_step (by repeat (first | (with_reducible first | exact HB.out | apply below_alloc | apply pw_below_drewN | apply below_drew1 | refine below_set ?_ GE102.out) | exact HB.out)) hb); have n2_ := Aside0.mk (hbox); have n3_ := Aside0.mk ((by rw [hg]; exact (below_size (by repeat (first | (with_reducible first | exact HB.out | apply below_alloc | apply pw_below_drewN | apply below_drew1 | refine below_set ?_ GE102.out) | exact HB.out))) : w.heap.size ≤ gb103)); have n4_ := Aside0.mk ((by rw [hg]; exact (below_size (by repeat (first | (with_reducible first | exact HB.out | apply below_alloc | apply pw_below_drewN | apply below_drew1 | refine below_set ?_ GE102.out) | exact HB.out))) : w.heap.size ≤ gb103)); have n5_ := Aside0.mk ((by rw [hg]; exact Nat.ne_of_lt (blk_lt (g := gb102) (o := .cells #[.int .i64 a0_0, .int .i64 a0_1, .int .i64 a0_2, .int .i64 a0_3, .int .i64 a0_4, .int .i64 a0_5, .int .i64 a0_6, .int .i64 a0_7, .int .i64 a0_8, .int .i64 a0_9, .int .i64 a0_10, .int .i64 a0_11, .int .i64 a0_12] 27 (0, 0)) (by (with_reducible repeat (first | refine blk_drewN ?_ _ | refine blk_drew ?_ | refine blk_alloc ?_ _)); exact BK102.out)) : gb102 ≠ gb103)); have n6_ := Aside0.mk ((by rw [hg]; exact Nat.ne_of_gt (blk_lt (g := gb102) (o := .cells #[.int .i64 a0_0, .int .i64 a0_1, .int .i64 a0_2, .int .i64 a0_3, .int .i64 a0_4, .int .i64 a0_5, .int .i64 a0_6, .int .i64 a0_7, .int .i64 a0_8, .int .i64 a0_9, .int .i64 a0_10, .int .i64 a0_11, .int .i64 a0_12] 27 (0, 0)) (by (with_reducible repeat (first | refine blk_drewN ?_ _ | refine blk_drew ?_ | refine blk_alloc ?_ _)); exact BK102.out)) : gb103 ≠ gb102)); clear BK102; clear HB; have BK102 := n0_; have HB := n1_; have BK103 := n2_; have GW103 := n3_; have GE103 := n4_; have NB102_103 := n5_; have NB103_102 := n6_; clear n0_ n1_ n2_ n3_ n4_ n5_ n6_; clear hb hbox hg; have hnb41 := NB103_102.out; have hnc41 := NB102_103.out; have hcz42_0 : w40.cell? ⟨gb103, 0, none⟩ = some (.int .i64 0) := (blk_cell BK103.out 0).trans rfl; have hcz42_1 : w40.cell? ⟨gb103, 1, none⟩ = some (.int .i64 0) := (blk_cell BK103.out 1).trans rfl; have hcz42_2 : w40.cell? ⟨gb103, 2, none⟩ = some (.int .i64 0) := (blk_cell BK103.out 2).trans rfl; have hcz42_3 : w40.cell? ⟨gb103, 3, none⟩ = some (.int .i64 0) := (blk_cell BK103.out 3).trans rfl; have hcz42_4 : w40.cell? ⟨gb103, 4, none⟩ = some (.int .i64 0) := (blk_cell BK103.out 4).trans rfl; have hcz42_5 : w40.cell? ⟨gb103, 5, none⟩ = some (.int .i64 0) := (blk_cell BK103.out 5).trans rfl; have hcz42_6 : w40.cell? ⟨gb103, 6, none⟩ = some (.int .i64 0) := (blk_cell BK103.out 6).trans rfl; have hcz42_7 : w40.cell? ⟨gb103, 7, none⟩ = some (.int .i64 0) := (blk_cell BK103.out 7).trans rfl; have hfz42_0 := blk_frozen BK103.out 0; have hfz42_1 := blk_frozen BK103.out 1; have hfz42_2 := blk_frozen BK103.out 2; have hfz42_3 := blk_frozen BK103.out 3; have hfz42_4 := blk_frozen BK103.out 4; have hfz42_5 := blk_frozen BK103.out 5; have hfz42_6 := blk_frozen BK103.out 6; have hfz42_7 := blk_frozen BK103.out 7; have hcz43_0 : w40.cell? ⟨gb102, 0, none⟩ = some (.int .i64 a0_0) := (blk_cell BK102.out 0).trans rfl; have hcz43_1 : w40.cell? ⟨gb102, 1, none⟩ = some (.int .i64 a0_1) := (blk_cell BK102.out 1).trans rfl; have hcz43_2 : w40.cell? ⟨gb102, 2, none⟩ = some (.int .i64 a0_2) := (blk_cell BK102.out 2).trans rfl; have hcz43_3 : w40.cell? ⟨gb102, 3, none⟩ = some (.int .i64 a0_3) := (blk_cell BK102.out 3).trans rfl; have hcz43_4 : w40.cell? ⟨gb102, 4, none⟩ = some (.int .i64 a0_4) := (blk_cell BK102.out 4).trans rfl; have hcz43_5 : w40.cell? ⟨gb102, 5, none⟩ = some (.int .i64 a0_5) := (blk_cell BK102.out 5).trans rfl; have hcz43_6 : w40.cell? ⟨gb102, 6, none⟩ = some (.int .i64 a0_6) := (blk_cell BK102.out 6).trans rfl; have hcz43_7 : w40.cell? ⟨gb102, 7, none⟩ = some (.int .i64 a0_7) := (blk_cell BK102.out 7).trans rfl; have hcz43_8 : w40.cell? ⟨gb102, 8, none⟩ = some (.int .i64 a0_8) := (blk_cell BK102.out 8).trans rfl; have hcz43_9 : w40.cell? ⟨gb102, 9, none⟩ = some (.int .i64 a0_9) := (blk_cell BK102.out 9).trans rfl; have hcz43_10 : w40.cell? ⟨gb102, 10, none⟩ = some (.int .i64 a0_10) := (blk_cell BK102.out 10).trans rfl; have hcz43_11 : w40.cell? ⟨gb102, 11, none⟩ = some (.int .i64 a0_11) := (blk_cell BK102.out 11).trans rfl; have hcz43_12 : w40.cell? ⟨gb102, 12, none⟩ = some (.int .i64 a0_12) := (blk_cell BK102.out 12).trans rfl; have hfz43_0 := blk_frozen BK102.out 0; have hfz43_1 := blk_frozen BK102.out 1; have hfz43_2 := blk_frozen BK102.out 2; have hfz43_3 := blk_frozen BK102.out 3; have hfz43_4 := blk_frozen BK102.out 4; have hfz43_5 := blk_frozen BK102.out 5; have hfz43_6 := blk_frozen BK102.out 6; have hfz43_7 := blk_frozen BK102.out 7; have hfz43_8 := blk_frozen BK102.out 8; have hfz43_9 := blk_frozen BK102.out 9; have hfz43_10 := blk_frozen BK102.out 10; have hfz43_11 := blk_frozen BK102.out 11; have hfz43_12 := blk_frozen BK102.out 12) | ((with_reducible refine gate_callee (f := 95) rfl ?_); refine goesL_ (some 8) rfl rfl Try.func95 (by kernel_rfl) rfl #[.int .i64 a0_0, .int .i64 1, .int .i64 1048576] rfl (by (try simp only [List.map_toArray, List.map_cons, List.map_nil]); first | done | rfl | (simp only [List.length_drop, List.length_take]; rfl)) ?_; (with_reducible refine (label_in.calls a0_0 1 1048576 true _ A2.out).mono ?_); rintro e w' ⟨rfl, ⟨nd, rfl⟩⟩; refine ⟨_, rfl, ?_⟩) | (go_at_call 95; (with_reducible refine (label_in.calls a0_2 2 8 true _ A4.out).mono ?_); rintro e w' ⟨rfl, ⟨nd, rfl⟩⟩) | (go_at_call 95; (with_reducible refine (label_in.calls a0_1 0 (wrap64 (a0_2 - 1)) true _ A6.out).mono ?_); rintro e w' ⟨rfl, ⟨nd, rfl⟩⟩) | (go_at_call 95; (with_reducible refine (label_in.calls a0_3 1 ji8 true _ A9.out).mono ?_); rintro e w' ⟨rfl, ⟨nd, rfl⟩⟩) | (go_at_call 95; (with_reducible refine (label_in.calls a0_4 0 1048576 true _ A11.out).mono ?_); rintro e w' ⟨rfl, ⟨nd, rfl⟩⟩) | (go_at_call 95; (with_reducible refine (label_in.calls a0_5 0 65536 false _ A13.out).mono ?_); rintro e w' ⟨rfl, ⟨nd, rfl⟩⟩))
              go_ret
              exact ⟨by first | rfl | (simp [errW_none, errW_some] <;> rfl) | (simp only [← hji8]; first | rfl | (simp [errW_none, errW_some] <;> rfl)) | (simp [*, errW_none, errW_some] <;> rfl), by repeat (first | (with_reducible first | exact HB.out | apply below_alloc | apply pw_below_drewN | apply below_drew1 | refine below_set ?_ GE102.out | refine below_set ?_ GE103.out) | exact HB.out)⟩
          · replace c12 := Bool.eq_false_iff.mpr c12
            subst c12
            have H1 : (some false) = some r := by rw [if_neg (show ¬ (false = true) by decide)] at H; exact H
            clear H
            have H := H1
            clear H1
            obtain rfl := Option.some.inj H
            go_enter Try.func47, Try.ntmps47
            go_wp2_with (first | ((with_reducible refine gate_dst (N := 1) rfl ?_); (try (refine gate_guard (by rfl) ?_; dsimp only)); refine box_event ?hg (N := 1) ?hd (cs := #[.int .i64 a0_0, .int .i64 a0_1, .int .i64 a0_2, .int .i64 a0_3, .int .i64 a0_4, .int .i64 a0_5, .int .i64 a0_6, .int .i64 a0_7, .int .i64 a0_8, .int .i64 a0_9, .int .i64 a0_10, .int .i64 a0_11, .int .i64 a0_12]) (t := 27) ?hr ?_; (case hd => rfl); (case hg => rfl); (case hr => first | (go_simp; done) | (go_simp; rfl)); intro gb102 hg w44 hbox hb; have n0_ := Aside0.mk (below_step (by repeat (first | (with_reducible first | exact HB.out | apply below_alloc | apply pw_below_drewN | apply below_drew1) | exact HB.out)) hb); have n1_ := Aside0.mk (hbox); have n2_ := Aside0.mk ((by rw [hg]; exact (below_size (by repeat (first | (with_reducible first | exact HB.out | apply below_alloc | apply pw_below_drewN | apply below_drew1) | exact HB.out))) : w.heap.size ≤ gb102)); have n3_ := Aside0.mk ((by rw [hg]; exact (below_size (by repeat (first | (with_reducible first | exact HB.out | apply below_alloc | apply pw_below_drewN | apply below_drew1) | exact HB.out))) : w.heap.size ≤ gb102)); clear HB; have HB := n0_; have BK102 := n1_; have GW102 := n2_; have GE102 := n3_; clear n0_ n1_ n2_ n3_; clear hb hbox hg; have hcz45_0 : w44.cell? ⟨gb102, 0, none⟩ = some (.int .i64 a0_0) := (blk_cell BK102.out 0).trans rfl; have hcz45_1 : w44.cell? ⟨gb102, 1, none⟩ = some (.int .i64 a0_1) := (blk_cell BK102.out 1).trans rfl; have hcz45_2 : w44.cell? ⟨gb102, 2, none⟩ = some (.int .i64 a0_2) := (blk_cell BK102.out 2).trans rfl; have hcz45_3 : w44.cell? ⟨gb102, 3, none⟩ = some (.int .i64 a0_3) := (blk_cell BK102.out 3).trans rfl; have hcz45_4 : w44.cell? ⟨gb102, 4, none⟩ = some (.int .i64 a0_4) := (blk_cell BK102.out 4).trans rfl; have hcz45_5 : w44.cell? ⟨gb102, 5, none⟩ = some (.int .i64 a0_5) := (blk_cell BK102.out 5).trans rfl; have hcz45_6 : w44.cell? ⟨gb102, 6, none⟩ = some (.int .i64 a0_6) := (blk_cell BK102.out 6).trans rfl; have hcz45_7 : w44.cell? ⟨gb102, 7, none⟩ = some (.int .i64 a0_7) := (blk_cell BK102.out 7).trans rfl; have hcz45_8 : w44.cell? ⟨gb102, 8, none⟩ = some (.int .i64 a0_8) := (blk_cell BK102.out 8).trans rfl; have hcz45_9 : w44.cell? ⟨gb102, 9, none⟩ = some (.int .i64 a0_9) := (blk_cell BK102.out 9).trans rfl; have hcz45_10 : w44.cell? ⟨gb102, 10, none⟩ = some (.int .i64 a0_10) := (blk_cell BK102.out 10).trans rfl; have hcz45_11 : w44.cell? ⟨gb102, 11, none⟩ = some (.int .i64 a0_11) := (blk_cell BK102.out 11).trans rfl; have hcz45_12 : w44.cell? ⟨gb102, 12, none⟩ = some (.int .i64 a0_12) := (blk_cell BK102.out 12).trans rfl; have hfz45_0 := blk_frozen BK102.out 0; have hfz45_1 := blk_frozen BK102.out 1; have hfz45_2 := blk_frozen BK102.out 2; have hfz45_3 := blk_frozen BK102.out 3; have hfz45_4 := blk_frozen BK102.out 4; have hfz45_5 := blk_frozen BK102.out 5; have hfz45_6 := blk_frozen BK102.out 6; have hfz45_7 := blk_frozen BK102.out 7; have hfz45_8 := blk_frozen BK102.out 8; have hfz45_9 := blk_frozen BK102.out 9; have hfz45_10 := blk_frozen BK102.out 10; have hfz45_11 := blk_frozen BK102.out 11; have hfz45_12 := blk_frozen BK102.out 12) | ((with_reducible refine gate_dst (N := 3) rfl ?_); (try (refine gate_guard (by rfl) ?_; dsimp only)); refine box_event ?hg (N := 3) ?hd (cs := #[.int .i64 0, .int .i64 0, .int .i64 0, .int .i64 0, .int .i64 0, .int .i64 0, .int .i64 0, .int .i64 0]) (t := 25) ?hr ?_; (case hd => rfl); (case hg => rfl); (case hr => first | (go_simp; done) | (go_simp; rfl)); intro gb103 hg w46 hbox hb; have n0_ := Aside0.mk (blk_below (g := gb102) (o := .cells #[.int .i64 a0_0, .int .i64 a0_1, .int .i64 a0_2, .int .i64 a0_3, .int .i64 a0_4, .int .i64 a0_5, .int .i64 a0_6, .int .i64 a0_7, .int .i64 a0_8, .int .i64 a0_9, .int .i64 a0_10, .int .i64 a0_11, .int .i64 a0_12] 27 (0, 0)) (by (with_reducible repeat (first | refine blk_drewN ?_ _ | refine blk_drew ?_ | refine blk_alloc ?_ _)); exact BK102.out) hb); have n1_ := Aside0.mk (below_step (by repeat (first | (with_reducible first | exact HB.out | apply below_alloc | apply pw_below_drewN | apply below_drew1 | refine below_set ?_ GE102.out) | exact HB.out)) hb); have n2_ := Aside0.mk (hbox); have n3_ := Aside0.mk ((by rw [hg]; exact (below_size (by repeat (first | (with_reducible first | exact HB.out | apply below_alloc | apply pw_below_drewN | apply below_drew1 | refine below_set ?_ GE102.out) | exact HB.out))) : w.heap.size ≤ gb103)); have n4_ := Aside0.mk ((by rw [hg]; exact (below_size (by repeat (first | (with_reducible first | exact HB.out | apply below_alloc | apply pw_below_drewN | apply below_drew1 | refine below_set ?_ GE102.out) | exact HB.out))) : w.heap.size ≤ gb103)); have n5_ := Aside0.mk ((by rw [hg]; exact Nat.ne_of_lt (blk_lt (g := gb102) (o := .cells #[.int .i64 a0_0, .int .i64 a0_1, .int .i64 a0_2, .int .i64 a0_3, .int .i64 a0_4, .int .i64 a0_5, .int .i64 a0_6, .int .i64 a0_7, .int .i64 a0_8, .int .i64 a0_9, .int .i64 a0_10, .int .i64 a0_11, .int .i64 a0_12] 27 (0, 0)) (by (with_reducible repeat (first | refine blk_drewN ?_ _ | refine blk_drew ?_ | refine blk_alloc ?_ _)); exact BK102.out)) : gb102 ≠ gb103)); have n6_ := Aside0.mk ((by rw [hg]; exact Nat.ne_of_gt (blk_lt (g := gb102) (o := .cells #[.int .i64 a0_0, .int .i64 a0_1, .int .i64 a0_2, .int .i64 a0_3, .int .i64 a0_4, .int .i64 a0_5, .int .i64 a0_6, .int .i64 a0_7, .int .i64 a0_8, .int .i64 a0_9, .int .i64 a0_10, .int .i64 a0_11, .int .i64 a0_12] 27 (0, 0)) (by (with_reducible repeat (first | refine blk_drewN ?_ _ | refine blk_drew ?_ | refine blk_alloc ?_ _)); exact BK102.out)) : gb103 ≠ gb102)); clear BK102; clear HB; have BK102 := n0_; have HB := n1_; have BK103 := n2_; have GW103 := n3_; have GE103 := n4_; have NB102_103 := n5_; have NB103_102 := n6_; clear n0_ n1_ n2_ n3_ n4_ n5_ n6_; clear hb hbox hg; have hnb47 := NB103_102.out; have hnc47 := NB102_103.out; have hcz48_0 : w46.cell? ⟨gb103, 0, none⟩ = some (.int .i64 0) := (blk_cell BK103.out 0).trans rfl; have hcz48_1 : w46.cell? ⟨gb103, 1, none⟩ = some (.int .i64 0) := (blk_cell BK103.out 1).trans rfl; have hcz48_2 : w46.cell? ⟨gb103, 2, none⟩ = some (.int .i64 0) := (blk_cell BK103.out 2).trans rfl; have hcz48_3 : w46.cell? ⟨gb103, 3, none⟩ = some (.int .i64 0) := (blk_cell BK103.out 3).trans rfl; have hcz48_4 : w46.cell? ⟨gb103, 4, none⟩ = some (.int .i64 0) := (blk_cell BK103.out 4).trans rfl; have hcz48_5 : w46.cell? ⟨gb103, 5, none⟩ = some (.int .i64 0) := (blk_cell BK103.out 5).trans rfl; have hcz48_6 : w46.cell? ⟨gb103, 6, none⟩ = some (.int .i64 0) := (blk_cell BK103.out 6).trans rfl; have hcz48_7 : w46.cell? ⟨gb103, 7, none⟩ = some (.int .i64 0) := (blk_cell BK103.out 7).trans rfl; have hfz48_0 := blk_frozen BK103.out 0; have hfz48_1 := blk_frozen BK103.out 1; have hfz48_2 := blk_frozen BK103.out 2; have hfz48_3 := blk_frozen BK103.out 3; have hfz48_4 := blk_frozen BK103.out 4; have hfz48_5 := blk_frozen BK103.out 5; have hfz48_6 := blk_frozen BK103.out 6; have hfz48_7 := blk_frozen BK103.out 7; have hcz49_0 : w46.cell? ⟨gb102, 0, none⟩ = some (.int .i64 a0_0) := (blk_cell BK102.out 0).trans rfl; have hcz49_1 : w46.cell? ⟨gb102, 1, none⟩ = some (.int .i64 a0_1) := (blk_cell BK102.out 1).trans rfl; have hcz49_2 : w46.cell? ⟨gb102, 2, none⟩ = some (.int .i64 a0_2) := (blk_cell BK102.out 2).trans rfl; have hcz49_3 : w46.cell? ⟨gb102, 3, none⟩ = some (.int .i64 a0_3) := (blk_cell BK102.out 3).trans rfl; have hcz49_4 : w46.cell? ⟨gb102, 4, none⟩ = some (.int .i64 a0_4) := (blk_cell BK102.out 4).trans rfl; have hcz49_5 : w46.cell? ⟨gb102, 5, none⟩ = some (.int .i64 a0_5) := (blk_cell BK102.out 5).trans rfl; have hcz49_6 : w46.cell? ⟨gb102, 6, none⟩ = some (.int .i64 a0_6) := (blk_cell BK102.out 6).trans rfl; have hcz49_7 : w46.cell? ⟨gb102, 7, none⟩ = some (.int .i64 a0_7) := (blk_cell BK102.out 7).trans rfl; have hcz49_8 : w46.cell? ⟨gb102, 8, none⟩ = some (.int .i64 a0_8) := (blk_cell BK102.out 8).trans rfl; have hcz49_9 : w46.cell? ⟨gb102, 9, none⟩ = some (.int .i64 a0_9) := (blk_cell BK102.out 9).trans rfl; have hcz49_10 : w46.cell? ⟨gb102, 10, none⟩ = some (.int .i64 a0_10) := (blk_cell BK102.out 10).trans rfl; have hcz49_11 : w46.cell? ⟨gb102, 11, none⟩ = some (.int .i64 a0_11) := (blk_cell BK102.out 11).trans rfl; have hcz49_12 : w46.cell? ⟨gb102, 12, none⟩ = some (.int .i64 a0_12) := (blk_cell BK102.out 12).trans rfl; have hfz49_0 := blk_frozen BK102.out 0; have hfz49_1 := blk_frozen BK102.out 1; have hfz49_2 := blk_frozen BK102.out 2; have hfz49_3 := blk_frozen BK102.out 3; have hfz49_4 := blk_frozen BK102.out 4; have hfz49_5 := blk_frozen BK102.out 5; have hfz49_6 := blk_frozen BK102.out 6; have hfz49_7 := blk_frozen BK102.out 7; have hfz49_8 := blk_frozen BK102.out 8; have hfz49_9 := blk_frozen BK102.out 9; have hfz49_10 := blk_frozen BK102.out 10; have hfz49_11 := blk_frozen BK102.out 11; have hfz49_12 := blk_frozen BK102.out 12) | ((with_reducible refine gate_callee (f := 95) rfl ?_); refine goesL_ (some 8) rfl rfl Try.func95 (by kernel_rfl) rfl #[.int .i64 a0_0, .int .i64 1, .int .i64 1048576] rfl (by (try simp only [List.map_toArray, List.map_cons, List.map_nil]); first | done | rfl | (simp only [List.length_drop, List.length_take]; rfl)) ?_; (with_reducible refine (label_in.calls a0_0 1 1048576 true _ A2.out).mono ?_); rintro e w' ⟨rfl, ⟨nd, rfl⟩⟩; refine ⟨_, rfl, ?_⟩) | (go_at_call 95; (with_reducible refine (label_in.calls a0_2 2 8 true _ A4.out).mono ?_); rintro e w' ⟨rfl, ⟨nd, rfl⟩⟩) | (go_at_call 95; (with_reducible refine (label_in.calls a0_1 0 (wrap64 (a0_2 - 1)) true _ A6.out).mono ?_); rintro e w' ⟨rfl, ⟨nd, rfl⟩⟩) | (go_at_call 95; (with_reducible refine (label_in.calls a0_3 1 ji8 true _ A9.out).mono ?_); rintro e w' ⟨rfl, ⟨nd, rfl⟩⟩) | (go_at_call 95; (with_reducible refine (label_in.calls a0_4 0 1048576 false _ A11.out).mono ?_); rintro e w' ⟨rfl, ⟨nd, rfl⟩⟩))
            go_ret
            exact ⟨by first | rfl | (simp [errW_none, errW_some] <;> rfl) | (simp only [← hji8]; first | rfl | (simp [errW_none, errW_some] <;> rfl)) | (simp [*, errW_none, errW_some] <;> rfl), by repeat (first | (with_reducible first | exact HB.out | apply below_alloc | apply pw_below_drewN | apply below_drew1 | refine below_set ?_ GE102.out | refine below_set ?_ GE103.out) | exact HB.out)⟩
        · replace c10 := Bool.eq_false_iff.mpr c10
          subst c10
          have H1 : (some false) = some r := by rw [if_neg (show ¬ (false = true) by decide)] at H; exact H
          clear H
          have H := H1
          clear H1
          obtain rfl := Option.some.inj H
          go_enter Try.func47, Try.ntmps47
          go_wp2_with (first | ((with_reducible refine gate_dst (N := 1) rfl ?_); (try (refine gate_guard (by rfl) ?_; dsimp only)); refine box_event ?hg (N := 1) ?hd (cs := #[.int .i64 a0_0, .int .i64 a0_1, .int .i64 a0_2, .int .i64 a0_3, .int .i64 a0_4, .int .i64 a0_5, .int .i64 a0_6, .int .i64 a0_7, .int .i64 a0_8, .int .i64 a0_9, .int .i64 a0_10, .int .i64 a0_11, .int .i64 a0_12]) (t := 27) ?hr ?_; (case hd => rfl); (case hg => rfl); (case hr => first | (go_simp; done) | (go_simp; rfl)); intro gb102 hg w50 hbox hb; have n0_ := Aside0.mk (below_step (by repeat (first | (with_reducible first | exact HB.out | apply below_alloc | apply pw_below_drewN | apply below_drew1) | exact HB.out)) hb); have n1_ := Aside0.mk (hbox); have n2_ := Aside0.mk ((by rw [hg]; exact (below_size (by repeat (first | (with_reducible first | exact HB.out | apply below_alloc | apply pw_below_drewN | apply below_drew1) | exact HB.out))) : w.heap.size ≤ gb102)); have n3_ := Aside0.mk ((by rw [hg]; exact (below_size (by repeat (first | (with_reducible first | exact HB.out | apply below_alloc | apply pw_below_drewN | apply below_drew1) | exact HB.out))) : w.heap.size ≤ gb102)); clear HB; have HB := n0_; have BK102 := n1_; have GW102 := n2_; have GE102 := n3_; clear n0_ n1_ n2_ n3_; clear hb hbox hg; have hcz51_0 : w50.cell? ⟨gb102, 0, none⟩ = some (.int .i64 a0_0) := (blk_cell BK102.out 0).trans rfl; have hcz51_1 : w50.cell? ⟨gb102, 1, none⟩ = some (.int .i64 a0_1) := (blk_cell BK102.out 1).trans rfl; have hcz51_2 : w50.cell? ⟨gb102, 2, none⟩ = some (.int .i64 a0_2) := (blk_cell BK102.out 2).trans rfl; have hcz51_3 : w50.cell? ⟨gb102, 3, none⟩ = some (.int .i64 a0_3) := (blk_cell BK102.out 3).trans rfl; have hcz51_4 : w50.cell? ⟨gb102, 4, none⟩ = some (.int .i64 a0_4) := (blk_cell BK102.out 4).trans rfl; have hcz51_5 : w50.cell? ⟨gb102, 5, none⟩ = some (.int .i64 a0_5) := (blk_cell BK102.out 5).trans rfl; have hcz51_6 : w50.cell? ⟨gb102, 6, none⟩ = some (.int .i64 a0_6) := (blk_cell BK102.out 6).trans rfl; have hcz51_7 : w50.cell? ⟨gb102, 7, none⟩ = some (.int .i64 a0_7) := (blk_cell BK102.out 7).trans rfl; have hcz51_8 : w50.cell? ⟨gb102, 8, none⟩ = some (.int .i64 a0_8) := (blk_cell BK102.out 8).trans rfl; have hcz51_9 : w50.cell? ⟨gb102, 9, none⟩ = some (.int .i64 a0_9) := (blk_cell BK102.out 9).trans rfl; have hcz51_10 : w50.cell? ⟨gb102, 10, none⟩ = some (.int .i64 a0_10) := (blk_cell BK102.out 10).trans rfl; have hcz51_11 : w50.cell? ⟨gb102, 11, none⟩ = some (.int .i64 a0_11) := (blk_cell BK102.out 11).trans rfl; have hcz51_12 : w50.cell? ⟨gb102, 12, none⟩ = some (.int .i64 a0_12) := (blk_cell BK102.out 12).trans rfl; have hfz51_0 := blk_frozen BK102.out 0; have hfz51_1 := blk_frozen BK102.out 1; have hfz51_2 := blk_frozen BK102.out 2; have hfz51_3 := blk_frozen BK102.out 3; have hfz51_4 := blk_frozen BK102.out 4; have hfz51_5 := blk_frozen BK102.out 5; have hfz51_6 := blk_frozen BK102.out 6; have hfz51_7 := blk_frozen BK102.out 7; have hfz51_8 := blk_frozen BK102.out 8; have hfz51_9 := blk_frozen BK102.out 9; have hfz51_10 := blk_frozen BK102.out 10; have hfz51_11 := blk_frozen BK102.out 11; have hfz51_12 := blk_frozen BK102.out 12) | ((with_reducible refine gate_dst (N := 3) rfl ?_); (try (refine gate_guard (by rfl) ?_; dsimp only)); refine box_event ?hg (N := 3) ?hd (cs := #[.int .i64 0, .int .i64 0, .int .i64 0, .int .i64 0, .int .i64 0, .int .i64 0, .int .i64 0, .int .i64 0]) (t := 25) ?hr ?_; (case hd => rfl); (case hg => rfl); (case hr => first | (go_simp; done) | (go_simp; rfl)); intro gb103 hg w52 hbox hb; have n0_ := Aside0.mk (blk_below (g := gb102) (o := .cells #[.int .i64 a0_0, .int .i64 a0_1, .int .i64 a0_2, .int .i64 a0_3, .int .i64 a0_4, .int .i64 a0_5, .int .i64 a0_6, .int .i64 a0_7, .int .i64 a0_8, .int .i64 a0_9, .int .i64 a0_10, .int .i64 a0_11, .int .i64 a0_12] 27 (0, 0)) (by (with_reducible repeat (first | refine blk_drewN ?_ _ | refine blk_drew ?_ | refine blk_alloc ?_ _)); exact BK102.out) hb); have n1_ := Aside0.mk (below_step (by repeat (first | (with_reducible first | exact HB.out | apply below_alloc | apply pw_below_drewN | apply below_drew1 | refine below_set ?_ GE102.out) | exact HB.out)) hb); have n2_ := Aside0.mk (hbox); have n3_ := Aside0.mk ((by rw [hg]; exact (below_size (by repeat (first | (with_reducible first | exact HB.out | apply below_alloc | apply pw_below_drewN | apply below_drew1 | refine below_set ?_ GE102.out) | exact HB.out))) : w.heap.size ≤ gb103)); have n4_ := Aside0.mk ((by rw [hg]; exact (below_size (by repeat (first | (with_reducible first | exact HB.out | apply below_alloc | apply pw_below_drewN | apply below_drew1 | refine below_set ?_ GE102.out) | exact HB.out))) : w.heap.size ≤ gb103)); have n5_ := Aside0.mk ((by rw [hg]; exact Nat.ne_of_lt (blk_lt (g := gb102) (o := .cells #[.int .i64 a0_0, .int .i64 a0_1, .int .i64 a0_2, .int .i64 a0_3, .int .i64 a0_4, .int .i64 a0_5, .int .i64 a0_6, .int .i64 a0_7, .int .i64 a0_8, .int .i64 a0_9, .int .i64 a0_10, .int .i64 a0_11, .int .i64 a0_12] 27 (0, 0)) (by (with_reducible repeat (first | refine blk_drewN ?_ _ | refine blk_drew ?_ | refine blk_alloc ?_ _)); exact BK102.out)) : gb102 ≠ gb103)); have n6_ := Aside0.mk ((by rw [hg]; exact Nat.ne_of_gt (blk_lt (g := gb102) (o := .cells #[.int .i64 a0_0, .int .i64 a0_1, .int .i64 a0_2, .int .i64 a0_3, .int .i64 a0_4, .int .i64 a0_5, .int .i64 a0_6, .int .i64 a0_7, .int .i64 a0_8, .int .i64 a0_9, .int .i64 a0_10, .int .i64 a0_11, .int .i64 a0_12] 27 (0, 0)) (by (with_reducible repeat (first | refine blk_drewN ?_ _ | refine blk_drew ?_ | refine blk_alloc ?_ _)); exact BK102.out)) : gb103 ≠ gb102)); clear BK102; clear HB; have BK102 := n0_; have HB := n1_; have BK103 := n2_; have GW103 := n3_; have GE103 := n4_; have NB102_103 := n5_; have NB103_102 := n6_; clear n0_ n1_ n2_ n3_ n4_ n5_ n6_; clear hb hbox hg; have hnb53 := NB103_102.out; have hnc53 := NB102_103.out; have hcz54_0 : w52.cell? ⟨gb103, 0, none⟩ = some (.int .i64 0) := (blk_cell BK103.out 0).trans rfl; have hcz54_1 : w52.cell? ⟨gb103, 1, none⟩ = some (.int .i64 0) := (blk_cell BK103.out 1).trans rfl; have hcz54_2 : w52.cell? ⟨gb103, 2, none⟩ = some (.int .i64 0) := (blk_cell BK103.out 2).trans rfl; have hcz54_3 : w52.cell? ⟨gb103, 3, none⟩ = some (.int .i64 0) := (blk_cell BK103.out 3).trans rfl; have hcz54_4 : w52.cell? ⟨gb103, 4, none⟩ = some (.int .i64 0) := (blk_cell BK103.out 4).trans rfl; have hcz54_5 : w52.cell? ⟨gb103, 5, none⟩ = some (.int .i64 0) := (blk_cell BK103.out 5).trans rfl; have hcz54_6 : w52.cell? ⟨gb103, 6, none⟩ = some (.int .i64 0) := (blk_cell BK103.out 6).trans rfl; have hcz54_7 : w52.cell? ⟨gb103, 7, none⟩ = some (.int .i64 0) := (blk_cell BK103.out 7).trans rfl; have hfz54_0 := blk_frozen BK103.out 0; have hfz54_1 := blk_frozen BK103.out 1; have hfz54_2 := blk_frozen BK103.out 2; have hfz54_3 := blk_frozen BK103.out 3; have hfz54_4 := blk_frozen BK103.out 4; have hfz54_5 := blk_frozen BK103.out 5; have hfz54_6 := blk_frozen BK103.out 6; have hfz54_7 := blk_frozen BK103.out 7; have hcz55_0 : w52.cell? ⟨gb102, 0, none⟩ = some (.int .i64 a0_0) := (blk_cell BK102.out 0).trans rfl; have hcz55_1 : w52.cell? ⟨gb102, 1, none⟩ = some (.int .i64 a0_1) := (blk_cell BK102.out 1).trans rfl; have hcz55_2 : w52.cell? ⟨gb102, 2, none⟩ = some (.int .i64 a0_2) := (blk_cell BK102.out 2).trans rfl; have hcz55_3 : w52.cell? ⟨gb102, 3, none⟩ = some (.int .i64 a0_3) := (blk_cell BK102.out 3).trans rfl; have hcz55_4 : w52.cell? ⟨gb102, 4, none⟩ = some (.int .i64 a0_4) := (blk_cell BK102.out 4).trans rfl; have hcz55_5 : w52.cell? ⟨gb102, 5, none⟩ = some (.int .i64 a0_5) := (blk_cell BK102.out 5).trans rfl; have hcz55_6 : w52.cell? ⟨gb102, 6, none⟩ = some (.int .i64 a0_6) := (blk_cell BK102.out 6).trans rfl; have hcz55_7 : w52.cell? ⟨gb102, 7, none⟩ = some (.int .i64 a0_7) := (blk_cell BK102.out 7).trans rfl; have hcz55_8 : w52.cell? ⟨gb102, 8, none⟩ = some (.int .i64 a0_8) := (blk_cell BK102.out 8).trans rfl; have hcz55_9 : w52.cell? ⟨gb102, 9, none⟩ = some (.int .i64 a0_9) := (blk_cell BK102.out 9).trans rfl; have hcz55_10 : w52.cell? ⟨gb102, 10, none⟩ = some (.int .i64 a0_10) := (blk_cell BK102.out 10).trans rfl; have hcz55_11 : w52.cell? ⟨gb102, 11, none⟩ = some (.int .i64 a0_11) := (blk_cell BK102.out 11).trans rfl; have hcz55_12 : w52.cell? ⟨gb102, 12, none⟩ = some (.int .i64 a0_12) := (blk_cell BK102.out 12).trans rfl; have hfz55_0 := blk_frozen BK102.out 0; have hfz55_1 := blk_frozen BK102.out 1; have hfz55_2 := blk_frozen BK102.out 2; have hfz55_3 := blk_frozen BK102.out 3; have hfz55_4 := blk_frozen BK102.out 4; have hfz55_5 := blk_frozen BK102.out 5; have hfz55_6 := blk_frozen BK102.out 6; have hfz55_7 := blk_frozen BK102.out 7; have hfz55_8 := blk_frozen BK102.out 8; have hfz55_9 := blk_frozen BK102.out 9; have hfz55_10 := blk_frozen BK102.out 10; have hfz55_11 := blk_frozen BK102.out 11; have hfz55_12 := blk_frozen BK102.out 12) | ((with_reducible refine gate_callee (f := 95) rfl ?_); refine goesL_ (some 8) rfl rfl Try.func95 (by kernel_rfl) rfl #[.int .i64 a0_0, .int .i64 1, .int .i64 1048576] rfl (by (try simp only [List.map_toArray, List.map_cons, List.map_nil]); first | done | rfl | (simp only [List.length_drop, List.length_take]; rfl)) ?_; (with_reducible refine (label_in.calls a0_0 1 1048576 true _ A2.out).mono ?_); rintro e w' ⟨rfl, ⟨nd, rfl⟩⟩; refine ⟨_, rfl, ?_⟩) | (go_at_call 95; (with_reducible refine (label_in.calls a0_2 2 8 true _ A4.out).mono ?_); rintro e w' ⟨rfl, ⟨nd, rfl⟩⟩) | (go_at_call 95; (with_reducible refine (label_in.calls a0_1 0 (wrap64 (a0_2 - 1)) true _ A6.out).mono ?_); rintro e w' ⟨rfl, ⟨nd, rfl⟩⟩) | (go_at_call 95; (with_reducible refine (label_in.calls a0_3 1 ji8 false _ A9.out).mono ?_); rintro e w' ⟨rfl, ⟨nd, rfl⟩⟩))
          go_ret
          exact ⟨by first | rfl | (simp [errW_none, errW_some] <;> rfl) | (simp only [← hji8]; first | rfl | (simp [errW_none, errW_some] <;> rfl)) | (simp [*, errW_none, errW_some] <;> rfl), by repeat (first | (with_reducible first | exact HB.out | apply below_alloc | apply pw_below_drewN | apply below_drew1 | refine below_set ?_ GE102.out | refine below_set ?_ GE103.out) | exact HB.out)⟩
      · replace c7 := Bool.eq_false_iff.mpr c7
        subst c7
        have H1 : (some false) = some r := by rw [if_neg (show ¬ (false = true) by decide)] at H; exact H
        clear H
        have H := H1
        clear H1
        obtain rfl := Option.some.inj H
        go_enter Try.func47, Try.ntmps47
        go_wp2_with (first | ((with_reducible refine gate_dst (N := 1) rfl ?_); (try (refine gate_guard (by rfl) ?_; dsimp only)); refine box_event ?hg (N := 1) ?hd (cs := #[.int .i64 a0_0, .int .i64 a0_1, .int .i64 a0_2, .int .i64 a0_3, .int .i64 a0_4, .int .i64 a0_5, .int .i64 a0_6, .int .i64 a0_7, .int .i64 a0_8, .int .i64 a0_9, .int .i64 a0_10, .int .i64 a0_11, .int .i64 a0_12]) (t := 27) ?hr ?_; (case hd => rfl); (case hg => rfl); (case hr => first | (go_simp; done) | (go_simp; rfl)); intro gb102 hg w56 hbox hb; have n0_ := Aside0.mk (below_step (by repeat (first | (with_reducible first | exact HB.out | apply below_alloc | apply pw_below_drewN | apply below_drew1) | exact HB.out)) hb); have n1_ := Aside0.mk (hbox); have n2_ := Aside0.mk ((by rw [hg]; exact (below_size (by repeat (first | (with_reducible first | exact HB.out | apply below_alloc | apply pw_below_drewN | apply below_drew1) | exact HB.out))) : w.heap.size ≤ gb102)); have n3_ := Aside0.mk ((by rw [hg]; exact (below_size (by repeat (first | (with_reducible first | exact HB.out | apply below_alloc | apply pw_below_drewN | apply below_drew1) | exact HB.out))) : w.heap.size ≤ gb102)); clear HB; have HB := n0_; have BK102 := n1_; have GW102 := n2_; have GE102 := n3_; clear n0_ n1_ n2_ n3_; clear hb hbox hg; have hcz57_0 : w56.cell? ⟨gb102, 0, none⟩ = some (.int .i64 a0_0) := (blk_cell BK102.out 0).trans rfl; have hcz57_1 : w56.cell? ⟨gb102, 1, none⟩ = some (.int .i64 a0_1) := (blk_cell BK102.out 1).trans rfl; have hcz57_2 : w56.cell? ⟨gb102, 2, none⟩ = some (.int .i64 a0_2) := (blk_cell BK102.out 2).trans rfl; have hcz57_3 : w56.cell? ⟨gb102, 3, none⟩ = some (.int .i64 a0_3) := (blk_cell BK102.out 3).trans rfl; have hcz57_4 : w56.cell? ⟨gb102, 4, none⟩ = some (.int .i64 a0_4) := (blk_cell BK102.out 4).trans rfl; have hcz57_5 : w56.cell? ⟨gb102, 5, none⟩ = some (.int .i64 a0_5) := (blk_cell BK102.out 5).trans rfl; have hcz57_6 : w56.cell? ⟨gb102, 6, none⟩ = some (.int .i64 a0_6) := (blk_cell BK102.out 6).trans rfl; have hcz57_7 : w56.cell? ⟨gb102, 7, none⟩ = some (.int .i64 a0_7) := (blk_cell BK102.out 7).trans rfl; have hcz57_8 : w56.cell? ⟨gb102, 8, none⟩ = some (.int .i64 a0_8) := (blk_cell BK102.out 8).trans rfl; have hcz57_9 : w56.cell? ⟨gb102, 9, none⟩ = some (.int .i64 a0_9) := (blk_cell BK102.out 9).trans rfl; have hcz57_10 : w56.cell? ⟨gb102, 10, none⟩ = some (.int .i64 a0_10) := (blk_cell BK102.out 10).trans rfl; have hcz57_11 : w56.cell? ⟨gb102, 11, none⟩ = some (.int .i64 a0_11) := (blk_cell BK102.out 11).trans rfl; have hcz57_12 : w56.cell? ⟨gb102, 12, none⟩ = some (.int .i64 a0_12) := (blk_cell BK102.out 12).trans rfl; have hfz57_0 := blk_frozen BK102.out 0; have hfz57_1 := blk_frozen BK102.out 1; have hfz57_2 := blk_frozen BK102.out 2; have hfz57_3 := blk_frozen BK102.out 3; have hfz57_4 := blk_frozen BK102.out 4; have hfz57_5 := blk_frozen BK102.out 5; have hfz57_6 := blk_frozen BK102.out 6; have hfz57_7 := blk_frozen BK102.out 7; have hfz57_8 := blk_frozen BK102.out 8; have hfz57_9 := blk_frozen BK102.out 9; have hfz57_10 := blk_frozen BK102.out 10; have hfz57_11 := blk_frozen BK102.out 11; have hfz57_12 := blk_frozen BK102.out 12) | ((with_reducible refine gate_dst (N := 3) rfl ?_); (try (refine gate_guard (by rfl) ?_; dsimp only)); refine box_event ?hg (N := 3) ?hd (cs := #[.int .i64 0, .int .i64 0, .int .i64 0, .int .i64 0, .int .i64 0, .int .i64 0, .int .i64 0, .int .i64 0]) (t := 25) ?hr ?_; (case hd => rfl); (case hg => rfl); (case hr => first | (go_simp; done) | (go_simp; rfl)); intro gb103 hg w58 hbox hb; have n0_ := Aside0.mk (blk_below (g := gb102) (o := .cells #[.int .i64 a0_0, .int .i64 a0_1, .int .i64 a0_2, .int .i64 a0_3, .int .i64 a0_4, .int .i64 a0_5, .int .i64 a0_6, .int .i64 a0_7, .int .i64 a0_8, .int .i64 a0_9, .int .i64 a0_10, .int .i64 a0_11, .int .i64 a0_12] 27 (0, 0)) (by (with_reducible repeat (first | refine blk_drewN ?_ _ | refine blk_drew ?_ | refine blk_alloc ?_ _)); exact BK102.out) hb); have n1_ := Aside0.mk (below_step (by repeat (first | (with_reducible first | exact HB.out | apply below_alloc | apply pw_below_drewN | apply below_drew1 | refine below_set ?_ GE102.out) | exact HB.out)) hb); have n2_ := Aside0.mk (hbox); have n3_ := Aside0.mk ((by rw [hg]; exact (below_size (by repeat (first | (with_reducible first | exact HB.out | apply below_alloc | apply pw_below_drewN | apply below_drew1 | refine below_set ?_ GE102.out) | exact HB.out))) : w.heap.size ≤ gb103)); have n4_ := Aside0.mk ((by rw [hg]; exact (below_size (by repeat (first | (with_reducible first | exact HB.out | apply below_alloc | apply pw_below_drewN | apply below_drew1 | refine below_set ?_ GE102.out) | exact HB.out))) : w.heap.size ≤ gb103)); have n5_ := Aside0.mk ((by rw [hg]; exact Nat.ne_of_lt (blk_lt (g := gb102) (o := .cells #[.int .i64 a0_0, .int .i64 a0_1, .int .i64 a0_2, .int .i64 a0_3, .int .i64 a0_4, .int .i64 a0_5, .int .i64 a0_6, .int .i64 a0_7, .int .i64 a0_8, .int .i64 a0_9, .int .i64 a0_10, .int .i64 a0_11, .int .i64 a0_12] 27 (0, 0)) (by (with_reducible repeat (first | refine blk_drewN ?_ _ | refine blk_drew ?_ | refine blk_alloc ?_ _)); exact BK102.out)) : gb102 ≠ gb103)); have n6_ := Aside0.mk ((by rw [hg]; exact Nat.ne_of_gt (blk_lt (g := gb102) (o := .cells #[.int .i64 a0_0, .int .i64 a0_1, .int .i64 a0_2, .int .i64 a0_3, .int .i64 a0_4, .int .i64 a0_5, .int .i64 a0_6, .int .i64 a0_7, .int .i64 a0_8, .int .i64 a0_9, .int .i64 a0_10, .int .i64 a0_11, .int .i64 a0_12] 27 (0, 0)) (by (with_reducible repeat (first | refine blk_drewN ?_ _ | refine blk_drew ?_ | refine blk_alloc ?_ _)); exact BK102.out)) : gb103 ≠ gb102)); clear BK102; clear HB; have BK102 := n0_; have HB := n1_; have BK103 := n2_; have GW103 := n3_; have GE103 := n4_; have NB102_103 := n5_; have NB103_102 := n6_; clear n0_ n1_ n2_ n3_ n4_ n5_ n6_; clear hb hbox hg; have hnb59 := NB103_102.out; have hnc59 := NB102_103.out; have hcz60_0 : w58.cell? ⟨gb103, 0, none⟩ = some (.int .i64 0) := (blk_cell BK103.out 0).trans rfl; have hcz60_1 : w58.cell? ⟨gb103, 1, none⟩ = some (.int .i64 0) := (blk_cell BK103.out 1).trans rfl; have hcz60_2 : w58.cell? ⟨gb103, 2, none⟩ = some (.int .i64 0) := (blk_cell BK103.out 2).trans rfl; have hcz60_3 : w58.cell? ⟨gb103, 3, none⟩ = some (.int .i64 0) := (blk_cell BK103.out 3).trans rfl; have hcz60_4 : w58.cell? ⟨gb103, 4, none⟩ = some (.int .i64 0) := (blk_cell BK103.out 4).trans rfl; have hcz60_5 : w58.cell? ⟨gb103, 5, none⟩ = some (.int .i64 0) := (blk_cell BK103.out 5).trans rfl; have hcz60_6 : w58.cell? ⟨gb103, 6, none⟩ = some (.int .i64 0) := (blk_cell BK103.out 6).trans rfl; have hcz60_7 : w58.cell? ⟨gb103, 7, none⟩ = some (.int .i64 0) := (blk_cell BK103.out 7).trans rfl; have hfz60_0 := blk_frozen BK103.out 0; have hfz60_1 := blk_frozen BK103.out 1; have hfz60_2 := blk_frozen BK103.out 2; have hfz60_3 := blk_frozen BK103.out 3; have hfz60_4 := blk_frozen BK103.out 4; have hfz60_5 := blk_frozen BK103.out 5; have hfz60_6 := blk_frozen BK103.out 6; have hfz60_7 := blk_frozen BK103.out 7; have hcz61_0 : w58.cell? ⟨gb102, 0, none⟩ = some (.int .i64 a0_0) := (blk_cell BK102.out 0).trans rfl; have hcz61_1 : w58.cell? ⟨gb102, 1, none⟩ = some (.int .i64 a0_1) := (blk_cell BK102.out 1).trans rfl; have hcz61_2 : w58.cell? ⟨gb102, 2, none⟩ = some (.int .i64 a0_2) := (blk_cell BK102.out 2).trans rfl; have hcz61_3 : w58.cell? ⟨gb102, 3, none⟩ = some (.int .i64 a0_3) := (blk_cell BK102.out 3).trans rfl; have hcz61_4 : w58.cell? ⟨gb102, 4, none⟩ = some (.int .i64 a0_4) := (blk_cell BK102.out 4).trans rfl; have hcz61_5 : w58.cell? ⟨gb102, 5, none⟩ = some (.int .i64 a0_5) := (blk_cell BK102.out 5).trans rfl; have hcz61_6 : w58.cell? ⟨gb102, 6, none⟩ = some (.int .i64 a0_6) := (blk_cell BK102.out 6).trans rfl; have hcz61_7 : w58.cell? ⟨gb102, 7, none⟩ = some (.int .i64 a0_7) := (blk_cell BK102.out 7).trans rfl; have hcz61_8 : w58.cell? ⟨gb102, 8, none⟩ = some (.int .i64 a0_8) := (blk_cell BK102.out 8).trans rfl; have hcz61_9 : w58.cell? ⟨gb102, 9, none⟩ = some (.int .i64 a0_9) := (blk_cell BK102.out 9).trans rfl; have hcz61_10 : w58.cell? ⟨gb102, 10, none⟩ = some (.int .i64 a0_10) := (blk_cell BK102.out 10).trans rfl; have hcz61_11 : w58.cell? ⟨gb102, 11, none⟩ = some (.int .i64 a0_11) := (blk_cell BK102.out 11).trans rfl; have hcz61_12 : w58.cell? ⟨gb102, 12, none⟩ = some (.int .i64 a0_12) := (blk_cell BK102.out 12).trans rfl; have hfz61_0 := blk_frozen BK102.out 0; have hfz61_1 := blk_frozen BK102.out 1; have hfz61_2 := blk_frozen BK102.out 2; have hfz61_3 := blk_frozen BK102.out 3; have hfz61_4 := blk_frozen BK102.out 4; have hfz61_5 := blk_frozen BK102.out 5; have hfz61_6 := blk_frozen BK102.out 6; have hfz61_7 := blk_frozen BK102.out 7; have hfz61_8 := blk_frozen BK102.out 8; have hfz61_9 := blk_frozen BK102.out 9; have hfz61_10 := blk_frozen BK102.out 10; have hfz61_11 := blk_frozen BK102.out 11; have hfz61_12 := blk_frozen BK102.out 12) | ((with_reducible refine gate_callee (f := 95) rfl ?_); refine goesL_ (some 8) rfl rfl Try.func95 (by kernel_rfl) rfl #[.int .i64 a0_0, .int .i64 1, .int .i64 1048576] rfl (by (try simp only [List.map_toArray, List.map_cons, List.map_nil]); first | done | rfl | (simp only [List.length_drop, List.length_take]; rfl)) ?_; (with_reducible refine (label_in.calls a0_0 1 1048576 true _ A2.out).mono ?_); rintro e w' ⟨rfl, ⟨nd, rfl⟩⟩; refine ⟨_, rfl, ?_⟩) | (go_at_call 95; (with_reducible refine (label_in.calls a0_2 2 8 true _ A4.out).mono ?_); rintro e w' ⟨rfl, ⟨nd, rfl⟩⟩) | (go_at_call 95; (with_reducible refine (label_in.calls a0_1 0 (wrap64 (a0_2 - 1)) false _ A6.out).mono ?_); rintro e w' ⟨rfl, ⟨nd, rfl⟩⟩))
        go_ret
        exact ⟨by first | rfl | (simp [errW_none, errW_some] <;> rfl) | (simp [*, errW_none, errW_some] <;> rfl), by repeat (first | (with_reducible first | exact HB.out | apply below_alloc | apply pw_below_drewN | apply below_drew1 | refine below_set ?_ GE102.out | refine below_set ?_ GE103.out) | exact HB.out)⟩
    · replace c5 := Bool.eq_false_iff.mpr c5
      subst c5
      have H1 : (some false) = some r := by rw [if_neg (show ¬ (false = true) by decide)] at H; exact H
      clear H
      have H := H1
      clear H1
      obtain rfl := Option.some.inj H
      go_enter Try.func47, Try.ntmps47
      go_wp2_with (first | ((with_reducible refine gate_dst (N := 1) rfl ?_); (try (refine gate_guard (by rfl) ?_; dsimp only)); refine box_event ?hg (N := 1) ?hd (cs := #[.int .i64 a0_0, .int .i64 a0_1, .int .i64 a0_2, .int .i64 a0_3, .int .i64 a0_4, .int .i64 a0_5, .int .i64 a0_6, .int .i64 a0_7, .int .i64 a0_8, .int .i64 a0_9, .int .i64 a0_10, .int .i64 a0_11, .int .i64 a0_12]) (t := 27) ?hr ?_; (case hd => rfl); (case hg => rfl); (case hr => first | (go_simp; done) | (go_simp; rfl)); intro gb102 hg w62 hbox hb; have n0_ := Aside0.mk (below_step (by repeat (first | (with_reducible first | exact HB.out | apply below_alloc | apply pw_below_drewN | apply below_drew1) | exact HB.out)) hb); have n1_ := Aside0.mk (hbox); have n2_ := Aside0.mk ((by rw [hg]; exact (below_size (by repeat (first | (with_reducible first | exact HB.out | apply below_alloc | apply pw_below_drewN | apply below_drew1) | exact HB.out))) : w.heap.size ≤ gb102)); have n3_ := Aside0.mk ((by rw [hg]; exact (below_size (by repeat (first | (with_reducible first | exact HB.out | apply below_alloc | apply pw_below_drewN | apply below_drew1) | exact HB.out))) : w.heap.size ≤ gb102)); clear HB; have HB := n0_; have BK102 := n1_; have GW102 := n2_; have GE102 := n3_; clear n0_ n1_ n2_ n3_; clear hb hbox hg; have hcz63_0 : w62.cell? ⟨gb102, 0, none⟩ = some (.int .i64 a0_0) := (blk_cell BK102.out 0).trans rfl; have hcz63_1 : w62.cell? ⟨gb102, 1, none⟩ = some (.int .i64 a0_1) := (blk_cell BK102.out 1).trans rfl; have hcz63_2 : w62.cell? ⟨gb102, 2, none⟩ = some (.int .i64 a0_2) := (blk_cell BK102.out 2).trans rfl; have hcz63_3 : w62.cell? ⟨gb102, 3, none⟩ = some (.int .i64 a0_3) := (blk_cell BK102.out 3).trans rfl; have hcz63_4 : w62.cell? ⟨gb102, 4, none⟩ = some (.int .i64 a0_4) := (blk_cell BK102.out 4).trans rfl; have hcz63_5 : w62.cell? ⟨gb102, 5, none⟩ = some (.int .i64 a0_5) := (blk_cell BK102.out 5).trans rfl; have hcz63_6 : w62.cell? ⟨gb102, 6, none⟩ = some (.int .i64 a0_6) := (blk_cell BK102.out 6).trans rfl; have hcz63_7 : w62.cell? ⟨gb102, 7, none⟩ = some (.int .i64 a0_7) := (blk_cell BK102.out 7).trans rfl; have hcz63_8 : w62.cell? ⟨gb102, 8, none⟩ = some (.int .i64 a0_8) := (blk_cell BK102.out 8).trans rfl; have hcz63_9 : w62.cell? ⟨gb102, 9, none⟩ = some (.int .i64 a0_9) := (blk_cell BK102.out 9).trans rfl; have hcz63_10 : w62.cell? ⟨gb102, 10, none⟩ = some (.int .i64 a0_10) := (blk_cell BK102.out 10).trans rfl; have hcz63_11 : w62.cell? ⟨gb102, 11, none⟩ = some (.int .i64 a0_11) := (blk_cell BK102.out 11).trans rfl; have hcz63_12 : w62.cell? ⟨gb102, 12, none⟩ = some (.int .i64 a0_12) := (blk_cell BK102.out 12).trans rfl; have hfz63_0 := blk_frozen BK102.out 0; have hfz63_1 := blk_frozen BK102.out 1; have hfz63_2 := blk_frozen BK102.out 2; have hfz63_3 := blk_frozen BK102.out 3; have hfz63_4 := blk_frozen BK102.out 4; have hfz63_5 := blk_frozen BK102.out 5; have hfz63_6 := blk_frozen BK102.out 6; have hfz63_7 := blk_frozen BK102.out 7; have hfz63_8 := blk_frozen BK102.out 8; have hfz63_9 := blk_frozen BK102.out 9; have hfz63_10 := blk_frozen BK102.out 10; have hfz63_11 := blk_frozen BK102.out 11; have hfz63_12 := blk_frozen BK102.out 12) | ((with_reducible refine gate_dst (N := 3) rfl ?_); (try (refine gate_guard (by rfl) ?_; dsimp only)); refine box_event ?hg (N := 3) ?hd (cs := #[.int .i64 0, .int .i64 0, .int .i64 0, .int .i64 0, .int .i64 0, .int .i64 0, .int .i64 0, .int .i64 0]) (t := 25) ?hr ?_; (case hd => rfl); (case hg => rfl); (case hr => first | (go_simp; done) | (go_simp; rfl)); intro gb103 hg w64 hbox hb; have n0_ := Aside0.mk (blk_below (g := gb102) (o := .cells #[.int .i64 a0_0, .int .i64 a0_1, .int .i64 a0_2, .int .i64 a0_3, .int .i64 a0_4, .int .i64 a0_5, .int .i64 a0_6, .int .i64 a0_7, .int .i64 a0_8, .int .i64 a0_9, .int .i64 a0_10, .int .i64 a0_11, .int .i64 a0_12] 27 (0, 0)) (by (with_reducible repeat (first | refine blk_drewN ?_ _ | refine blk_drew ?_ | refine blk_alloc ?_ _)); exact BK102.out) hb); have n1_ := Aside0.mk (below_step (by repeat (first | (with_reducible first | exact HB.out | apply below_alloc | apply pw_below_drewN | apply below_drew1 | refine below_set ?_ GE102.out) | exact HB.out)) hb); have n2_ := Aside0.mk (hbox); have n3_ := Aside0.mk ((by rw [hg]; exact (below_size (by repeat (first | (with_reducible first | exact HB.out | apply below_alloc | apply pw_below_drewN | apply below_drew1 | refine below_set ?_ GE102.out) | exact HB.out))) : w.heap.size ≤ gb103)); have n4_ := Aside0.mk ((by rw [hg]; exact (below_size (by repeat (first | (with_reducible first | exact HB.out | apply below_alloc | apply pw_below_drewN | apply below_drew1 | refine below_set ?_ GE102.out) | exact HB.out))) : w.heap.size ≤ gb103)); have n5_ := Aside0.mk ((by rw [hg]; exact Nat.ne_of_lt (blk_lt (g := gb102) (o := .cells #[.int .i64 a0_0, .int .i64 a0_1, .int .i64 a0_2, .int .i64 a0_3, .int .i64 a0_4, .int .i64 a0_5, .int .i64 a0_6, .int .i64 a0_7, .int .i64 a0_8, .int .i64 a0_9, .int .i64 a0_10, .int .i64 a0_11, .int .i64 a0_12] 27 (0, 0)) (by (with_reducible repeat (first | refine blk_drewN ?_ _ | refine blk_drew ?_ | refine blk_alloc ?_ _)); exact BK102.out)) : gb102 ≠ gb103)); have n6_ := Aside0.mk ((by rw [hg]; exact Nat.ne_of_gt (blk_lt (g := gb102) (o := .cells #[.int .i64 a0_0, .int .i64 a0_1, .int .i64 a0_2, .int .i64 a0_3, .int .i64 a0_4, .int .i64 a0_5, .int .i64 a0_6, .int .i64 a0_7, .int .i64 a0_8, .int .i64 a0_9, .int .i64 a0_10, .int .i64 a0_11, .int .i64 a0_12] 27 (0, 0)) (by (with_reducible repeat (first | refine blk_drewN ?_ _ | refine blk_drew ?_ | refine blk_alloc ?_ _)); exact BK102.out)) : gb103 ≠ gb102)); clear BK102; clear HB; have BK102 := n0_; have HB := n1_; have BK103 := n2_; have GW103 := n3_; have GE103 := n4_; have NB102_103 := n5_; have NB103_102 := n6_; clear n0_ n1_ n2_ n3_ n4_ n5_ n6_; clear hb hbox hg; have hnb65 := NB103_102.out; have hnc65 := NB102_103.out; have hcz66_0 : w64.cell? ⟨gb103, 0, none⟩ = some (.int .i64 0) := (blk_cell BK103.out 0).trans rfl; have hcz66_1 : w64.cell? ⟨gb103, 1, none⟩ = some (.int .i64 0) := (blk_cell BK103.out 1).trans rfl; have hcz66_2 : w64.cell? ⟨gb103, 2, none⟩ = some (.int .i64 0) := (blk_cell BK103.out 2).trans rfl; have hcz66_3 : w64.cell? ⟨gb103, 3, none⟩ = some (.int .i64 0) := (blk_cell BK103.out 3).trans rfl; have hcz66_4 : w64.cell? ⟨gb103, 4, none⟩ = some (.int .i64 0) := (blk_cell BK103.out 4).trans rfl; have hcz66_5 : w64.cell? ⟨gb103, 5, none⟩ = some (.int .i64 0) := (blk_cell BK103.out 5).trans rfl; have hcz66_6 : w64.cell? ⟨gb103, 6, none⟩ = some (.int .i64 0) := (blk_cell BK103.out 6).trans rfl; have hcz66_7 : w64.cell? ⟨gb103, 7, none⟩ = some (.int .i64 0) := (blk_cell BK103.out 7).trans rfl; have hfz66_0 := blk_frozen BK103.out 0; have hfz66_1 := blk_frozen BK103.out 1; have hfz66_2 := blk_frozen BK103.out 2; have hfz66_3 := blk_frozen BK103.out 3; have hfz66_4 := blk_frozen BK103.out 4; have hfz66_5 := blk_frozen BK103.out 5; have hfz66_6 := blk_frozen BK103.out 6; have hfz66_7 := blk_frozen BK103.out 7; have hcz67_0 : w64.cell? ⟨gb102, 0, none⟩ = some (.int .i64 a0_0) := (blk_cell BK102.out 0).trans rfl; have hcz67_1 : w64.cell? ⟨gb102, 1, none⟩ = some (.int .i64 a0_1) := (blk_cell BK102.out 1).trans rfl; have hcz67_2 : w64.cell? ⟨gb102, 2, none⟩ = some (.int .i64 a0_2) := (blk_cell BK102.out 2).trans rfl; have hcz67_3 : w64.cell? ⟨gb102, 3, none⟩ = some (.int .i64 a0_3) := (blk_cell BK102.out 3).trans rfl; have hcz67_4 : w64.cell? ⟨gb102, 4, none⟩ = some (.int .i64 a0_4) := (blk_cell BK102.out 4).trans rfl; have hcz67_5 : w64.cell? ⟨gb102, 5, none⟩ = some (.int .i64 a0_5) := (blk_cell BK102.out 5).trans rfl; have hcz67_6 : w64.cell? ⟨gb102, 6, none⟩ = some (.int .i64 a0_6) := (blk_cell BK102.out 6).trans rfl; have hcz67_7 : w64.cell? ⟨gb102, 7, none⟩ = some (.int .i64 a0_7) := (blk_cell BK102.out 7).trans rfl; have hcz67_8 : w64.cell? ⟨gb102, 8, none⟩ = some (.int .i64 a0_8) := (blk_cell BK102.out 8).trans rfl; have hcz67_9 : w64.cell? ⟨gb102, 9, none⟩ = some (.int .i64 a0_9) := (blk_cell BK102.out 9).trans rfl; have hcz67_10 : w64.cell? ⟨gb102, 10, none⟩ = some (.int .i64 a0_10) := (blk_cell BK102.out 10).trans rfl; have hcz67_11 : w64.cell? ⟨gb102, 11, none⟩ = some (.int .i64 a0_11) := (blk_cell BK102.out 11).trans rfl; have hcz67_12 : w64.cell? ⟨gb102, 12, none⟩ = some (.int .i64 a0_12) := (blk_cell BK102.out 12).trans rfl; have hfz67_0 := blk_frozen BK102.out 0; have hfz67_1 := blk_frozen BK102.out 1; have hfz67_2 := blk_frozen BK102.out 2; have hfz67_3 := blk_frozen BK102.out 3; have hfz67_4 := blk_frozen BK102.out 4; have hfz67_5 := blk_frozen BK102.out 5; have hfz67_6 := blk_frozen BK102.out 6; have hfz67_7 := blk_frozen BK102.out 7; have hfz67_8 := blk_frozen BK102.out 8; have hfz67_9 := blk_frozen BK102.out 9; have hfz67_10 := blk_frozen BK102.out 10; have hfz67_11 := blk_frozen BK102.out 11; have hfz67_12 := blk_frozen BK102.out 12) | ((with_reducible refine gate_callee (f := 95) rfl ?_); refine goesL_ (some 8) rfl rfl Try.func95 (by kernel_rfl) rfl #[.int .i64 a0_0, .int .i64 1, .int .i64 1048576] rfl (by (try simp only [List.map_toArray, List.map_cons, List.map_nil]); first | done | rfl | (simp only [List.length_drop, List.length_take]; rfl)) ?_; (with_reducible refine (label_in.calls a0_0 1 1048576 true _ A2.out).mono ?_); rintro e w' ⟨rfl, ⟨nd, rfl⟩⟩; refine ⟨_, rfl, ?_⟩) | (go_at_call 95; (with_reducible refine (label_in.calls a0_2 2 8 false _ A4.out).mono ?_); rintro e w' ⟨rfl, ⟨nd, rfl⟩⟩))
      go_ret
      exact ⟨by first | rfl | (simp [errW_none, errW_some] <;> rfl) | (simp [*, errW_none, errW_some] <;> rfl), by repeat (first | (with_reducible first | exact HB.out | apply below_alloc | apply pw_below_drewN | apply below_drew1 | refine below_set ?_ GE102.out | refine below_set ?_ GE103.out) | exact HB.out)⟩
  · replace c3 := Bool.eq_false_iff.mpr c3
    subst c3
    have H1 : (some false) = some r := by rw [if_neg (show ¬ (false = true) by decide)] at H; exact H
    clear H
    have H := H1
    clear H1
    obtain rfl := Option.some.inj H
    go_enter Try.func47, Try.ntmps47
    go_wp2_with (first | ((with_reducible refine gate_dst (N := 1) rfl ?_); (try (refine gate_guard (by rfl) ?_; dsimp only)); refine box_event ?hg (N := 1) ?hd (cs := #[.int .i64 a0_0, .int .i64 a0_1, .int .i64 a0_2, .int .i64 a0_3, .int .i64 a0_4, .int .i64 a0_5, .int .i64 a0_6, .int .i64 a0_7, .int .i64 a0_8, .int .i64 a0_9, .int .i64 a0_10, .int .i64 a0_11, .int .i64 a0_12]) (t := 27) ?hr ?_; (case hd => rfl); (case hg => rfl); (case hr => first | (go_simp; done) | (go_simp; rfl)); intro gb102 hg w68 hbox hb; have n0_ := Aside0.mk (below_step (by repeat (first | (with_reducible first | exact HB.out | apply below_alloc | apply pw_below_drewN | apply below_drew1) | exact HB.out)) hb); have n1_ := Aside0.mk (hbox); have n2_ := Aside0.mk ((by rw [hg]; exact (below_size (by repeat (first | (with_reducible first | exact HB.out | apply below_alloc | apply pw_below_drewN | apply below_drew1) | exact HB.out))) : w.heap.size ≤ gb102)); have n3_ := Aside0.mk ((by rw [hg]; exact (below_size (by repeat (first | (with_reducible first | exact HB.out | apply below_alloc | apply pw_below_drewN | apply below_drew1) | exact HB.out))) : w.heap.size ≤ gb102)); clear HB; have HB := n0_; have BK102 := n1_; have GW102 := n2_; have GE102 := n3_; clear n0_ n1_ n2_ n3_; clear hb hbox hg; have hcz69_0 : w68.cell? ⟨gb102, 0, none⟩ = some (.int .i64 a0_0) := (blk_cell BK102.out 0).trans rfl; have hcz69_1 : w68.cell? ⟨gb102, 1, none⟩ = some (.int .i64 a0_1) := (blk_cell BK102.out 1).trans rfl; have hcz69_2 : w68.cell? ⟨gb102, 2, none⟩ = some (.int .i64 a0_2) := (blk_cell BK102.out 2).trans rfl; have hcz69_3 : w68.cell? ⟨gb102, 3, none⟩ = some (.int .i64 a0_3) := (blk_cell BK102.out 3).trans rfl; have hcz69_4 : w68.cell? ⟨gb102, 4, none⟩ = some (.int .i64 a0_4) := (blk_cell BK102.out 4).trans rfl; have hcz69_5 : w68.cell? ⟨gb102, 5, none⟩ = some (.int .i64 a0_5) := (blk_cell BK102.out 5).trans rfl; have hcz69_6 : w68.cell? ⟨gb102, 6, none⟩ = some (.int .i64 a0_6) := (blk_cell BK102.out 6).trans rfl; have hcz69_7 : w68.cell? ⟨gb102, 7, none⟩ = some (.int .i64 a0_7) := (blk_cell BK102.out 7).trans rfl; have hcz69_8 : w68.cell? ⟨gb102, 8, none⟩ = some (.int .i64 a0_8) := (blk_cell BK102.out 8).trans rfl; have hcz69_9 : w68.cell? ⟨gb102, 9, none⟩ = some (.int .i64 a0_9) := (blk_cell BK102.out 9).trans rfl; have hcz69_10 : w68.cell? ⟨gb102, 10, none⟩ = some (.int .i64 a0_10) := (blk_cell BK102.out 10).trans rfl; have hcz69_11 : w68.cell? ⟨gb102, 11, none⟩ = some (.int .i64 a0_11) := (blk_cell BK102.out 11).trans rfl; have hcz69_12 : w68.cell? ⟨gb102, 12, none⟩ = some (.int .i64 a0_12) := (blk_cell BK102.out 12).trans rfl; have hfz69_0 := blk_frozen BK102.out 0; have hfz69_1 := blk_frozen BK102.out 1; have hfz69_2 := blk_frozen BK102.out 2; have hfz69_3 := blk_frozen BK102.out 3; have hfz69_4 := blk_frozen BK102.out 4; have hfz69_5 := blk_frozen BK102.out 5; have hfz69_6 := blk_frozen BK102.out 6; have hfz69_7 := blk_frozen BK102.out 7; have hfz69_8 := blk_frozen BK102.out 8; have hfz69_9 := blk_frozen BK102.out 9; have hfz69_10 := blk_frozen BK102.out 10; have hfz69_11 := blk_frozen BK102.out 11; have hfz69_12 := blk_frozen BK102.out 12) | ((with_reducible refine gate_dst (N := 3) rfl ?_); (try (refine gate_guard (by rfl) ?_; dsimp only)); refine box_event ?hg (N := 3) ?hd (cs := #[.int .i64 0, .int .i64 0, .int .i64 0, .int .i64 0, .int .i64 0, .int .i64 0, .int .i64 0, .int .i64 0]) (t := 25) ?hr ?_; (case hd => rfl); (case hg => rfl); (case hr => first | (go_simp; done) | (go_simp; rfl)); intro gb103 hg w70 hbox hb; have n0_ := Aside0.mk (blk_below (g := gb102) (o := .cells #[.int .i64 a0_0, .int .i64 a0_1, .int .i64 a0_2, .int .i64 a0_3, .int .i64 a0_4, .int .i64 a0_5, .int .i64 a0_6, .int .i64 a0_7, .int .i64 a0_8, .int .i64 a0_9, .int .i64 a0_10, .int .i64 a0_11, .int .i64 a0_12] 27 (0, 0)) (by (with_reducible repeat (first | refine blk_drewN ?_ _ | refine blk_drew ?_ | refine blk_alloc ?_ _)); exact BK102.out) hb); have n1_ := Aside0.mk (below_step (by repeat (first | (with_reducible first | exact HB.out | apply below_alloc | apply pw_below_drewN | apply below_drew1 | refine below_set ?_ GE102.out) | exact HB.out)) hb); have n2_ := Aside0.mk (hbox); have n3_ := Aside0.mk ((by rw [hg]; exact (below_size (by repeat (first | (with_reducible first | exact HB.out | apply below_alloc | apply pw_below_drewN | apply below_drew1 | refine below_set ?_ GE102.out) | exact HB.out))) : w.heap.size ≤ gb103)); have n4_ := Aside0.mk ((by rw [hg]; exact (below_size (by repeat (first | (with_reducible first | exact HB.out | apply below_alloc | apply pw_below_drewN | apply below_drew1 | refine below_set ?_ GE102.out) | exact HB.out))) : w.heap.size ≤ gb103)); have n5_ := Aside0.mk ((by rw [hg]; exact Nat.ne_of_lt (blk_lt (g := gb102) (o := .cells #[.int .i64 a0_0, .int .i64 a0_1, .int .i64 a0_2, .int .i64 a0_3, .int .i64 a0_4, .int .i64 a0_5, .int .i64 a0_6, .int .i64 a0_7, .int .i64 a0_8, .int .i64 a0_9, .int .i64 a0_10, .int .i64 a0_11, .int .i64 a0_12] 27 (0, 0)) (by (with_reducible repeat (first | refine blk_drewN ?_ _ | refine blk_drew ?_ | refine blk_alloc ?_ _)); exact BK102.out)) : gb102 ≠ gb103)); have n6_ := Aside0.mk ((by rw [hg]; exact Nat.ne_of_gt (blk_lt (g := gb102) (o := .cells #[.int .i64 a0_0, .int .i64 a0_1, .int .i64 a0_2, .int .i64 a0_3, .int .i64 a0_4, .int .i64 a0_5, .int .i64 a0_6, .int .i64 a0_7, .int .i64 a0_8, .int .i64 a0_9, .int .i64 a0_10, .int .i64 a0_11, .int .i64 a0_12] 27 (0, 0)) (by (with_reducible repeat (first | refine blk_drewN ?_ _ | refine blk_drew ?_ | refine blk_alloc ?_ _)); exact BK102.out)) : gb103 ≠ gb102)); clear BK102; clear HB; have BK102 := n0_; have HB := n1_; have BK103 := n2_; have GW103 := n3_; have GE103 := n4_; have NB102_103 := n5_; have NB103_102 := n6_; clear n0_ n1_ n2_ n3_ n4_ n5_ n6_; clear hb hbox hg; have hnb71 := NB103_102.out; have hnc71 := NB102_103.out; have hcz72_0 : w70.cell? ⟨gb103, 0, none⟩ = some (.int .i64 0) := (blk_cell BK103.out 0).trans rfl; have hcz72_1 : w70.cell? ⟨gb103, 1, none⟩ = some (.int .i64 0) := (blk_cell BK103.out 1).trans rfl; have hcz72_2 : w70.cell? ⟨gb103, 2, none⟩ = some (.int .i64 0) := (blk_cell BK103.out 2).trans rfl; have hcz72_3 : w70.cell? ⟨gb103, 3, none⟩ = some (.int .i64 0) := (blk_cell BK103.out 3).trans rfl; have hcz72_4 : w70.cell? ⟨gb103, 4, none⟩ = some (.int .i64 0) := (blk_cell BK103.out 4).trans rfl; have hcz72_5 : w70.cell? ⟨gb103, 5, none⟩ = some (.int .i64 0) := (blk_cell BK103.out 5).trans rfl; have hcz72_6 : w70.cell? ⟨gb103, 6, none⟩ = some (.int .i64 0) := (blk_cell BK103.out 6).trans rfl; have hcz72_7 : w70.cell? ⟨gb103, 7, none⟩ = some (.int .i64 0) := (blk_cell BK103.out 7).trans rfl; have hfz72_0 := blk_frozen BK103.out 0; have hfz72_1 := blk_frozen BK103.out 1; have hfz72_2 := blk_frozen BK103.out 2; have hfz72_3 := blk_frozen BK103.out 3; have hfz72_4 := blk_frozen BK103.out 4; have hfz72_5 := blk_frozen BK103.out 5; have hfz72_6 := blk_frozen BK103.out 6; have hfz72_7 := blk_frozen BK103.out 7; have hcz73_0 : w70.cell? ⟨gb102, 0, none⟩ = some (.int .i64 a0_0) := (blk_cell BK102.out 0).trans rfl; have hcz73_1 : w70.cell? ⟨gb102, 1, none⟩ = some (.int .i64 a0_1) := (blk_cell BK102.out 1).trans rfl; have hcz73_2 : w70.cell? ⟨gb102, 2, none⟩ = some (.int .i64 a0_2) := (blk_cell BK102.out 2).trans rfl; have hcz73_3 : w70.cell? ⟨gb102, 3, none⟩ = some (.int .i64 a0_3) := (blk_cell BK102.out 3).trans rfl; have hcz73_4 : w70.cell? ⟨gb102, 4, none⟩ = some (.int .i64 a0_4) := (blk_cell BK102.out 4).trans rfl; have hcz73_5 : w70.cell? ⟨gb102, 5, none⟩ = some (.int .i64 a0_5) := (blk_cell BK102.out 5).trans rfl; have hcz73_6 : w70.cell? ⟨gb102, 6, none⟩ = some (.int .i64 a0_6) := (blk_cell BK102.out 6).trans rfl; have hcz73_7 : w70.cell? ⟨gb102, 7, none⟩ = some (.int .i64 a0_7) := (blk_cell BK102.out 7).trans rfl; have hcz73_8 : w70.cell? ⟨gb102, 8, none⟩ = some (.int .i64 a0_8) := (blk_cell BK102.out 8).trans rfl; have hcz73_9 : w70.cell? ⟨gb102, 9, none⟩ = some (.int .i64 a0_9) := (blk_cell BK102.out 9).trans rfl; have hcz73_10 : w70.cell? ⟨gb102, 10, none⟩ = some (.int .i64 a0_10) := (blk_cell BK102.out 10).trans rfl; have hcz73_11 : w70.cell? ⟨gb102, 11, none⟩ = some (.int .i64 a0_11) := (blk_cell BK102.out 11).trans rfl; have hcz73_12 : w70.cell? ⟨gb102, 12, none⟩ = some (.int .i64 a0_12) := (blk_cell BK102.out 12).trans rfl; have hfz73_0 := blk_frozen BK102.out 0; have hfz73_1 := blk_frozen BK102.out 1; have hfz73_2 := blk_frozen BK102.out 2; have hfz73_3 := blk_frozen BK102.out 3; have hfz73_4 := blk_frozen BK102.out 4; have hfz73_5 := blk_frozen BK102.out 5; have hfz73_6 := blk_frozen BK102.out 6; have hfz73_7 := blk_frozen BK102.out 7; have hfz73_8 := blk_frozen BK102.out 8; have hfz73_9 := blk_frozen BK102.out 9; have hfz73_10 := blk_frozen BK102.out 10; have hfz73_11 := blk_frozen BK102.out 11; have hfz73_12 := blk_frozen BK102.out 12) | ((with_reducible refine gate_callee (f := 95) rfl ?_); refine goesL_ (some 8) rfl rfl Try.func95 (by kernel_rfl) rfl #[.int .i64 a0_0, .int .i64 1, .int .i64 1048576] rfl (by (try simp only [List.map_toArray, List.map_cons, List.map_nil]); first | done | rfl | (simp only [List.length_drop, List.length_take]; rfl)) ?_; (with_reducible refine (label_in.calls a0_0 1 1048576 false _ A2.out).mono ?_); rintro e w' ⟨rfl, ⟨nd, rfl⟩⟩; refine ⟨_, rfl, ?_⟩))
    go_ret
    exact ⟨by first | rfl | (simp [errW_none, errW_some] <;> rfl) | (simp [*, errW_none, errW_some] <;> rfl), by repeat (first | (with_reducible first | exact HB.out | apply below_alloc | apply pw_below_drewN | apply below_drew1 | refine below_set ?_ GE102.out | refine below_set ?_ GE103.out) | exact HB.out)⟩

-- NOT PRINTED: function 48 (label_small)

/-! ### label_write: function 49 -/
def label_write.l0 : Nat → List Int → Int → Int → Int → Option (List Int)
  | 0, _, _, _, _ => none
  | k + 1, x0, x1, x7, x8 => if x8 < x7 then (if x0.length < 140737488355328 then (label_write.l0 k (x0 ++ [(x1) % 256]) (x1 / 256) x7 (wrap64 (x8 + 1))) else (none)) else (some x0)
def label_write.f (k : Nat) (l0 : List Int) (a1 : Int) (a2 : Int) : Option (List Int) := label_write.l0 k l0 a1 a2 0
theorem label_write.mono_l : ∀ k, (∀ y0 y1 y2 y3, LeO (label_write.l0 k y0 y1 y2 y3) (label_write.l0 (k + 1) y0 y1 y2 y3))
  | 0 => fun _ _ _ _ r h => by simp [label_write.l0] at h
  | k + 1 => by
    have ih0 := label_write.mono_l k
    · intro y0 y1 y2 y3
      unfold label_write.l0
      repeat' first
      | (with_reducible exact ih0 _ _ _ _)
      | (with_reducible exact LeO.refl _)
      | (with_reducible exact LeO.none _)
      | (with_reducible refine LeO.ite ?_ ?_)
      | (with_reducible refine LeO.bind ?_ (fun _ => ?_))
      | exact ih0 _ _ _ _
      | exact LeO.none _
      | refine LeO.ite ?_ ?_
      | refine LeO.bind ?_ (fun _ => ?_)
theorem label_write.mono : ∀ a0 a1 a2 k, LeO (label_write.f k a0 a1 a2) (label_write.f (k + 1) a0 a1 a2) := by
  intro a0 a1 a2 k
  have ih0 := label_write.mono_l k
  unfold label_write.f
  repeat' first
      | (with_reducible exact ih0 _ _ _ _)
      | (with_reducible exact LeO.refl _)
      | (with_reducible exact LeO.none _)
      | (with_reducible refine LeO.ite ?_ ?_)
      | (with_reducible refine LeO.bind ?_ (fun _ => ?_))
      | exact ih0 _ _ _ _
      | exact LeO.none _
      | refine LeO.ite ?_ ?_
      | refine LeO.bind ?_ (fun _ => ?_)
set_option maxHeartbeats 8000000 in
set_option maxRecDepth 100000 in
theorem label_write.calls (k : Nat) (P0_ : Nat → Prop) (u9000_ : Value) (l0 : List Int) (a1 : Int) (a2 : Int) (r : List Int) (w0 w : World) (hB : Below w0.heap.size w0 w) (ho0 : Kd.R (Kd.int .u8) 5 w w0.heap.size P0_ u9000_ l0) (h : label_write.f k l0 a1 a2 = some r) :
    Calls Try.prog 49 #[u9000_, .int .i64 a1, .int .i64 a2] w fun e w' => ∃ v0_ : Value, e = .returned (v0_) ∧ Kd.R (Kd.int .u8) 5 w' w0.heap.size (fun k_ => (P0_ k_ ∨ w.heap.size ≤ k_)) v0_ r ∧ Below w0.heap.size w0 w' ∧ Kept w w' (fun k_ => P0_ k_) := by
  have HO0 := Aside0.mk (show Kd.R (Kd.int .u8) 5 w w0.heap.size (fun k_ => (P0_ k_ ∨ w.heap.size ≤ k_)) u9000_ l0 from Kd.R_mono ho0 (fun k_ hk => (.inl hk)))
  have HK := Aside0.mk (Kept.refl w (fun k_ => P0_ k_))
  have HW0 := Aside0.mk hB.size
  have HB := Aside0.mk hB
  clear hB
  have H : (label_write.l0 k l0 a1 a2 0) = some r := h
  clear h
  have H' := Aside0.mk H
  clear H
  go_enter Try.func49, Try.ntmps49
  go_wp2
  go_loopg [0, 1, 8] k (fun kq v0 v1 v8 w' => ∃ (x0_1 : List Int) (x1_1 : Int) (x8_1 : Int), v1 = .int .i64 x1_1 ∧ v8 = .int .i64 x8_1 ∧ Aside0 (label_write.l0 kq x0_1 x1_1 a2 x8_1 = some r) ∧ Aside0 (kq ≤ k) ∧ Aside0 (Kd.R (Kd.int .u8) 5 w' w0.heap.size (fun k_ => (P0_ k_ ∨ w.heap.size ≤ k_)) v0 x0_1) ∧ Aside0 (Kept w w' (fun k_ => P0_ k_)) ∧ Aside0 (Below w0.heap.size w0 w'))
  case atStart => exact ⟨(l0), (a1), (0), (by first | rfl | (simp; done) | (simp [*]; done)), (by first | rfl | (simp; done) | (simp [*]; done)), H', ⟨Nat.le_refl _⟩, ⟨by (with_reducible repeat (first | apply Kd.R_alloc | apply Kd.R_drewN | apply Kd.R_drew)); exact HO0.out⟩, ⟨by repeat (first | (with_reducible first | exact HK.out | apply Kept.alloc | apply Kept.drewN | apply Kept.drew) | exact HK.out)⟩, ⟨by repeat (first | (with_reducible first | exact HB.out | apply below_alloc | apply pw_below_drewN | apply below_drew1) | exact HB.out)⟩⟩
  case round =>
    clear H'
    try clear p2
    obtain ⟨x0_1, x1_1, x8_1, rfl, rfl, HA, HK1, HO_0, HK, HB⟩ := hrel
    cases gk with
    | zero => exact absurd HA.out (by simp [label_write.l0])
    | succ k1 =>
      have H := HA.out
      clear HA
      simp only [label_write.l0] at H
      by_cases c4 : x8_1 < a2
      · rw [if_pos c4] at H
        have c4b0 : decide (x8_1 < a2) = true := decide_eq_true c4
        clear c4
        by_cases c5 : x0_1.length < 140737488355328
        · rw [if_pos c5] at H
          have LMc5 := Aside0.mk c5
          clear c5
          obtain ⟨y113, hy113⟩ : ∃ y_ : List Int, y_ = (x0_1 ++ [(x1_1) % 256]) := ⟨_, rfl⟩
          replace H : (label_write.l0 k1 y113 (x1_1 / 256) a2 (wrap64 (x8_1 + 1))) = some r := by first | (rw [hy113]; with_reducible exact H) | (have H2_ := (Option.bind_some _ _).symm.trans H; rw [hy113]; with_reducible exact H2_) | (have H2_ := (Option.bind_some _ _).symm.trans H; with_reducible exact H2_) | with_reducible exact H | (rw [hy113]; exact H) | exact H
          have Ny113 := Aside0.mk hy113
          clear hy113
          have H' := Aside0.mk H
          clear H
          go_wp2_with (first | ((with_reducible refine gate_builtin (b := .append) (xs := #[.tmp 10, .tmp 13]) rfl ?_); at_builtin; refine Kd.R_append (Kd.int .u8) (w0 := w0) w0.heap.size rfl (.tmp 10) (.tmp 13) 28 5 (.int .u8 0) 1 rfl Try.underlying28 info5 rfl (by decide) (by omega) u0 x0_1 ((x1_1) % 256) [.int .u8 ((x1_1) % 256)] (fun k_ => (P0_ k_ ∨ w.heap.size ≤ k_)) (fun _ => False) rfl rfl ?aP (fun _ hk => hk.elim) ?aF ?aO ?aB ?aS ?aL ?_; (case aP => exact rfl); (case aB => exact (by repeat (first | (with_reducible first | exact HB.out | apply below_alloc | apply pw_below_drewN | apply below_drew1) | exact HB.out))); (case aF => exact (fun k_ hk => (.inr (Nat.le_trans (by first | exact HK.out.1 | exact (show Kept w _ (fun k_ => P0_ k_) from by repeat (first | (with_reducible first | exact HK.out | apply Kept.alloc | apply Kept.drewN | apply Kept.drew) | exact HK.out)).1) hk)))); (case aO => exact (by (with_reducible repeat (first | apply Kd.R_alloc | apply Kd.R_drewN | apply Kd.R_drew)); exact HO_0.out)); (case aS => exact (below_size (by repeat (first | (with_reducible first | exact HB.out | apply below_alloc | apply pw_below_drewN | apply below_drew1) | exact HB.out)))); (case aL => have := LMc5.out; omega); intro v114 w6 ho hb hg hat; rw [← Ny113.out] at ho; have n0_ := Aside0.mk (hb); have n1_ := Aside0.mk (Kept.of_grown (S := (fun k_ => P0_ k_)) hg (by repeat (first | (with_reducible first | exact HK.out | apply Kept.alloc | apply Kept.drewN | apply Kept.drew) | exact HK.out)) (fun k_ e_ => (HO_0.out.1 k_ e_))); have n2_ := Aside0.mk (ho); clear HB; clear HK; clear HO_0; have HB := n0_; have HK := n1_; have HO115 := n2_; clear n0_ n1_ n2_; clear ho hb hg hat))
          go_roundg k1
          case measure => have := HK1.out; omega
          case rel => exact ⟨(y113), (x1_1 / 256), (wrap64 (x8_1 + 1)), (by first | rfl | (simp; done) | (simp [*]; done)), (by first | rfl | (simp; done) | (simp [*]; done)), H', ⟨by have := HK1.out; omega⟩, ⟨by (with_reducible repeat (first | apply Kd.R_alloc | apply Kd.R_drewN | apply Kd.R_drew)); exact HO115.out⟩, ⟨by repeat (first | (with_reducible first | exact HK.out | apply Kept.alloc | apply Kept.drewN | apply Kept.drew) | exact HK.out)⟩, ⟨by repeat (first | (with_reducible first | exact HB.out | apply below_alloc | apply pw_below_drewN | apply below_drew1) | exact HB.out)⟩⟩
        · rw [if_neg c5] at H
          exact absurd H (by simp)
      · rw [if_neg c4] at H
        have c4b0 : decide (x8_1 < a2) = false := decide_eq_false c4
        clear c4
        obtain rfl := Option.some.inj H
        go_wp2
        go_ret
        exact ⟨_, by first | rfl | (simp [errW_none, errW_some] <;> rfl) | (simp [*, errW_none, errW_some] <;> rfl), by (with_reducible repeat (first | apply Kd.R_alloc | apply Kd.R_drewN | apply Kd.R_drew)); exact HO_0.out, by repeat (first | (with_reducible first | exact HB.out | apply below_alloc | apply pw_below_drewN | apply below_drew1) | exact HB.out), by repeat (first | (with_reducible first | exact HK.out | apply Kept.alloc | apply Kept.drewN | apply Kept.drew) | exact HK.out)⟩

-- NOT PRINTED: function 50 (label_sums)

-- NOT PRINTED: function 118 (flet_of)

-- NOT PRINTED: function 119 (flet_sums_word)

-- NOT PRINTED: function 120 (flet_sums_sum)

-- NOT PRINTED: function 96 (flet_More)

-- NOT PRINTED: function 51 (flet_Of)

/-! ### label_Encode: function 15 -/
open Go.Proofs.Ythnchojddoefiaa.Sep Go.Proofs.Ythnchojddoefiaa.Flet
def label_Encode.f (k : Nat) (a0_0 : Int) (a0_1 : Int) (a0_2 : Int) (a0_3 : Int) (a0_4 : Int) (a0_5 : Int) (a0_6 : Int) (a0_7 : Int) (a0_8 : Int) (a0_9 : Int) (a0_10 : Int) (a0_11 : Int) (a0_12 : Int) : Option (List Int × Int) := (label_May.f a0_0 a0_1 a0_2 a0_3 a0_4 a0_5 a0_6 a0_7 a0_8 a0_9 a0_10 a0_11 a0_12).bind fun t => if t = true then some (encL a0_0 a0_1 a0_2 a0_3 a0_4 a0_5 a0_6 a0_7 a0_8 a0_9 a0_10 a0_11 a0_12, 0) else some ([], 4)
theorem label_Encode.mono : ∀ a0_0 a0_1 a0_2 a0_3 a0_4 a0_5 a0_6 a0_7 a0_8 a0_9 a0_10 a0_11 a0_12 k, LeO (label_Encode.f k a0_0 a0_1 a0_2 a0_3 a0_4 a0_5 a0_6 a0_7 a0_8 a0_9 a0_10 a0_11 a0_12) (label_Encode.f (k + 1) a0_0 a0_1 a0_2 a0_3 a0_4 a0_5 a0_6 a0_7 a0_8 a0_9 a0_10 a0_11 a0_12) := fun a0_0 a0_1 a0_2 a0_3 a0_4 a0_5 a0_6 a0_7 a0_8 a0_9 a0_10 a0_11 a0_12 k => LeO.refl _
set_option maxHeartbeats 4000000 in
set_option maxRecDepth 100000 in
theorem label_Encode.fine (a0_0 : Int) (a0_1 : Int) (a0_2 : Int) (a0_3 : Int) (a0_4 : Int) (a0_5 : Int) (a0_6 : Int) (a0_7 : Int) (a0_8 : Int) (a0_9 : Int) (a0_10 : Int) (a0_11 : Int) (a0_12 : Int) (w : World) (hm : label_May.f a0_0 a0_1 a0_2 a0_3 a0_4 a0_5 a0_6 a0_7 a0_8 a0_9 a0_10 a0_11 a0_12 = some true) :
    Calls Try.prog 15 #[.agg #[.int .i64 a0_0, .int .i64 a0_1, .int .i64 a0_2, .int .i64 a0_3, .int .i64 a0_4, .int .i64 a0_5, .int .i64 a0_6, .int .i64 a0_7, .int .i64 a0_8, .int .i64 a0_9, .int .i64 a0_10, .int .i64 a0_11, .int .i64 a0_12]] w fun e w' => ∃ v0_ : Value, e = .returned (.tuple #[v0_, .int .i64 0]) ∧ Kd.R (Kd.int .u8) 5 w' w.heap.size (fun _ => True) v0_ (encL a0_0 a0_1 a0_2 a0_3 a0_4 a0_5 a0_6 a0_7 a0_8 a0_9 a0_10 a0_11 a0_12) ∧ Below w.heap.size w w' := by
  have hu9 := Try.underlying84
  have hu4 := Try.underlying88
  have HS := Aside0.mk (SL.start w)
  have HM := Aside0.mk hm
  have HBL := Aside0.mk True.intro
  clear hm
  have HMK : ∀ W : World, (Instr.makeSlice 28 (.int .i64 0) (.int .i64 128)).run Try.prog W = .ok (.slice (some ⟨W.heap.size, 0, none⟩) 0 128) (W.alloc (.cells (roomC [] 128).toArray 5)) := make_bytes 128 (by decide)
  go_enter Try.func15, Try.ntmps15
  go_upto_region 3 with (first | ((with_reducible refine gate_dst (N := 1) rfl ?_); refine box_event ?hg (N := 1) ?hd (cs := #[.int .i64 a0_0, .int .i64 a0_1, .int .i64 a0_2, .int .i64 a0_3, .int .i64 a0_4, .int .i64 a0_5, .int .i64 a0_6, .int .i64 a0_7, .int .i64 a0_8, .int .i64 a0_9, .int .i64 a0_10, .int .i64 a0_11, .int .i64 a0_12]) (t := 27) ?hr ?_; (case hd => exact rfl); (case hg => exact rfl); (case hr => first | (go_simp; done) | (go_simp; rfl)); intro gx hgb_ w1 hbox_ hb_; have n1_ := Aside0.mk (Sep.SL.newBlk (by repeat (first | (with_reducible first | exact HS.out | apply Sep.SL.drewN | apply Sep.SL.drew | apply Sep.SL.alloc) | exact HS.out)) hb_ hgb_ hbox_); clear HS hgb_ hbox_ hb_; have HS := n1_; clear n1_; have hz0 := blk_at HS.out 0 rfl 0 _ rfl; have hz1 := blk_at HS.out 0 rfl 1 _ rfl; have hz2 := blk_at HS.out 0 rfl 2 _ rfl; have hz3 := blk_at HS.out 0 rfl 3 _ rfl; have hz4 := blk_at HS.out 0 rfl 4 _ rfl; have hz5 := blk_at HS.out 0 rfl 5 _ rfl; have hz6 := blk_at HS.out 0 rfl 6 _ rfl; have hz7 := blk_at HS.out 0 rfl 7 _ rfl; have hz8 := blk_at HS.out 0 rfl 8 _ rfl; have hz9 := blk_at HS.out 0 rfl 9 _ rfl; have hz10 := blk_at HS.out 0 rfl 10 _ rfl; have hz11 := blk_at HS.out 0 rfl 11 _ rfl; have hz12 := blk_at HS.out 0 rfl 12 _ rfl) | (go_at_call 47; refine (label_May.calls a0_0 a0_1 a0_2 a0_3 a0_4 a0_5 a0_6 a0_7 a0_8 a0_9 a0_10 a0_11 a0_12 true _ HM.out).mono ?_; rintro e w2 ⟨rfl, hb_⟩; have n1_ := Aside0.mk (SL.ext (by repeat (first | (with_reducible first | exact HS.out | apply Sep.SL.drewN | apply Sep.SL.drew | apply Sep.SL.alloc) | exact HS.out)) hb_); clear HS hb_ hz0 hz1 hz2 hz3 hz4 hz5 hz6 hz7 hz8 hz9 hz10 hz11 hz12; have HS := n1_; clear n1_; have hz0 := blk_at HS.out 0 rfl 0 _ rfl; have hz1 := blk_at HS.out 0 rfl 1 _ rfl; have hz2 := blk_at HS.out 0 rfl 2 _ rfl; have hz3 := blk_at HS.out 0 rfl 3 _ rfl; have hz4 := blk_at HS.out 0 rfl 4 _ rfl; have hz5 := blk_at HS.out 0 rfl 5 _ rfl; have hz6 := blk_at HS.out 0 rfl 6 _ rfl; have hz7 := blk_at HS.out 0 rfl 7 _ rfl; have hz8 := blk_at HS.out 0 rfl 8 _ rfl; have hz9 := blk_at HS.out 0 rfl 9 _ rfl; have hz10 := blk_at HS.out 0 rfl 10 _ rfl; have hz11 := blk_at HS.out 0 rfl 11 _ rfl; have hz12 := blk_at HS.out 0 rfl 12 _ rfl))
  go_upto_region 4 with (fail)
  clear hz0 hz1 hz2 hz3 hz4 hz5 hz6 hz7 hz8 hz9 hz10 hz11 hz12 HMK
  have HS := Aside0.mk (HS.out.allocBlk (roomC [] 128).toArray 5)
  generalize w2.heap.size = g at HS ⊢
  generalize World.alloc _ _ = w3 at HS ⊢
  have HS : Aside0 (SL w w3 [roomA g [] 128 5, blkA gx #[.int .i64 a0_0, .int .i64 a0_1, .int .i64 a0_2, .int .i64 a0_3, .int .i64 a0_4, .int .i64 a0_5, .int .i64 a0_6, .int .i64 a0_7, .int .i64 a0_8, .int .i64 a0_9, .int .i64 a0_10, .int .i64 a0_11, .int .i64 a0_12] 27]) := HS
  go_upto_region 5 with (go_at_call 48; refine (small_calls gx _).mono ?_; rintro e w4 ⟨rfl, hb_⟩; have n1_ := Aside0.mk (SL.ext (by repeat (first | (with_reducible first | exact HS.out | apply Sep.SL.drewN | apply Sep.SL.drew | apply Sep.SL.alloc) | exact HS.out)) hb_); clear HS hb_; have HS := n1_; clear n1_)
  go_loopg [4, 6, 18] 9 (fun kq v4 v6 v18 wr => ∃ i : Nat, i + kq = 9 ∧ v4 = .slice (some ⟨g, 0, none⟩) (0 + 4 * i) 128 ∧ v18 = .int .i64 (i : Int) ∧ Aside0 (SL w wr [roomA g (lowL 4 ([]) ([a0_0, a0_1, a0_2, a0_3, a0_4, a0_5, a0_6, a0_7, a0_8].take i)) 128 5, blkA gx #[.int .i64 a0_0, .int .i64 a0_1, .int .i64 a0_2, .int .i64 a0_3, .int .i64 a0_4, .int .i64 a0_5, .int .i64 a0_6, .int .i64 a0_7, .int .i64 a0_8, .int .i64 a0_9, .int .i64 a0_10, .int .i64 a0_11, .int .i64 a0_12] 27]))
  case atStart => exact ⟨0, rfl, rfl, rfl, by repeat (first | exact HS | exact Aside0.mk (by repeat (first | (with_reducible first | exact HS.out | apply Sep.SL.drewN | apply Sep.SL.drew | apply Sep.SL.alloc) | exact HS.out)))⟩
  case round =>
    clear HS
    obtain ⟨i, hik, rfl, rfl, HS⟩ := hrel
    cases gk with
    | succ g1 =>
      have hi : i = 0 ∨ i = 1 ∨ i = 2 ∨ i = 3 ∨ i = 4 ∨ i = 5 ∨ i = 6 ∨ i = 7 ∨ i = 8 := by omega
      rcases hi with rfl | rfl | rfl | rfl | rfl | rfl | rfl | rfl | rfl
      · have hg1 : g1 = 8 := by omega
        subst hg1
        clear hik
        have hix : ∀ W : World, (Instr.index 84 (.agg #[.pointer (some ⟨gx, 0, none⟩), .pointer (some ⟨gx, 1, none⟩), .pointer (some ⟨gx, 2, none⟩), .pointer (some ⟨gx, 3, none⟩), .pointer (some ⟨gx, 4, none⟩), .pointer (some ⟨gx, 5, none⟩), .pointer (some ⟨gx, 6, none⟩), .pointer (some ⟨gx, 7, none⟩), .pointer (some ⟨gx, 8, none⟩)]) (.int .i64 0)).run Try.prog W = .ok (.pointer (some ⟨gx, 0, none⟩)) W := fun W => index_ptr9 _ 0 _ rfl (by decide) W
        have hz := blk_at HS.out 1 rfl 0 _ rfl
        go_wp2_with (go_at_call 49; (with_reducible refine (write_roomN (by repeat (first | (with_reducible first | exact HS.out | apply Sep.SL.drewN | apply Sep.SL.drew | apply Sep.SL.alloc) | exact HS.out)) 0 g 128 _ rfl (a0_0) 4 0 4 4 rfl ?hn_ rfl (by decide) (by decide)).mono ?_); (case hn_ => simp [lowL, lowB_length, HBL.out]); rintro e w5 ⟨rfl, h5⟩; have n1_ := Aside0.mk h5; clear HS h5 hz hix; have HS := n1_; clear n1_)
        go_roundg 8
        case measure => omega
        case rel => exact ⟨1, rfl, rfl, rfl, Aside0.mk (by repeat (first | (with_reducible first | exact HS.out | apply Sep.SL.drewN | apply Sep.SL.drew | apply Sep.SL.alloc) | exact HS.out))⟩
      · have hg1 : g1 = 7 := by omega
        subst hg1
        clear hik
        have hix : ∀ W : World, (Instr.index 84 (.agg #[.pointer (some ⟨gx, 0, none⟩), .pointer (some ⟨gx, 1, none⟩), .pointer (some ⟨gx, 2, none⟩), .pointer (some ⟨gx, 3, none⟩), .pointer (some ⟨gx, 4, none⟩), .pointer (some ⟨gx, 5, none⟩), .pointer (some ⟨gx, 6, none⟩), .pointer (some ⟨gx, 7, none⟩), .pointer (some ⟨gx, 8, none⟩)]) (.int .i64 1)).run Try.prog W = .ok (.pointer (some ⟨gx, 1, none⟩)) W := fun W => index_ptr9 _ 1 _ rfl (by decide) W
        have hz := blk_at HS.out 1 rfl 1 _ rfl
        go_wp2_with (go_at_call 49; (with_reducible refine (write_roomN (by repeat (first | (with_reducible first | exact HS.out | apply Sep.SL.drewN | apply Sep.SL.drew | apply Sep.SL.alloc) | exact HS.out)) 0 g 128 _ rfl (a0_1) 4 4 8 4 rfl ?hn_ rfl (by decide) (by decide)).mono ?_); (case hn_ => simp [lowL, lowB_length, HBL.out]); rintro e w5 ⟨rfl, h5⟩; have n1_ := Aside0.mk h5; clear HS h5 hz hix; have HS := n1_; clear n1_)
        go_roundg 7
        case measure => omega
        case rel => exact ⟨2, rfl, rfl, rfl, Aside0.mk (by repeat (first | (with_reducible first | exact HS.out | apply Sep.SL.drewN | apply Sep.SL.drew | apply Sep.SL.alloc) | exact HS.out))⟩
      · have hg1 : g1 = 6 := by omega
        subst hg1
        clear hik
        have hix : ∀ W : World, (Instr.index 84 (.agg #[.pointer (some ⟨gx, 0, none⟩), .pointer (some ⟨gx, 1, none⟩), .pointer (some ⟨gx, 2, none⟩), .pointer (some ⟨gx, 3, none⟩), .pointer (some ⟨gx, 4, none⟩), .pointer (some ⟨gx, 5, none⟩), .pointer (some ⟨gx, 6, none⟩), .pointer (some ⟨gx, 7, none⟩), .pointer (some ⟨gx, 8, none⟩)]) (.int .i64 2)).run Try.prog W = .ok (.pointer (some ⟨gx, 2, none⟩)) W := fun W => index_ptr9 _ 2 _ rfl (by decide) W
        have hz := blk_at HS.out 1 rfl 2 _ rfl
        go_wp2_with (go_at_call 49; (with_reducible refine (write_roomN (by repeat (first | (with_reducible first | exact HS.out | apply Sep.SL.drewN | apply Sep.SL.drew | apply Sep.SL.alloc) | exact HS.out)) 0 g 128 _ rfl (a0_2) 4 8 12 4 rfl ?hn_ rfl (by decide) (by decide)).mono ?_); (case hn_ => simp [lowL, lowB_length, HBL.out]); rintro e w5 ⟨rfl, h5⟩; have n1_ := Aside0.mk h5; clear HS h5 hz hix; have HS := n1_; clear n1_)
        go_roundg 6
        case measure => omega
        case rel => exact ⟨3, rfl, rfl, rfl, Aside0.mk (by repeat (first | (with_reducible first | exact HS.out | apply Sep.SL.drewN | apply Sep.SL.drew | apply Sep.SL.alloc) | exact HS.out))⟩
      · have hg1 : g1 = 5 := by omega
        subst hg1
        clear hik
        have hix : ∀ W : World, (Instr.index 84 (.agg #[.pointer (some ⟨gx, 0, none⟩), .pointer (some ⟨gx, 1, none⟩), .pointer (some ⟨gx, 2, none⟩), .pointer (some ⟨gx, 3, none⟩), .pointer (some ⟨gx, 4, none⟩), .pointer (some ⟨gx, 5, none⟩), .pointer (some ⟨gx, 6, none⟩), .pointer (some ⟨gx, 7, none⟩), .pointer (some ⟨gx, 8, none⟩)]) (.int .i64 3)).run Try.prog W = .ok (.pointer (some ⟨gx, 3, none⟩)) W := fun W => index_ptr9 _ 3 _ rfl (by decide) W
        have hz := blk_at HS.out 1 rfl 3 _ rfl
        go_wp2_with (go_at_call 49; (with_reducible refine (write_roomN (by repeat (first | (with_reducible first | exact HS.out | apply Sep.SL.drewN | apply Sep.SL.drew | apply Sep.SL.alloc) | exact HS.out)) 0 g 128 _ rfl (a0_3) 4 12 16 4 rfl ?hn_ rfl (by decide) (by decide)).mono ?_); (case hn_ => simp [lowL, lowB_length, HBL.out]); rintro e w5 ⟨rfl, h5⟩; have n1_ := Aside0.mk h5; clear HS h5 hz hix; have HS := n1_; clear n1_)
        go_roundg 5
        case measure => omega
        case rel => exact ⟨4, rfl, rfl, rfl, Aside0.mk (by repeat (first | (with_reducible first | exact HS.out | apply Sep.SL.drewN | apply Sep.SL.drew | apply Sep.SL.alloc) | exact HS.out))⟩
      · have hg1 : g1 = 4 := by omega
        subst hg1
        clear hik
        have hix : ∀ W : World, (Instr.index 84 (.agg #[.pointer (some ⟨gx, 0, none⟩), .pointer (some ⟨gx, 1, none⟩), .pointer (some ⟨gx, 2, none⟩), .pointer (some ⟨gx, 3, none⟩), .pointer (some ⟨gx, 4, none⟩), .pointer (some ⟨gx, 5, none⟩), .pointer (some ⟨gx, 6, none⟩), .pointer (some ⟨gx, 7, none⟩), .pointer (some ⟨gx, 8, none⟩)]) (.int .i64 4)).run Try.prog W = .ok (.pointer (some ⟨gx, 4, none⟩)) W := fun W => index_ptr9 _ 4 _ rfl (by decide) W
        have hz := blk_at HS.out 1 rfl 4 _ rfl
        go_wp2_with (go_at_call 49; (with_reducible refine (write_roomN (by repeat (first | (with_reducible first | exact HS.out | apply Sep.SL.drewN | apply Sep.SL.drew | apply Sep.SL.alloc) | exact HS.out)) 0 g 128 _ rfl (a0_4) 4 16 20 4 rfl ?hn_ rfl (by decide) (by decide)).mono ?_); (case hn_ => simp [lowL, lowB_length, HBL.out]); rintro e w5 ⟨rfl, h5⟩; have n1_ := Aside0.mk h5; clear HS h5 hz hix; have HS := n1_; clear n1_)
        go_roundg 4
        case measure => omega
        case rel => exact ⟨5, rfl, rfl, rfl, Aside0.mk (by repeat (first | (with_reducible first | exact HS.out | apply Sep.SL.drewN | apply Sep.SL.drew | apply Sep.SL.alloc) | exact HS.out))⟩
      · have hg1 : g1 = 3 := by omega
        subst hg1
        clear hik
        have hix : ∀ W : World, (Instr.index 84 (.agg #[.pointer (some ⟨gx, 0, none⟩), .pointer (some ⟨gx, 1, none⟩), .pointer (some ⟨gx, 2, none⟩), .pointer (some ⟨gx, 3, none⟩), .pointer (some ⟨gx, 4, none⟩), .pointer (some ⟨gx, 5, none⟩), .pointer (some ⟨gx, 6, none⟩), .pointer (some ⟨gx, 7, none⟩), .pointer (some ⟨gx, 8, none⟩)]) (.int .i64 5)).run Try.prog W = .ok (.pointer (some ⟨gx, 5, none⟩)) W := fun W => index_ptr9 _ 5 _ rfl (by decide) W
        have hz := blk_at HS.out 1 rfl 5 _ rfl
        go_wp2_with (go_at_call 49; (with_reducible refine (write_roomN (by repeat (first | (with_reducible first | exact HS.out | apply Sep.SL.drewN | apply Sep.SL.drew | apply Sep.SL.alloc) | exact HS.out)) 0 g 128 _ rfl (a0_5) 4 20 24 4 rfl ?hn_ rfl (by decide) (by decide)).mono ?_); (case hn_ => simp [lowL, lowB_length, HBL.out]); rintro e w5 ⟨rfl, h5⟩; have n1_ := Aside0.mk h5; clear HS h5 hz hix; have HS := n1_; clear n1_)
        go_roundg 3
        case measure => omega
        case rel => exact ⟨6, rfl, rfl, rfl, Aside0.mk (by repeat (first | (with_reducible first | exact HS.out | apply Sep.SL.drewN | apply Sep.SL.drew | apply Sep.SL.alloc) | exact HS.out))⟩
      · have hg1 : g1 = 2 := by omega
        subst hg1
        clear hik
        have hix : ∀ W : World, (Instr.index 84 (.agg #[.pointer (some ⟨gx, 0, none⟩), .pointer (some ⟨gx, 1, none⟩), .pointer (some ⟨gx, 2, none⟩), .pointer (some ⟨gx, 3, none⟩), .pointer (some ⟨gx, 4, none⟩), .pointer (some ⟨gx, 5, none⟩), .pointer (some ⟨gx, 6, none⟩), .pointer (some ⟨gx, 7, none⟩), .pointer (some ⟨gx, 8, none⟩)]) (.int .i64 6)).run Try.prog W = .ok (.pointer (some ⟨gx, 6, none⟩)) W := fun W => index_ptr9 _ 6 _ rfl (by decide) W
        have hz := blk_at HS.out 1 rfl 6 _ rfl
        go_wp2_with (go_at_call 49; (with_reducible refine (write_roomN (by repeat (first | (with_reducible first | exact HS.out | apply Sep.SL.drewN | apply Sep.SL.drew | apply Sep.SL.alloc) | exact HS.out)) 0 g 128 _ rfl (a0_6) 4 24 28 4 rfl ?hn_ rfl (by decide) (by decide)).mono ?_); (case hn_ => simp [lowL, lowB_length, HBL.out]); rintro e w5 ⟨rfl, h5⟩; have n1_ := Aside0.mk h5; clear HS h5 hz hix; have HS := n1_; clear n1_)
        go_roundg 2
        case measure => omega
        case rel => exact ⟨7, rfl, rfl, rfl, Aside0.mk (by repeat (first | (with_reducible first | exact HS.out | apply Sep.SL.drewN | apply Sep.SL.drew | apply Sep.SL.alloc) | exact HS.out))⟩
      · have hg1 : g1 = 1 := by omega
        subst hg1
        clear hik
        have hix : ∀ W : World, (Instr.index 84 (.agg #[.pointer (some ⟨gx, 0, none⟩), .pointer (some ⟨gx, 1, none⟩), .pointer (some ⟨gx, 2, none⟩), .pointer (some ⟨gx, 3, none⟩), .pointer (some ⟨gx, 4, none⟩), .pointer (some ⟨gx, 5, none⟩), .pointer (some ⟨gx, 6, none⟩), .pointer (some ⟨gx, 7, none⟩), .pointer (some ⟨gx, 8, none⟩)]) (.int .i64 7)).run Try.prog W = .ok (.pointer (some ⟨gx, 7, none⟩)) W := fun W => index_ptr9 _ 7 _ rfl (by decide) W
        have hz := blk_at HS.out 1 rfl 7 _ rfl
        go_wp2_with (go_at_call 49; (with_reducible refine (write_roomN (by repeat (first | (with_reducible first | exact HS.out | apply Sep.SL.drewN | apply Sep.SL.drew | apply Sep.SL.alloc) | exact HS.out)) 0 g 128 _ rfl (a0_7) 4 28 32 4 rfl ?hn_ rfl (by decide) (by decide)).mono ?_); (case hn_ => simp [lowL, lowB_length, HBL.out]); rintro e w5 ⟨rfl, h5⟩; have n1_ := Aside0.mk h5; clear HS h5 hz hix; have HS := n1_; clear n1_)
        go_roundg 1
        case measure => omega
        case rel => exact ⟨8, rfl, rfl, rfl, Aside0.mk (by repeat (first | (with_reducible first | exact HS.out | apply Sep.SL.drewN | apply Sep.SL.drew | apply Sep.SL.alloc) | exact HS.out))⟩
      · have hg1 : g1 = 0 := by omega
        subst hg1
        clear hik
        have hix : ∀ W : World, (Instr.index 84 (.agg #[.pointer (some ⟨gx, 0, none⟩), .pointer (some ⟨gx, 1, none⟩), .pointer (some ⟨gx, 2, none⟩), .pointer (some ⟨gx, 3, none⟩), .pointer (some ⟨gx, 4, none⟩), .pointer (some ⟨gx, 5, none⟩), .pointer (some ⟨gx, 6, none⟩), .pointer (some ⟨gx, 7, none⟩), .pointer (some ⟨gx, 8, none⟩)]) (.int .i64 8)).run Try.prog W = .ok (.pointer (some ⟨gx, 8, none⟩)) W := fun W => index_ptr9 _ 8 _ rfl (by decide) W
        have hz := blk_at HS.out 1 rfl 8 _ rfl
        go_wp2_with (go_at_call 49; (with_reducible refine (write_roomN (by repeat (first | (with_reducible first | exact HS.out | apply Sep.SL.drewN | apply Sep.SL.drew | apply Sep.SL.alloc) | exact HS.out)) 0 g 128 _ rfl (a0_8) 4 32 36 4 rfl ?hn_ rfl (by decide) (by decide)).mono ?_); (case hn_ => simp [lowL, lowB_length, HBL.out]); rintro e w5 ⟨rfl, h5⟩; have n1_ := Aside0.mk h5; clear HS h5 hz hix; have HS := n1_; clear n1_)
        go_roundg 0
        case measure => omega
        case rel => exact ⟨9, rfl, rfl, rfl, Aside0.mk (by repeat (first | (with_reducible first | exact HS.out | apply Sep.SL.drewN | apply Sep.SL.drew | apply Sep.SL.alloc) | exact HS.out))⟩
    | zero =>
      have hi : i = 9 := by omega
      subst hi
      have HS : Aside0 (SL w wr [roomA g (lowL 4 ([]) ([a0_0, a0_1, a0_2, a0_3, a0_4, a0_5, a0_6, a0_7, a0_8])) 128 5, blkA gx #[.int .i64 a0_0, .int .i64 a0_1, .int .i64 a0_2, .int .i64 a0_3, .int .i64 a0_4, .int .i64 a0_5, .int .i64 a0_6, .int .i64 a0_7, .int .i64 a0_8, .int .i64 a0_9, .int .i64 a0_10, .int .i64 a0_11, .int .i64 a0_12] 27]) := HS
      go_upto_region 10 with (go_at_call 50; refine (sums_calls gx 9 _).mono ?_; rintro e w4 ⟨rfl, hb_⟩; have n1_ := Aside0.mk (SL.ext (by repeat (first | (with_reducible first | exact HS.out | apply Sep.SL.drewN | apply Sep.SL.drew | apply Sep.SL.alloc) | exact HS.out)) hb_); clear HS hb_; have HS := n1_; clear n1_)
      go_loopg [4, 8, 30] 4 (fun kq v4 v8 v30 wr => ∃ i : Nat, i + kq = 4 ∧ v4 = .slice (some ⟨g, 0, none⟩) (36 + 8 * i) 128 ∧ v30 = .int .i64 (i : Int) ∧ Aside0 (SL w wr [roomA g (lowL 8 (lowL 4 [] [a0_0, a0_1, a0_2, a0_3, a0_4, a0_5, a0_6, a0_7, a0_8]) ([a0_9, a0_10, a0_11, a0_12].take i)) 128 5, blkA gx #[.int .i64 a0_0, .int .i64 a0_1, .int .i64 a0_2, .int .i64 a0_3, .int .i64 a0_4, .int .i64 a0_5, .int .i64 a0_6, .int .i64 a0_7, .int .i64 a0_8, .int .i64 a0_9, .int .i64 a0_10, .int .i64 a0_11, .int .i64 a0_12] 27]))
      case atStart => exact ⟨0, rfl, rfl, rfl, by repeat (first | exact HS | exact Aside0.mk (by repeat (first | (with_reducible first | exact HS.out | apply Sep.SL.drewN | apply Sep.SL.drew | apply Sep.SL.alloc) | exact HS.out)))⟩
      case round =>
        clear HS
        obtain ⟨i, hik, rfl, rfl, HS⟩ := hrel
        cases gk with
        | succ g1 =>
          have hi : i = 0 ∨ i = 1 ∨ i = 2 ∨ i = 3 := by omega
          rcases hi with rfl | rfl | rfl | rfl
          · have hg1 : g1 = 3 := by omega
            subst hg1
            clear hik
            have hix : ∀ W : World, (Instr.index 88 (.agg #[.pointer (some ⟨gx, 9, none⟩), .pointer (some ⟨gx, 10, none⟩), .pointer (some ⟨gx, 11, none⟩), .pointer (some ⟨gx, 12, none⟩)]) (.int .i64 0)).run Try.prog W = .ok (.pointer (some ⟨gx, 9, none⟩)) W := fun W => index_ptr4 _ 0 _ rfl (by decide) W
            have hz := blk_at HS.out 1 rfl 9 _ rfl
            go_wp2_with (go_at_call 49; (with_reducible refine (write_roomN (by repeat (first | (with_reducible first | exact HS.out | apply Sep.SL.drewN | apply Sep.SL.drew | apply Sep.SL.alloc) | exact HS.out)) 0 g 128 _ rfl (a0_9) 8 36 44 8 rfl ?hn_ rfl (by decide) (by decide)).mono ?_); (case hn_ => simp [lowL, lowB_length, HBL.out]); rintro e w5 ⟨rfl, h5⟩; have n1_ := Aside0.mk h5; clear HS h5 hz hix; have HS := n1_; clear n1_)
            go_roundg 3
            case measure => omega
            case rel => exact ⟨1, rfl, rfl, rfl, Aside0.mk (by repeat (first | (with_reducible first | exact HS.out | apply Sep.SL.drewN | apply Sep.SL.drew | apply Sep.SL.alloc) | exact HS.out))⟩
          · have hg1 : g1 = 2 := by omega
            subst hg1
            clear hik
            have hix : ∀ W : World, (Instr.index 88 (.agg #[.pointer (some ⟨gx, 9, none⟩), .pointer (some ⟨gx, 10, none⟩), .pointer (some ⟨gx, 11, none⟩), .pointer (some ⟨gx, 12, none⟩)]) (.int .i64 1)).run Try.prog W = .ok (.pointer (some ⟨gx, 10, none⟩)) W := fun W => index_ptr4 _ 1 _ rfl (by decide) W
            have hz := blk_at HS.out 1 rfl 10 _ rfl
            go_wp2_with (go_at_call 49; (with_reducible refine (write_roomN (by repeat (first | (with_reducible first | exact HS.out | apply Sep.SL.drewN | apply Sep.SL.drew | apply Sep.SL.alloc) | exact HS.out)) 0 g 128 _ rfl (a0_10) 8 44 52 8 rfl ?hn_ rfl (by decide) (by decide)).mono ?_); (case hn_ => simp [lowL, lowB_length, HBL.out]); rintro e w5 ⟨rfl, h5⟩; have n1_ := Aside0.mk h5; clear HS h5 hz hix; have HS := n1_; clear n1_)
            go_roundg 2
            case measure => omega
            case rel => exact ⟨2, rfl, rfl, rfl, Aside0.mk (by repeat (first | (with_reducible first | exact HS.out | apply Sep.SL.drewN | apply Sep.SL.drew | apply Sep.SL.alloc) | exact HS.out))⟩
          · have hg1 : g1 = 1 := by omega
            subst hg1
            clear hik
            have hix : ∀ W : World, (Instr.index 88 (.agg #[.pointer (some ⟨gx, 9, none⟩), .pointer (some ⟨gx, 10, none⟩), .pointer (some ⟨gx, 11, none⟩), .pointer (some ⟨gx, 12, none⟩)]) (.int .i64 2)).run Try.prog W = .ok (.pointer (some ⟨gx, 11, none⟩)) W := fun W => index_ptr4 _ 2 _ rfl (by decide) W
            have hz := blk_at HS.out 1 rfl 11 _ rfl
            go_wp2_with (go_at_call 49; (with_reducible refine (write_roomN (by repeat (first | (with_reducible first | exact HS.out | apply Sep.SL.drewN | apply Sep.SL.drew | apply Sep.SL.alloc) | exact HS.out)) 0 g 128 _ rfl (a0_11) 8 52 60 8 rfl ?hn_ rfl (by decide) (by decide)).mono ?_); (case hn_ => simp [lowL, lowB_length, HBL.out]); rintro e w5 ⟨rfl, h5⟩; have n1_ := Aside0.mk h5; clear HS h5 hz hix; have HS := n1_; clear n1_)
            go_roundg 1
            case measure => omega
            case rel => exact ⟨3, rfl, rfl, rfl, Aside0.mk (by repeat (first | (with_reducible first | exact HS.out | apply Sep.SL.drewN | apply Sep.SL.drew | apply Sep.SL.alloc) | exact HS.out))⟩
          · have hg1 : g1 = 0 := by omega
            subst hg1
            clear hik
            have hix : ∀ W : World, (Instr.index 88 (.agg #[.pointer (some ⟨gx, 9, none⟩), .pointer (some ⟨gx, 10, none⟩), .pointer (some ⟨gx, 11, none⟩), .pointer (some ⟨gx, 12, none⟩)]) (.int .i64 3)).run Try.prog W = .ok (.pointer (some ⟨gx, 12, none⟩)) W := fun W => index_ptr4 _ 3 _ rfl (by decide) W
            have hz := blk_at HS.out 1 rfl 12 _ rfl
            go_wp2_with (go_at_call 49; (with_reducible refine (write_roomN (by repeat (first | (with_reducible first | exact HS.out | apply Sep.SL.drewN | apply Sep.SL.drew | apply Sep.SL.alloc) | exact HS.out)) 0 g 128 _ rfl (a0_12) 8 60 68 8 rfl ?hn_ rfl (by decide) (by decide)).mono ?_); (case hn_ => simp [lowL, lowB_length, HBL.out]); rintro e w5 ⟨rfl, h5⟩; have n1_ := Aside0.mk h5; clear HS h5 hz hix; have HS := n1_; clear n1_)
            go_roundg 0
            case measure => omega
            case rel => exact ⟨4, rfl, rfl, rfl, Aside0.mk (by repeat (first | (with_reducible first | exact HS.out | apply Sep.SL.drewN | apply Sep.SL.drew | apply Sep.SL.alloc) | exact HS.out))⟩
        | zero =>
          have hi : i = 4 := by omega
          subst hi
          have HS : Aside0 (SL w wr [roomA g (lowL 8 (lowL 4 [] [a0_0, a0_1, a0_2, a0_3, a0_4, a0_5, a0_6, a0_7, a0_8]) ([a0_9, a0_10, a0_11, a0_12])) 128 5, blkA gx #[.int .i64 a0_0, .int .i64 a0_1, .int .i64 a0_2, .int .i64 a0_3, .int .i64 a0_4, .int .i64 a0_5, .int .i64 a0_6, .int .i64 a0_7, .int .i64 a0_8, .int .i64 a0_9, .int .i64 a0_10, .int .i64 a0_11, .int .i64 a0_12] 27]) := HS
          have HS2 := HS.out
          unfold roomA at HS2
          rw [← encB_room] at HS2
          have HS : Aside0 (SL w wr [roomA g (encB a0_0 a0_1 a0_2 a0_3 a0_4 a0_5 a0_6 a0_7 a0_8 a0_9 a0_10 a0_11 a0_12) 128 5, blkA gx #[.int .i64 a0_0, .int .i64 a0_1, .int .i64 a0_2, .int .i64 a0_3, .int .i64 a0_4, .int .i64 a0_5, .int .i64 a0_6, .int .i64 a0_7, .int .i64 a0_8, .int .i64 a0_9, .int .i64 a0_10, .int .i64 a0_11, .int .i64 a0_12] 27]) := ⟨HS2⟩
          clear HS2
          obtain ⟨b, hb_⟩ : ∃ b, b = encB a0_0 a0_1 a0_2 a0_3 a0_4 a0_5 a0_6 a0_7 a0_8 a0_9 a0_10 a0_11 a0_12 := ⟨_, rfl⟩
          have HBY := Aside0.mk (encB_bytes a0_0 a0_1 a0_2 a0_3 a0_4 a0_5 a0_6 a0_7 a0_8 a0_9 a0_10 a0_11 a0_12)
          have HBL := Aside0.mk (encB_length a0_0 a0_1 a0_2 a0_3 a0_4 a0_5 a0_6 a0_7 a0_8 a0_9 a0_10 a0_11 a0_12)
          have HEQ := Aside0.mk hb_
          rw [← hb_] at HBY HBL HS
          clear hb_
          obtain ⟨r1, hr1⟩ : ∃ r, r = (sumL 0 0 0 0 b).1 := ⟨_, rfl⟩
          obtain ⟨r2, hr2⟩ : ∃ r, r = (sumL 0 0 0 0 b).2.1 := ⟨_, rfl⟩
          obtain ⟨r3, hr3⟩ : ∃ r, r = (sumL 0 0 0 0 b).2.2.1 := ⟨_, rfl⟩
          obtain ⟨r4, hr4⟩ : ∃ r, r = (sumL 0 0 0 0 b).2.2.2 := ⟨_, rfl⟩
          have HOF : Aside0 (∀ (w' : World), Kd.C (Kd.int .u8) w' (some ⟨g, 0, none⟩) b.length b → Calls Try.prog 51 #[.slice (some ⟨g, 0, none⟩) 96 128] w' fun e w'' => e = .returned (.tuple #[four r1 r2 r3 r4, .int .i64 0]) ∧ Below w'.heap.size w' w'') := ⟨fun w' hC => by
            have h1 := of_words b (some ⟨g, 0, none⟩) 128 w' hC (by rw [HBL.out]; decide) r1 r2 r3 r4 0 (fun A cap w hC hc => by rw [hr1, hr2, hr3, hr4]; exact more_calls 24 0 0 0 0 A cap b w hC hc (by rw [HBL.out]) HBY.out)
            rw [HBL.out] at h1
            exact h1⟩
          have HR := Aside0.mk (And.intro hr1 (And.intro hr2 (And.intro hr3 hr4)))
          clear hr1 hr2 hr3 hr4
          go_upto_region 16 with (go_at_call 51; refine (HOF.out _ (room_C (by repeat (first | (with_reducible first | exact HS.out | apply Sep.SL.drewN | apply Sep.SL.drew | apply Sep.SL.alloc) | exact HS.out)) 0 rfl (by rw [HBL.out]; decide) (by decide))).mono ?_; rintro e w6 ⟨rfl, hb_⟩; have n1_ := Aside0.mk (SL.ext (by repeat (first | (with_reducible first | exact HS.out | apply Sep.SL.drewN | apply Sep.SL.drew | apply Sep.SL.alloc) | exact HS.out)) hb_); clear HS hb_; have HS := n1_; clear n1_)
          have HS := Aside0.mk (HS.out.allocBlk #[.int .i64 r1, .int .i64 r2, .int .i64 r3, .int .i64 r4] 23)
          generalize w6.heap.size = gs at HS ⊢
          generalize World.alloc _ _ = w7 at HS ⊢
          go_upto_region 17 with (go_at_call 50; refine (sums_calls gs 0 _).mono ?_; rintro e w4 ⟨rfl, hb_⟩; have n1_ := Aside0.mk (SL.ext (by repeat (first | (with_reducible first | exact HS.out | apply Sep.SL.drewN | apply Sep.SL.drew | apply Sep.SL.alloc) | exact HS.out)) hb_); clear HS hb_; have HS := n1_; clear n1_)
          go_loopg [4, 12, 47] 4 (fun kq v4 v12 v47 wr => ∃ i : Nat, i + kq = 4 ∧ v4 = .slice (some ⟨g, 0, none⟩) (96 + 8 * i) 128 ∧ v47 = .int .i64 (i : Int) ∧ Aside0 (SL w wr [blkA gs #[.int .i64 r1, .int .i64 r2, .int .i64 r3, .int .i64 r4] 23, roomA g (lowL 8 (b) ([r1, r2, r3, r4].take i)) 128 5, blkA gx #[.int .i64 a0_0, .int .i64 a0_1, .int .i64 a0_2, .int .i64 a0_3, .int .i64 a0_4, .int .i64 a0_5, .int .i64 a0_6, .int .i64 a0_7, .int .i64 a0_8, .int .i64 a0_9, .int .i64 a0_10, .int .i64 a0_11, .int .i64 a0_12] 27]))
          case atStart => exact ⟨0, rfl, rfl, rfl, by repeat (first | exact HS | exact Aside0.mk (by repeat (first | (with_reducible first | exact HS.out | apply Sep.SL.drewN | apply Sep.SL.drew | apply Sep.SL.alloc) | exact HS.out)))⟩
          case round =>
            clear HS
            obtain ⟨i, hik, rfl, rfl, HS⟩ := hrel
            cases gk with
            | succ g1 =>
              have hi : i = 0 ∨ i = 1 ∨ i = 2 ∨ i = 3 := by omega
              rcases hi with rfl | rfl | rfl | rfl
              · have hg1 : g1 = 3 := by omega
                subst hg1
                clear hik
                have hix : ∀ W : World, (Instr.index 88 (.agg #[.pointer (some ⟨gs, 0, none⟩), .pointer (some ⟨gs, 1, none⟩), .pointer (some ⟨gs, 2, none⟩), .pointer (some ⟨gs, 3, none⟩)]) (.int .i64 0)).run Try.prog W = .ok (.pointer (some ⟨gs, 0, none⟩)) W := fun W => index_ptr4 _ 0 _ rfl (by decide) W
                have hz := blk_at HS.out 0 rfl 0 _ rfl
                go_wp2_with (go_at_call 49; (with_reducible refine (write_roomN (by repeat (first | (with_reducible first | exact HS.out | apply Sep.SL.drewN | apply Sep.SL.drew | apply Sep.SL.alloc) | exact HS.out)) 1 g 128 _ rfl (r1) 8 96 104 8 rfl ?hn_ rfl (by decide) (by decide)).mono ?_); (case hn_ => simp [lowL, lowB_length, HBL.out]); rintro e w5 ⟨rfl, h5⟩; have n1_ := Aside0.mk h5; clear HS h5 hz hix; have HS := n1_; clear n1_)
                go_roundg 3
                case measure => omega
                case rel => exact ⟨1, rfl, rfl, rfl, Aside0.mk (by repeat (first | (with_reducible first | exact HS.out | apply Sep.SL.drewN | apply Sep.SL.drew | apply Sep.SL.alloc) | exact HS.out))⟩
              · have hg1 : g1 = 2 := by omega
                subst hg1
                clear hik
                have hix : ∀ W : World, (Instr.index 88 (.agg #[.pointer (some ⟨gs, 0, none⟩), .pointer (some ⟨gs, 1, none⟩), .pointer (some ⟨gs, 2, none⟩), .pointer (some ⟨gs, 3, none⟩)]) (.int .i64 1)).run Try.prog W = .ok (.pointer (some ⟨gs, 1, none⟩)) W := fun W => index_ptr4 _ 1 _ rfl (by decide) W
                have hz := blk_at HS.out 0 rfl 1 _ rfl
                go_wp2_with (go_at_call 49; (with_reducible refine (write_roomN (by repeat (first | (with_reducible first | exact HS.out | apply Sep.SL.drewN | apply Sep.SL.drew | apply Sep.SL.alloc) | exact HS.out)) 1 g 128 _ rfl (r2) 8 104 112 8 rfl ?hn_ rfl (by decide) (by decide)).mono ?_); (case hn_ => simp [lowL, lowB_length, HBL.out]); rintro e w5 ⟨rfl, h5⟩; have n1_ := Aside0.mk h5; clear HS h5 hz hix; have HS := n1_; clear n1_)
                go_roundg 2
                case measure => omega
                case rel => exact ⟨2, rfl, rfl, rfl, Aside0.mk (by repeat (first | (with_reducible first | exact HS.out | apply Sep.SL.drewN | apply Sep.SL.drew | apply Sep.SL.alloc) | exact HS.out))⟩
              · have hg1 : g1 = 1 := by omega
                subst hg1
                clear hik
                have hix : ∀ W : World, (Instr.index 88 (.agg #[.pointer (some ⟨gs, 0, none⟩), .pointer (some ⟨gs, 1, none⟩), .pointer (some ⟨gs, 2, none⟩), .pointer (some ⟨gs, 3, none⟩)]) (.int .i64 2)).run Try.prog W = .ok (.pointer (some ⟨gs, 2, none⟩)) W := fun W => index_ptr4 _ 2 _ rfl (by decide) W
                have hz := blk_at HS.out 0 rfl 2 _ rfl
                go_wp2_with (go_at_call 49; (with_reducible refine (write_roomN (by repeat (first | (with_reducible first | exact HS.out | apply Sep.SL.drewN | apply Sep.SL.drew | apply Sep.SL.alloc) | exact HS.out)) 1 g 128 _ rfl (r3) 8 112 120 8 rfl ?hn_ rfl (by decide) (by decide)).mono ?_); (case hn_ => simp [lowL, lowB_length, HBL.out]); rintro e w5 ⟨rfl, h5⟩; have n1_ := Aside0.mk h5; clear HS h5 hz hix; have HS := n1_; clear n1_)
                go_roundg 1
                case measure => omega
                case rel => exact ⟨3, rfl, rfl, rfl, Aside0.mk (by repeat (first | (with_reducible first | exact HS.out | apply Sep.SL.drewN | apply Sep.SL.drew | apply Sep.SL.alloc) | exact HS.out))⟩
              · have hg1 : g1 = 0 := by omega
                subst hg1
                clear hik
                have hix : ∀ W : World, (Instr.index 88 (.agg #[.pointer (some ⟨gs, 0, none⟩), .pointer (some ⟨gs, 1, none⟩), .pointer (some ⟨gs, 2, none⟩), .pointer (some ⟨gs, 3, none⟩)]) (.int .i64 3)).run Try.prog W = .ok (.pointer (some ⟨gs, 3, none⟩)) W := fun W => index_ptr4 _ 3 _ rfl (by decide) W
                have hz := blk_at HS.out 0 rfl 3 _ rfl
                go_wp2_with (go_at_call 49; (with_reducible refine (write_roomN (by repeat (first | (with_reducible first | exact HS.out | apply Sep.SL.drewN | apply Sep.SL.drew | apply Sep.SL.alloc) | exact HS.out)) 1 g 128 _ rfl (r4) 8 120 128 8 rfl ?hn_ rfl (by decide) (by decide)).mono ?_); (case hn_ => simp [lowL, lowB_length, HBL.out]); rintro e w5 ⟨rfl, h5⟩; have n1_ := Aside0.mk h5; clear HS h5 hz hix; have HS := n1_; clear n1_)
                go_roundg 0
                case measure => omega
                case rel => exact ⟨4, rfl, rfl, rfl, Aside0.mk (by repeat (first | (with_reducible first | exact HS.out | apply Sep.SL.drewN | apply Sep.SL.drew | apply Sep.SL.alloc) | exact HS.out))⟩
            | zero =>
              have hi : i = 4 := by omega
              subst hi
              have HS : Aside0 (SL w wr [blkA gs #[.int .i64 r1, .int .i64 r2, .int .i64 r3, .int .i64 r4] 23, roomA g (lowL 8 (b) ([r1, r2, r3, r4])) 128 5, blkA gx #[.int .i64 a0_0, .int .i64 a0_1, .int .i64 a0_2, .int .i64 a0_3, .int .i64 a0_4, .int .i64 a0_5, .int .i64 a0_6, .int .i64 a0_7, .int .i64 a0_8, .int .i64 a0_9, .int .i64 a0_10, .int .i64 a0_11, .int .i64 a0_12] 27]) := HS
              go_wp2_with (fail)
              go_ret2
              have hR := room_R (by repeat (first | (with_reducible first | exact HS.out | apply Sep.SL.drewN | apply Sep.SL.drew | apply Sep.SL.alloc) | exact HS.out)) 1 rfl (by simp [lowL, lowB_length, HBL.out]) (by decide)
              rw [show (lowL 8 b [r1, r2, r3, r4]).length = 128 from by simp [lowL, lowB_length, HBL.out]] at hR
              have he : encL a0_0 a0_1 a0_2 a0_3 a0_4 a0_5 a0_6 a0_7 a0_8 a0_9 a0_10 a0_11 a0_12 = lowL 8 b [r1, r2, r3, r4] := by
                obtain ⟨e1, e2, e3, e4⟩ := HR.out
                rw [e1, e2, e3, e4, HEQ.out]
                rfl
              rw [he]
              exact ⟨_, rfl, hR, SL.below (by repeat (first | (with_reducible first | exact HS.out | apply Sep.SL.drewN | apply Sep.SL.drew | apply Sep.SL.alloc) | exact HS.out))⟩
set_option maxHeartbeats 1000000 in
set_option maxRecDepth 100000 in
theorem label_Encode.calls (k : Nat) (a0_0 : Int) (a0_1 : Int) (a0_2 : Int) (a0_3 : Int) (a0_4 : Int) (a0_5 : Int) (a0_6 : Int) (a0_7 : Int) (a0_8 : Int) (a0_9 : Int) (a0_10 : Int) (a0_11 : Int) (a0_12 : Int) (r1 : List Int) (r2 : Int) (w : World) (h : label_Encode.f k a0_0 a0_1 a0_2 a0_3 a0_4 a0_5 a0_6 a0_7 a0_8 a0_9 a0_10 a0_11 a0_12 = some (r1, r2)) :
    Calls Try.prog 15 #[.agg #[.int .i64 a0_0, .int .i64 a0_1, .int .i64 a0_2, .int .i64 a0_3, .int .i64 a0_4, .int .i64 a0_5, .int .i64 a0_6, .int .i64 a0_7, .int .i64 a0_8, .int .i64 a0_9, .int .i64 a0_10, .int .i64 a0_11, .int .i64 a0_12]] w fun e w' => ∃ v0_ : Value, e = .returned (.tuple #[v0_, .int .i64 r2]) ∧ Kd.R (Kd.int .u8) 5 w' w.heap.size (fun _ => True) v0_ r1 ∧ Below w.heap.size w w' := by
  unfold label_Encode.f at h
  cases hm : label_May.f a0_0 a0_1 a0_2 a0_3 a0_4 a0_5 a0_6 a0_7 a0_8 a0_9 a0_10 a0_11 a0_12 with
  | none => rw [hm] at h; cases h
  | some t =>
    rw [hm] at h
    cases t with
    | true =>
      have h1 : (encL a0_0 a0_1 a0_2 a0_3 a0_4 a0_5 a0_6 a0_7 a0_8 a0_9 a0_10 a0_11 a0_12, (0 : Int)) = (r1, r2) := by injection h
      injection h1 with h2 h3
      subst h2 h3
      exact label_Encode.fine a0_0 a0_1 a0_2 a0_3 a0_4 a0_5 a0_6 a0_7 a0_8 a0_9 a0_10 a0_11 a0_12 w hm
    | false =>
      have h1 : (([] : List Int), (4 : Int)) = (r1, r2) := by injection h
      injection h1 with h2 h3
      subst h2 h3
      clear h
      have HS := Aside0.mk (SL.start w)
      go_enter Try.func15, Try.ntmps15
      go_wp2_with (first | ((with_reducible refine gate_dst (N := 1) rfl ?_); refine box_event ?hg (N := 1) ?hd (cs := #[.int .i64 a0_0, .int .i64 a0_1, .int .i64 a0_2, .int .i64 a0_3, .int .i64 a0_4, .int .i64 a0_5, .int .i64 a0_6, .int .i64 a0_7, .int .i64 a0_8, .int .i64 a0_9, .int .i64 a0_10, .int .i64 a0_11, .int .i64 a0_12]) (t := 27) ?hr ?_; (case hd => exact rfl); (case hg => exact rfl); (case hr => first | (go_simp; done) | (go_simp; rfl)); intro gx hgb_ w1 hbox_ hb_; have n1_ := Aside0.mk (Sep.SL.newBlk (by repeat (first | (with_reducible first | exact HS.out | apply Sep.SL.drewN | apply Sep.SL.drew | apply Sep.SL.alloc) | exact HS.out)) hb_ hgb_ hbox_); clear HS hgb_ hbox_ hb_; have HS := n1_; clear n1_; have hz0 := blk_at HS.out 0 rfl 0 _ rfl; have hz1 := blk_at HS.out 0 rfl 1 _ rfl; have hz2 := blk_at HS.out 0 rfl 2 _ rfl; have hz3 := blk_at HS.out 0 rfl 3 _ rfl; have hz4 := blk_at HS.out 0 rfl 4 _ rfl; have hz5 := blk_at HS.out 0 rfl 5 _ rfl; have hz6 := blk_at HS.out 0 rfl 6 _ rfl; have hz7 := blk_at HS.out 0 rfl 7 _ rfl; have hz8 := blk_at HS.out 0 rfl 8 _ rfl; have hz9 := blk_at HS.out 0 rfl 9 _ rfl; have hz10 := blk_at HS.out 0 rfl 10 _ rfl; have hz11 := blk_at HS.out 0 rfl 11 _ rfl; have hz12 := blk_at HS.out 0 rfl 12 _ rfl) | (go_at_call 47; refine (label_May.calls a0_0 a0_1 a0_2 a0_3 a0_4 a0_5 a0_6 a0_7 a0_8 a0_9 a0_10 a0_11 a0_12 false _ hm).mono ?_; rintro e w2 ⟨rfl, hb_⟩; have n1_ := Aside0.mk (SL.ext (by repeat (first | (with_reducible first | exact HS.out | apply Sep.SL.drewN | apply Sep.SL.drew | apply Sep.SL.alloc) | exact HS.out)) hb_); clear HS hb_; have HS := n1_; clear n1_))
      go_ret2
      exact ⟨_, rfl, Kd.R_nil _ _ _ _ _, SL.below (by repeat (first | (with_reducible first | exact HS.out | apply Sep.SL.drewN | apply Sep.SL.drew | apply Sep.SL.alloc) | exact HS.out))⟩

-- NOT PRINTED: function 56 (label_reader_number)

/-! ### slices_Equal_byte_byte: function 57 -/
def slices_Equal_byte_byte.l0 : Nat → List Int → List Int → Int → Int → Option (Bool)
  | 0, _, _, _, _ => none
  | k + 1, x0, x1, x12, x13 => if x13 < x12 then (if 0 ≤ x13 then (if x13 < (x0.length : Int) then (if x13 < (x1.length : Int) then (if (rd x0 x13) = (rd x1 x13) then (slices_Equal_byte_byte.l0 k x0 x1 x12 (wrap64 (x13 + 1))) else (some false)) else (none)) else (none)) else (none)) else (some true)
def slices_Equal_byte_byte.f (k : Nat) (l0 : List Int) (l1 : List Int) : Option (Bool) := if (l0.length : Int) = (l1.length : Int) then (slices_Equal_byte_byte.l0 k l0 l1 (l0.length : Int) 0) else (some false)
theorem slices_Equal_byte_byte.mono_l : ∀ k, (∀ y0 y1 y2 y3, LeO (slices_Equal_byte_byte.l0 k y0 y1 y2 y3) (slices_Equal_byte_byte.l0 (k + 1) y0 y1 y2 y3))
  | 0 => fun _ _ _ _ r h => by simp [slices_Equal_byte_byte.l0] at h
  | k + 1 => by
    have ih0 := slices_Equal_byte_byte.mono_l k
    · intro y0 y1 y2 y3
      unfold slices_Equal_byte_byte.l0
      repeat' first
      | (with_reducible exact ih0 _ _ _ _)
      | (with_reducible exact LeO.refl _)
      | (with_reducible exact LeO.none _)
      | (with_reducible refine LeO.ite ?_ ?_)
      | (with_reducible refine LeO.bind ?_ (fun _ => ?_))
      | exact ih0 _ _ _ _
      | exact LeO.none _
      | refine LeO.ite ?_ ?_
      | refine LeO.bind ?_ (fun _ => ?_)
theorem slices_Equal_byte_byte.mono : ∀ a0 a1 k, LeO (slices_Equal_byte_byte.f k a0 a1) (slices_Equal_byte_byte.f (k + 1) a0 a1) := by
  intro a0 a1 k
  have ih0 := slices_Equal_byte_byte.mono_l k
  unfold slices_Equal_byte_byte.f
  repeat' first
      | (with_reducible exact ih0 _ _ _ _)
      | (with_reducible exact LeO.refl _)
      | (with_reducible exact LeO.none _)
      | (with_reducible refine LeO.ite ?_ ?_)
      | (with_reducible refine LeO.bind ?_ (fun _ => ?_))
      | exact ih0 _ _ _ _
      | exact LeO.none _
      | refine LeO.ite ?_ ?_
      | refine LeO.bind ?_ (fun _ => ?_)
set_option maxHeartbeats 8000000 in
set_option maxRecDepth 100000 in
theorem slices_Equal_byte_byte.calls (k : Nat) (A0 : Option Addr) (c0 : Nat) (l0 : List Int) (A1 : Option Addr) (c1 : Nat) (l1 : List Int) (r : Bool) (w : World) (hr0 : Kd.C (Kd.int .u8) w A0 l0.length l0) (hc0 : l0.length ≤ c0) (hr1 : Kd.C (Kd.int .u8) w A1 l1.length l1) (hc1 : l1.length ≤ c1) (h : slices_Equal_byte_byte.f k l0 l1 = some r) :
    Calls Try.prog 57 #[.slice A0 l0.length c0, .slice A1 l1.length c1] w fun e w' => e = .returned (.bool r) ∧ Drawn0 w w' := by
  have HR0 := Aside0.mk hr0
  have HC0 := Aside0.mk hc0
  clear hr0 hc0
  have HR1 := Aside0.mk hr1
  have HC1 := Aside0.mk hc1
  clear hr1 hc1
  have H : (if (l0.length : Int) = (l1.length : Int) then (slices_Equal_byte_byte.l0 k l0 l1 (l0.length : Int) 0) else (some false)) = some r := h
  clear h
  by_cases c3 : (l0.length : Int) = (l1.length : Int)
  · rw [if_pos c3] at H
    have c3b0 : ((l0.length : Int) == (l1.length : Int)) = true := beq_iff_eq.mpr c3
    have c3b1 : ((l0.length : Int) != (l1.length : Int)) = false := bne_eq_false_iff_eq.mpr c3
    have c3b2 : (l0.length == l1.length) = true := by first | simpa using c3 | (simp at c3 ⊢; omega)
    clear c3
    have H' := Aside0.mk H
    clear H
    go_enter Try.func57, Try.ntmps57
    go_wp2
    repeat (go_quiet (fail); try go_wp2)
    go_loopg [13] k (fun kq v13 w' => ∃ (x13_1 : Int), v13 = .int .i64 x13_1 ∧ Aside0 (slices_Equal_byte_byte.l0 kq l0 l1 (l0.length : Int) x13_1 = some r) ∧ Aside0 (kq ≤ k) ∧ Drawn0 w w')
    case atStart => exact ⟨(0), (by first | rfl | (simp; done) | (simp [*]; done)), H', ⟨Nat.le_refl _⟩, by repeat (first | exact Drawn0.refl _ | apply Drawn0.step)⟩
    case round =>
      clear H'
      try clear c1
      try clear p2
      try clear c3
      try clear c3b0
      try clear c3b1
      try clear c3b2
      obtain ⟨x13_1, rfl, HA, HK1, ⟨m1, rfl⟩⟩ := hrel
      cases gk with
      | zero => exact absurd HA.out (by simp [slices_Equal_byte_byte.l0])
      | succ k1 =>
        have H := HA.out
        clear HA
        simp only [slices_Equal_byte_byte.l0] at H
        by_cases c4 : x13_1 < (l0.length : Int)
        · rw [if_pos c4] at H
          have c4b0 : decide (x13_1 < (l0.length : Int)) = true := decide_eq_true c4
          clear c4
          by_cases c5 : 0 ≤ x13_1
          · rw [if_pos c5] at H
            have c5b0 : decide (0 ≤ x13_1) = true := decide_eq_true c5
            clear c5
            by_cases c6 : x13_1 < (l0.length : Int)
            · rw [if_pos c6] at H
              have c6b0 : decide (x13_1 < (l0.length : Int)) = true := decide_eq_true c6
              clear c6
              by_cases c7 : x13_1 < (l1.length : Int)
              · rw [if_pos c7] at H
                have c7b0 : decide (x13_1 < (l1.length : Int)) = true := decide_eq_true c7
                clear c7
                by_cases c8 : (rd l0 x13_1) = (rd l1 x13_1)
                · rw [if_pos c8] at H
                  have c8b0 : ((rd l0 x13_1) == (rd l1 x13_1)) = true := beq_iff_eq.mpr c8
                  have c8b1 : ((rd l0 x13_1) != (rd l1 x13_1)) = false := bne_eq_false_iff_eq.mpr c8
                  clear c8
                  have H' := Aside0.mk H
                  clear H
                  have p124 : 0 ≤ (x13_1 : Int) := of_decide_eq_true (by first | (with_reducible assumption) | assumption)
                  have q124 : x13_1 < (l0.length : Int) := of_decide_eq_true (by first | (with_reducible assumption) | assumption)
                  obtain ⟨ad124, e124, hx124_0⟩ := Kd.at_int HR0.out x13_1 p124 q124
                  cases e124
                  replace p124 := eq_true p124
                  replace q124 := eq_true q124
                  have p125 : 0 ≤ (x13_1 : Int) := of_decide_eq_true (by first | (with_reducible assumption) | assumption)
                  have q125 : x13_1 < (l1.length : Int) := of_decide_eq_true (by first | (with_reducible assumption) | assumption)
                  obtain ⟨ad125, e125, hx125_0⟩ := Kd.at_int HR1.out x13_1 p125 q125
                  cases e125
                  replace p125 := eq_true p125
                  replace q125 := eq_true q125
                  go_wp2
                  repeat (go_quiet (fail); try go_wp2)
                  go_roundg k1
                  case measure => have := HK1.out; omega
                  case rel => exact ⟨(wrap64 (x13_1 + 1)), (by first | rfl | (simp; done) | (simp [*]; done)), H', ⟨by have := HK1.out; omega⟩, by repeat (first | exact Drawn0.refl _ | apply Drawn0.step)⟩
                · rw [if_neg c8] at H
                  have c8b0 : ((rd l0 x13_1) == (rd l1 x13_1)) = false := beq_eq_false_iff_ne.mpr c8
                  have c8b1 : ((rd l0 x13_1) != (rd l1 x13_1)) = true := bne_iff_ne.mpr c8
                  obtain rfl := Option.some.inj H
                  have p124 : 0 ≤ (x13_1 : Int) := of_decide_eq_true (by first | (with_reducible assumption) | assumption)
                  have q124 : x13_1 < (l0.length : Int) := of_decide_eq_true (by first | (with_reducible assumption) | assumption)
                  obtain ⟨ad124, e124, hx124_0⟩ := Kd.at_int HR0.out x13_1 p124 q124
                  cases e124
                  replace p124 := eq_true p124
                  replace q124 := eq_true q124
                  have p125 : 0 ≤ (x13_1 : Int) := of_decide_eq_true (by first | (with_reducible assumption) | assumption)
                  have q125 : x13_1 < (l1.length : Int) := of_decide_eq_true (by first | (with_reducible assumption) | assumption)
                  obtain ⟨ad125, e125, hx125_0⟩ := Kd.at_int HR1.out x13_1 p125 q125
                  cases e125
                  replace p125 := eq_true p125
                  replace q125 := eq_true q125
                  go_wp2
                  repeat (go_quiet (fail); try go_wp2)
                  go_ret
                  exact ⟨by first | rfl | (simp; done) | (simp [*]; done), by repeat (first | exact Drawn0.refl _ | apply Drawn0.step)⟩
              · rw [if_neg c7] at H
                exact absurd H (by simp)
            · rw [if_neg c6] at H
              exact absurd H (by simp)
          · rw [if_neg c5] at H
            exact absurd H (by simp)
        · rw [if_neg c4] at H
          have c4b0 : decide (x13_1 < (l0.length : Int)) = false := decide_eq_false c4
          clear c4
          obtain rfl := Option.some.inj H
          go_wp2
          repeat (go_quiet (fail); try go_wp2)
          go_ret
          exact ⟨by first | rfl | (simp; done) | (simp [*]; done), by repeat (first | exact Drawn0.refl _ | apply Drawn0.step)⟩
  · rw [if_neg c3] at H
    have c3b0 : ((l0.length : Int) == (l1.length : Int)) = false := beq_eq_false_iff_ne.mpr c3
    have c3b1 : ((l0.length : Int) != (l1.length : Int)) = true := bne_iff_ne.mpr c3
    have c3b2 : (l0.length == l1.length) = false := by first | simpa using c3 | (simp at c3 ⊢; omega)
    obtain rfl := Option.some.inj H
    go_enter Try.func57, Try.ntmps57
    go_wp2
    repeat (go_quiet (fail); try go_wp2)
    go_ret
    exact ⟨by first | rfl | (simp; done) | (simp [*]; done), by repeat (first | exact Drawn0.refl _ | apply Drawn0.step)⟩

/-! ### label_Decode: function 18 -/
theorem drop_rd_ (l : List Int) (i : Nat) (h : i < l.length) : l.drop i = rd l (i : Int) :: l.drop (i + 1) := by
  rw [List.drop_eq_getElem_cons h]
  congr 1
  show _ = l.getD ((i : Nat) : Int).toNat 0
  rw [Int.toNat_natCast, List.getD_eq_getElem?_getD, List.getElem?_eq_getElem h]
  rfl
theorem eqb_go (l m : List Int) (hlen : l.length = m.length) (hb : l.length ≤ 5000) : ∀ n i : Nat, i + n = l.length → ∃ k, slices_Equal_byte_byte.l0 k l m (l.length : Int) (i : Int) = some (decide (l.drop i = m.drop i))
  | 0, i, h => ⟨1, by rw [slices_Equal_byte_byte.l0, if_neg (by omega), List.drop_eq_nil_of_le (by omega), List.drop_eq_nil_of_le (by omega)]; rfl⟩
  | n + 1, i, h => by
    obtain ⟨k, hk⟩ := eqb_go l m hlen hb n (i + 1) (by omega)
    refine ⟨k + 1, ?_⟩
    rw [slices_Equal_byte_byte.l0, if_pos (by omega), if_pos (by omega), if_pos (by omega), if_pos (by omega), drop_rd_ l i (by omega), drop_rd_ m i (by omega), show wrap64 ((i : Int) + 1) = ((i + 1 : Nat) : Int) from by unfold wrap64; omega, hk]
    by_cases c : rd l (i : Int) = rd m (i : Int)
    · rw [if_pos c, c]; simp
    · rw [if_neg c]; simp [c]
theorem eqb_is (l m : List Int) (hb : l.length ≤ 5000) : ∃ k, slices_Equal_byte_byte.f k l m = some (decide (l = m)) := by
  by_cases hlen : l.length = m.length
  · obtain ⟨k, hk⟩ := eqb_go l m hlen hb l.length 0 (by omega)
    exact ⟨k, by unfold slices_Equal_byte_byte.f; rw [if_pos (by omega)]; exact hk⟩
  · exact ⟨0, by unfold slices_Equal_byte_byte.f; rw [if_neg (by omega), decide_eq_false (fun e => hlen (by rw [e]))]⟩
/-- What Decode answers for 128 bytes. -/
def decR (l : List Int) : Option (Int × Int × Int × Int × Int × Int × Int × Int × Int × Int × Int × Int × Int × Int) :=
  if sumL 0 0 0 0 (l.take 96) = (dec8 l 96, dec8 l 104, dec8 l 112, dec8 l 120) then (label_May.f (dec4 l 0) (dec4 l 1) (dec4 l 2) (dec4 l 3) (dec4 l 4) (dec4 l 5) (dec4 l 6) (dec4 l 7) (dec4 l 8) (dec8 l 36) (dec8 l 44) (dec8 l 52) (dec8 l 60)).bind fun t => if t = true then (if encL (dec4 l 0) (dec4 l 1) (dec4 l 2) (dec4 l 3) (dec4 l 4) (dec4 l 5) (dec4 l 6) (dec4 l 7) (dec4 l 8) (dec8 l 36) (dec8 l 44) (dec8 l 52) (dec8 l 60) = l then some (dec4 l 0, dec4 l 1, dec4 l 2, dec4 l 3, dec4 l 4, dec4 l 5, dec4 l 6, dec4 l 7, dec4 l 8, dec8 l 36, dec8 l 44, dec8 l 52, dec8 l 60, 0) else some (badR 4)) else some (badR 4) else some (badR 11)
def label_Decode.f (_k : Nat) (l : List Int) : Option (Int × Int × Int × Int × Int × Int × Int × Int × Int × Int × Int × Int × Int × Int) := if l.length = 128 then (if l.all (fun x => decide (0 ≤ x ∧ x ≤ 255)) = true then decR l else none) else some (badR 1)
theorem label_Decode.mono : ∀ l k, LeO (label_Decode.f k l) (label_Decode.f (k + 1) l) := fun l k => LeO.refl _
set_option maxHeartbeats 16000000 in
set_option maxRecDepth 100000 in
theorem label_Decode.fine (A0 : Option Addr) (c0 : Nat) (l0 : List Int) (r1 r2 r3 r4 r5 r6 r7 r8 r9 r10 r11 r12 r13 r14 : Int) (w : World) (hR : ReadsInt w .u8 A0 128 l0) (hc0 : 128 ≤ c0) (hb : ∀ x ∈ l0, 0 ≤ x ∧ x ≤ 255) (h : decR l0 = some (r1, r2, r3, r4, r5, r6, r7, r8, r9, r10, r11, r12, r13, r14)) :
    Calls Try.prog 18 #[.slice A0 128 c0] w fun e w' => e = .returned (.tuple #[.agg #[.int .i64 r1, .int .i64 r2, .int .i64 r3, .int .i64 r4, .int .i64 r5, .int .i64 r6, .int .i64 r7, .int .i64 r8, .int .i64 r9, .int .i64 r10, .int .i64 r11, .int .i64 r12, .int .i64 r13], .int .i64 r14]) ∧ Below w.heap.size w w' := by
  have hu9 := Try.underlying84
  have hu4 := Try.underlying88
  have HS := Aside0.mk (SL.start w)
  have HR := Aside0.mk hR
  have HB := Aside0.mk hb
  have HH := Aside0.mk h
  have HC0 := Aside0.mk hc0
  clear h hR hb hc0
  go_enter Try.func18, Try.ntmps18
  go_upto_region 1 with (fail)
  have HS := Aside0.mk (HS.out.allocBlk #[.int .i64 0, .int .i64 0, .int .i64 0, .int .i64 0, .int .i64 0, .int .i64 0, .int .i64 0, .int .i64 0, .int .i64 0, .int .i64 0, .int .i64 0, .int .i64 0, .int .i64 0] 27)
  generalize w.heap.size = ge at HS ⊢
  generalize World.alloc _ _ = w1 at HS ⊢
  go_upto_region 4 with (fail)
  have HS := Aside0.mk (HS.out.allocBlk #[.int .i64 0, .int .i64 0, .int .i64 0, .int .i64 0, .int .i64 0, .int .i64 0, .int .i64 0, .int .i64 0, .int .i64 0, .int .i64 0, .int .i64 0, .int .i64 0, .int .i64 0] 27)
  generalize w1.heap.size = gx at HS ⊢
  generalize World.alloc _ _ = w2 at HS ⊢
  go_upto_region 5 with (fail)
  have HS := Aside0.mk (HS.out.allocBlk #[.int .i64 0, .int .i64 0, .int .i64 0, .int .i64 0] 23)
  generalize w2.heap.size = gs at HS ⊢
  generalize World.alloc _ _ = w3 at HS ⊢
  go_upto_region 6 with (fail)
  have HS := Aside0.mk (HS.out.allocBlk #[.slice A0 128 c0] 96)
  generalize w3.heap.size = gr at HS ⊢
  generalize World.alloc _ _ = w4 at HS ⊢
  go_upto_region 7 with (go_at_call 48; refine (small_calls gx _).mono ?_; rintro e w5 ⟨rfl, hb_⟩; have n1_ := Aside0.mk (SL.ext (by repeat (first | (with_reducible first | exact HS.out | apply Sep.SL.drewN | apply Sep.SL.drew | apply Sep.SL.alloc) | exact HS.out)) hb_); clear HS hb_; have HS := n1_; clear n1_)
  go_loopg [8, 23] 9 (fun kq v8 v23 wr => ∃ (i : Nat) (A : Option Addr), v23 = .int .i64 (i : Int) ∧ i + kq = 9 ∧ ((i = 0 ∧ Aside0 (SL w wr [blkA gr #[.slice A 128 c0] 96, blkA gs #[.int .i64 0, .int .i64 0, .int .i64 0, .int .i64 0] 23, blkA gx #[.int .i64 0, .int .i64 0, .int .i64 0, .int .i64 0, .int .i64 0, .int .i64 0, .int .i64 0, .int .i64 0, .int .i64 0, .int .i64 0, .int .i64 0, .int .i64 0, .int .i64 0] 27, blkA ge #[.int .i64 0, .int .i64 0, .int .i64 0, .int .i64 0, .int .i64 0, .int .i64 0, .int .i64 0, .int .i64 0, .int .i64 0, .int .i64 0, .int .i64 0, .int .i64 0, .int .i64 0] 27]) ∧ Aside0 (ReadsInt w .u8 A 128 (l0.drop 0))) ∨ (i = 1 ∧ Aside0 (SL w wr [blkA gr #[.slice A 124 (c0 - 4)] 96, blkA gs #[.int .i64 0, .int .i64 0, .int .i64 0, .int .i64 0] 23, blkA gx #[.int .i64 (dec4 l0 0), .int .i64 0, .int .i64 0, .int .i64 0, .int .i64 0, .int .i64 0, .int .i64 0, .int .i64 0, .int .i64 0, .int .i64 0, .int .i64 0, .int .i64 0, .int .i64 0] 27, blkA ge #[.int .i64 0, .int .i64 0, .int .i64 0, .int .i64 0, .int .i64 0, .int .i64 0, .int .i64 0, .int .i64 0, .int .i64 0, .int .i64 0, .int .i64 0, .int .i64 0, .int .i64 0] 27]) ∧ Aside0 (ReadsInt w .u8 A 124 (l0.drop 4))) ∨ (i = 2 ∧ Aside0 (SL w wr [blkA gr #[.slice A 120 (c0 - 8)] 96, blkA gs #[.int .i64 0, .int .i64 0, .int .i64 0, .int .i64 0] 23, blkA gx #[.int .i64 (dec4 l0 0), .int .i64 (dec4 l0 1), .int .i64 0, .int .i64 0, .int .i64 0, .int .i64 0, .int .i64 0, .int .i64 0, .int .i64 0, .int .i64 0, .int .i64 0, .int .i64 0, .int .i64 0] 27, blkA ge #[.int .i64 0, .int .i64 0, .int .i64 0, .int .i64 0, .int .i64 0, .int .i64 0, .int .i64 0, .int .i64 0, .int .i64 0, .int .i64 0, .int .i64 0, .int .i64 0, .int .i64 0] 27]) ∧ Aside0 (ReadsInt w .u8 A 120 (l0.drop 8))) ∨ (i = 3 ∧ Aside0 (SL w wr [blkA gr #[.slice A 116 (c0 - 12)] 96, blkA gs #[.int .i64 0, .int .i64 0, .int .i64 0, .int .i64 0] 23, blkA gx #[.int .i64 (dec4 l0 0), .int .i64 (dec4 l0 1), .int .i64 (dec4 l0 2), .int .i64 0, .int .i64 0, .int .i64 0, .int .i64 0, .int .i64 0, .int .i64 0, .int .i64 0, .int .i64 0, .int .i64 0, .int .i64 0] 27, blkA ge #[.int .i64 0, .int .i64 0, .int .i64 0, .int .i64 0, .int .i64 0, .int .i64 0, .int .i64 0, .int .i64 0, .int .i64 0, .int .i64 0, .int .i64 0, .int .i64 0, .int .i64 0] 27]) ∧ Aside0 (ReadsInt w .u8 A 116 (l0.drop 12))) ∨ (i = 4 ∧ Aside0 (SL w wr [blkA gr #[.slice A 112 (c0 - 16)] 96, blkA gs #[.int .i64 0, .int .i64 0, .int .i64 0, .int .i64 0] 23, blkA gx #[.int .i64 (dec4 l0 0), .int .i64 (dec4 l0 1), .int .i64 (dec4 l0 2), .int .i64 (dec4 l0 3), .int .i64 0, .int .i64 0, .int .i64 0, .int .i64 0, .int .i64 0, .int .i64 0, .int .i64 0, .int .i64 0, .int .i64 0] 27, blkA ge #[.int .i64 0, .int .i64 0, .int .i64 0, .int .i64 0, .int .i64 0, .int .i64 0, .int .i64 0, .int .i64 0, .int .i64 0, .int .i64 0, .int .i64 0, .int .i64 0, .int .i64 0] 27]) ∧ Aside0 (ReadsInt w .u8 A 112 (l0.drop 16))) ∨ (i = 5 ∧ Aside0 (SL w wr [blkA gr #[.slice A 108 (c0 - 20)] 96, blkA gs #[.int .i64 0, .int .i64 0, .int .i64 0, .int .i64 0] 23, blkA gx #[.int .i64 (dec4 l0 0), .int .i64 (dec4 l0 1), .int .i64 (dec4 l0 2), .int .i64 (dec4 l0 3), .int .i64 (dec4 l0 4), .int .i64 0, .int .i64 0, .int .i64 0, .int .i64 0, .int .i64 0, .int .i64 0, .int .i64 0, .int .i64 0] 27, blkA ge #[.int .i64 0, .int .i64 0, .int .i64 0, .int .i64 0, .int .i64 0, .int .i64 0, .int .i64 0, .int .i64 0, .int .i64 0, .int .i64 0, .int .i64 0, .int .i64 0, .int .i64 0] 27]) ∧ Aside0 (ReadsInt w .u8 A 108 (l0.drop 20))) ∨ (i = 6 ∧ Aside0 (SL w wr [blkA gr #[.slice A 104 (c0 - 24)] 96, blkA gs #[.int .i64 0, .int .i64 0, .int .i64 0, .int .i64 0] 23, blkA gx #[.int .i64 (dec4 l0 0), .int .i64 (dec4 l0 1), .int .i64 (dec4 l0 2), .int .i64 (dec4 l0 3), .int .i64 (dec4 l0 4), .int .i64 (dec4 l0 5), .int .i64 0, .int .i64 0, .int .i64 0, .int .i64 0, .int .i64 0, .int .i64 0, .int .i64 0] 27, blkA ge #[.int .i64 0, .int .i64 0, .int .i64 0, .int .i64 0, .int .i64 0, .int .i64 0, .int .i64 0, .int .i64 0, .int .i64 0, .int .i64 0, .int .i64 0, .int .i64 0, .int .i64 0] 27]) ∧ Aside0 (ReadsInt w .u8 A 104 (l0.drop 24))) ∨ (i = 7 ∧ Aside0 (SL w wr [blkA gr #[.slice A 100 (c0 - 28)] 96, blkA gs #[.int .i64 0, .int .i64 0, .int .i64 0, .int .i64 0] 23, blkA gx #[.int .i64 (dec4 l0 0), .int .i64 (dec4 l0 1), .int .i64 (dec4 l0 2), .int .i64 (dec4 l0 3), .int .i64 (dec4 l0 4), .int .i64 (dec4 l0 5), .int .i64 (dec4 l0 6), .int .i64 0, .int .i64 0, .int .i64 0, .int .i64 0, .int .i64 0, .int .i64 0] 27, blkA ge #[.int .i64 0, .int .i64 0, .int .i64 0, .int .i64 0, .int .i64 0, .int .i64 0, .int .i64 0, .int .i64 0, .int .i64 0, .int .i64 0, .int .i64 0, .int .i64 0, .int .i64 0] 27]) ∧ Aside0 (ReadsInt w .u8 A 100 (l0.drop 28))) ∨ (i = 8 ∧ Aside0 (SL w wr [blkA gr #[.slice A 96 (c0 - 32)] 96, blkA gs #[.int .i64 0, .int .i64 0, .int .i64 0, .int .i64 0] 23, blkA gx #[.int .i64 (dec4 l0 0), .int .i64 (dec4 l0 1), .int .i64 (dec4 l0 2), .int .i64 (dec4 l0 3), .int .i64 (dec4 l0 4), .int .i64 (dec4 l0 5), .int .i64 (dec4 l0 6), .int .i64 (dec4 l0 7), .int .i64 0, .int .i64 0, .int .i64 0, .int .i64 0, .int .i64 0] 27, blkA ge #[.int .i64 0, .int .i64 0, .int .i64 0, .int .i64 0, .int .i64 0, .int .i64 0, .int .i64 0, .int .i64 0, .int .i64 0, .int .i64 0, .int .i64 0, .int .i64 0, .int .i64 0] 27]) ∧ Aside0 (ReadsInt w .u8 A 96 (l0.drop 32))) ∨ (i = 9 ∧ Aside0 (SL w wr [blkA gr #[.slice A 92 (c0 - 36)] 96, blkA gs #[.int .i64 0, .int .i64 0, .int .i64 0, .int .i64 0] 23, blkA gx #[.int .i64 (dec4 l0 0), .int .i64 (dec4 l0 1), .int .i64 (dec4 l0 2), .int .i64 (dec4 l0 3), .int .i64 (dec4 l0 4), .int .i64 (dec4 l0 5), .int .i64 (dec4 l0 6), .int .i64 (dec4 l0 7), .int .i64 (dec4 l0 8), .int .i64 0, .int .i64 0, .int .i64 0, .int .i64 0] 27, blkA ge #[.int .i64 0, .int .i64 0, .int .i64 0, .int .i64 0, .int .i64 0, .int .i64 0, .int .i64 0, .int .i64 0, .int .i64 0, .int .i64 0, .int .i64 0, .int .i64 0, .int .i64 0] 27]) ∧ Aside0 (ReadsInt w .u8 A 92 (l0.drop 36)))))
  case atStart => exact ⟨0, _, rfl, rfl, .inl ⟨rfl, HS, HR⟩⟩
  case round =>
    clear HS
    obtain ⟨i, A, rfl, hik, hcase⟩ := hrel
    rcases hcase with ⟨rfl, HS, HQ⟩ | ⟨rfl, HS, HQ⟩ | ⟨rfl, HS, HQ⟩ | ⟨rfl, HS, HQ⟩ | ⟨rfl, HS, HQ⟩ | ⟨rfl, HS, HQ⟩ | ⟨rfl, HS, HQ⟩ | ⟨rfl, HS, HQ⟩ | ⟨rfl, HS, HQ⟩ | ⟨rfl, HS, HQ⟩
    · obtain rfl : gk = 9 := by omega
      clear hik
      have hix : ∀ W : World, (Instr.index 84 (.agg #[.pointer (some ⟨gx, 0, none⟩), .pointer (some ⟨gx, 1, none⟩), .pointer (some ⟨gx, 2, none⟩), .pointer (some ⟨gx, 3, none⟩), .pointer (some ⟨gx, 4, none⟩), .pointer (some ⟨gx, 5, none⟩), .pointer (some ⟨gx, 6, none⟩), .pointer (some ⟨gx, 7, none⟩), .pointer (some ⟨gx, 8, none⟩)]) (.int .i64 0)).run Try.prog W = .ok (.pointer (some ⟨gx, 0, none⟩)) W := fun W => index_ptr9 _ 0 _ rfl (by decide) W
      have HU := Aside0.mk HQ.out
      clear HQ
      go_wp2_with (go_at_call 56; (with_reducible refine (number4 (by repeat (first | (with_reducible first | exact HS.out | apply Sep.SL.drewN | apply Sep.SL.drew | apply Sep.SL.alloc) | exact HS.out)) 0 gr c0 A l0 0 128 c0 124 (c0 - 4) rfl rfl rfl HU.out HB.out (by decide) HC0.out rfl rfl).mono ?_); rintro e w5 ⟨rfl, A2, h5, hq5⟩; have n1_ := Aside0.mk h5; have HQ := Aside0.mk hq5; clear HS h5 hq5 hix; have HS := n1_; clear n1_; have HP := Aside0.mk (HS.out.put 2 rfl 0 (.int .i64 (dec4 l0 0))); have hz := blk_at HS.out 2 rfl 0 _ rfl; have hfz := blk_frozen (HS.out.blk 2 rfl) 0)
      go_roundg 8
      case measure => omega
      case rel => exact ⟨1, A2, rfl, rfl, .inr (.inl ⟨rfl, HP, HQ⟩)⟩
    · obtain rfl : gk = 8 := by omega
      clear hik
      have hix : ∀ W : World, (Instr.index 84 (.agg #[.pointer (some ⟨gx, 0, none⟩), .pointer (some ⟨gx, 1, none⟩), .pointer (some ⟨gx, 2, none⟩), .pointer (some ⟨gx, 3, none⟩), .pointer (some ⟨gx, 4, none⟩), .pointer (some ⟨gx, 5, none⟩), .pointer (some ⟨gx, 6, none⟩), .pointer (some ⟨gx, 7, none⟩), .pointer (some ⟨gx, 8, none⟩)]) (.int .i64 1)).run Try.prog W = .ok (.pointer (some ⟨gx, 1, none⟩)) W := fun W => index_ptr9 _ 1 _ rfl (by decide) W
      have HU := Aside0.mk HQ.out
      clear HQ
      go_wp2_with (go_at_call 56; (with_reducible refine (number4 (by repeat (first | (with_reducible first | exact HS.out | apply Sep.SL.drewN | apply Sep.SL.drew | apply Sep.SL.alloc) | exact HS.out)) 0 gr c0 A l0 1 124 (c0 - 4) 120 (c0 - 8) rfl rfl rfl HU.out HB.out (by decide) HC0.out rfl rfl).mono ?_); rintro e w5 ⟨rfl, A2, h5, hq5⟩; have n1_ := Aside0.mk h5; have HQ := Aside0.mk hq5; clear HS h5 hq5 hix; have HS := n1_; clear n1_; have HP := Aside0.mk (HS.out.put 2 rfl 1 (.int .i64 (dec4 l0 1))); have hz := blk_at HS.out 2 rfl 1 _ rfl; have hfz := blk_frozen (HS.out.blk 2 rfl) 1)
      go_roundg 7
      case measure => omega
      case rel => exact ⟨2, A2, rfl, rfl, .inr (.inr (.inl ⟨rfl, HP, HQ⟩))⟩
    · obtain rfl : gk = 7 := by omega
      clear hik
      have hix : ∀ W : World, (Instr.index 84 (.agg #[.pointer (some ⟨gx, 0, none⟩), .pointer (some ⟨gx, 1, none⟩), .pointer (some ⟨gx, 2, none⟩), .pointer (some ⟨gx, 3, none⟩), .pointer (some ⟨gx, 4, none⟩), .pointer (some ⟨gx, 5, none⟩), .pointer (some ⟨gx, 6, none⟩), .pointer (some ⟨gx, 7, none⟩), .pointer (some ⟨gx, 8, none⟩)]) (.int .i64 2)).run Try.prog W = .ok (.pointer (some ⟨gx, 2, none⟩)) W := fun W => index_ptr9 _ 2 _ rfl (by decide) W
      have HU := Aside0.mk HQ.out
      clear HQ
      go_wp2_with (go_at_call 56; (with_reducible refine (number4 (by repeat (first | (with_reducible first | exact HS.out | apply Sep.SL.drewN | apply Sep.SL.drew | apply Sep.SL.alloc) | exact HS.out)) 0 gr c0 A l0 2 120 (c0 - 8) 116 (c0 - 12) rfl rfl rfl HU.out HB.out (by decide) HC0.out rfl rfl).mono ?_); rintro e w5 ⟨rfl, A2, h5, hq5⟩; have n1_ := Aside0.mk h5; have HQ := Aside0.mk hq5; clear HS h5 hq5 hix; have HS := n1_; clear n1_; have HP := Aside0.mk (HS.out.put 2 rfl 2 (.int .i64 (dec4 l0 2))); have hz := blk_at HS.out 2 rfl 2 _ rfl; have hfz := blk_frozen (HS.out.blk 2 rfl) 2)
      go_roundg 6
      case measure => omega
      case rel => exact ⟨3, A2, rfl, rfl, .inr (.inr (.inr (.inl ⟨rfl, HP, HQ⟩)))⟩
    · obtain rfl : gk = 6 := by omega
      clear hik
      have hix : ∀ W : World, (Instr.index 84 (.agg #[.pointer (some ⟨gx, 0, none⟩), .pointer (some ⟨gx, 1, none⟩), .pointer (some ⟨gx, 2, none⟩), .pointer (some ⟨gx, 3, none⟩), .pointer (some ⟨gx, 4, none⟩), .pointer (some ⟨gx, 5, none⟩), .pointer (some ⟨gx, 6, none⟩), .pointer (some ⟨gx, 7, none⟩), .pointer (some ⟨gx, 8, none⟩)]) (.int .i64 3)).run Try.prog W = .ok (.pointer (some ⟨gx, 3, none⟩)) W := fun W => index_ptr9 _ 3 _ rfl (by decide) W
      have HU := Aside0.mk HQ.out
      clear HQ
      go_wp2_with (go_at_call 56; (with_reducible refine (number4 (by repeat (first | (with_reducible first | exact HS.out | apply Sep.SL.drewN | apply Sep.SL.drew | apply Sep.SL.alloc) | exact HS.out)) 0 gr c0 A l0 3 116 (c0 - 12) 112 (c0 - 16) rfl rfl rfl HU.out HB.out (by decide) HC0.out rfl rfl).mono ?_); rintro e w5 ⟨rfl, A2, h5, hq5⟩; have n1_ := Aside0.mk h5; have HQ := Aside0.mk hq5; clear HS h5 hq5 hix; have HS := n1_; clear n1_; have HP := Aside0.mk (HS.out.put 2 rfl 3 (.int .i64 (dec4 l0 3))); have hz := blk_at HS.out 2 rfl 3 _ rfl; have hfz := blk_frozen (HS.out.blk 2 rfl) 3)
      go_roundg 5
      case measure => omega
      case rel => exact ⟨4, A2, rfl, rfl, .inr (.inr (.inr (.inr (.inl ⟨rfl, HP, HQ⟩))))⟩
    · obtain rfl : gk = 5 := by omega
      clear hik
      have hix : ∀ W : World, (Instr.index 84 (.agg #[.pointer (some ⟨gx, 0, none⟩), .pointer (some ⟨gx, 1, none⟩), .pointer (some ⟨gx, 2, none⟩), .pointer (some ⟨gx, 3, none⟩), .pointer (some ⟨gx, 4, none⟩), .pointer (some ⟨gx, 5, none⟩), .pointer (some ⟨gx, 6, none⟩), .pointer (some ⟨gx, 7, none⟩), .pointer (some ⟨gx, 8, none⟩)]) (.int .i64 4)).run Try.prog W = .ok (.pointer (some ⟨gx, 4, none⟩)) W := fun W => index_ptr9 _ 4 _ rfl (by decide) W
      have HU := Aside0.mk HQ.out
      clear HQ
      go_wp2_with (go_at_call 56; (with_reducible refine (number4 (by repeat (first | (with_reducible first | exact HS.out | apply Sep.SL.drewN | apply Sep.SL.drew | apply Sep.SL.alloc) | exact HS.out)) 0 gr c0 A l0 4 112 (c0 - 16) 108 (c0 - 20) rfl rfl rfl HU.out HB.out (by decide) HC0.out rfl rfl).mono ?_); rintro e w5 ⟨rfl, A2, h5, hq5⟩; have n1_ := Aside0.mk h5; have HQ := Aside0.mk hq5; clear HS h5 hq5 hix; have HS := n1_; clear n1_; have HP := Aside0.mk (HS.out.put 2 rfl 4 (.int .i64 (dec4 l0 4))); have hz := blk_at HS.out 2 rfl 4 _ rfl; have hfz := blk_frozen (HS.out.blk 2 rfl) 4)
      go_roundg 4
      case measure => omega
      case rel => exact ⟨5, A2, rfl, rfl, .inr (.inr (.inr (.inr (.inr (.inl ⟨rfl, HP, HQ⟩)))))⟩
    · obtain rfl : gk = 4 := by omega
      clear hik
      have hix : ∀ W : World, (Instr.index 84 (.agg #[.pointer (some ⟨gx, 0, none⟩), .pointer (some ⟨gx, 1, none⟩), .pointer (some ⟨gx, 2, none⟩), .pointer (some ⟨gx, 3, none⟩), .pointer (some ⟨gx, 4, none⟩), .pointer (some ⟨gx, 5, none⟩), .pointer (some ⟨gx, 6, none⟩), .pointer (some ⟨gx, 7, none⟩), .pointer (some ⟨gx, 8, none⟩)]) (.int .i64 5)).run Try.prog W = .ok (.pointer (some ⟨gx, 5, none⟩)) W := fun W => index_ptr9 _ 5 _ rfl (by decide) W
      have HU := Aside0.mk HQ.out
      clear HQ
      go_wp2_with (go_at_call 56; (with_reducible refine (number4 (by repeat (first | (with_reducible first | exact HS.out | apply Sep.SL.drewN | apply Sep.SL.drew | apply Sep.SL.alloc) | exact HS.out)) 0 gr c0 A l0 5 108 (c0 - 20) 104 (c0 - 24) rfl rfl rfl HU.out HB.out (by decide) HC0.out rfl rfl).mono ?_); rintro e w5 ⟨rfl, A2, h5, hq5⟩; have n1_ := Aside0.mk h5; have HQ := Aside0.mk hq5; clear HS h5 hq5 hix; have HS := n1_; clear n1_; have HP := Aside0.mk (HS.out.put 2 rfl 5 (.int .i64 (dec4 l0 5))); have hz := blk_at HS.out 2 rfl 5 _ rfl; have hfz := blk_frozen (HS.out.blk 2 rfl) 5)
      go_roundg 3
      case measure => omega
      case rel => exact ⟨6, A2, rfl, rfl, .inr (.inr (.inr (.inr (.inr (.inr (.inl ⟨rfl, HP, HQ⟩))))))⟩
    · obtain rfl : gk = 3 := by omega
      clear hik
      have hix : ∀ W : World, (Instr.index 84 (.agg #[.pointer (some ⟨gx, 0, none⟩), .pointer (some ⟨gx, 1, none⟩), .pointer (some ⟨gx, 2, none⟩), .pointer (some ⟨gx, 3, none⟩), .pointer (some ⟨gx, 4, none⟩), .pointer (some ⟨gx, 5, none⟩), .pointer (some ⟨gx, 6, none⟩), .pointer (some ⟨gx, 7, none⟩), .pointer (some ⟨gx, 8, none⟩)]) (.int .i64 6)).run Try.prog W = .ok (.pointer (some ⟨gx, 6, none⟩)) W := fun W => index_ptr9 _ 6 _ rfl (by decide) W
      have HU := Aside0.mk HQ.out
      clear HQ
      go_wp2_with (go_at_call 56; (with_reducible refine (number4 (by repeat (first | (with_reducible first | exact HS.out | apply Sep.SL.drewN | apply Sep.SL.drew | apply Sep.SL.alloc) | exact HS.out)) 0 gr c0 A l0 6 104 (c0 - 24) 100 (c0 - 28) rfl rfl rfl HU.out HB.out (by decide) HC0.out rfl rfl).mono ?_); rintro e w5 ⟨rfl, A2, h5, hq5⟩; have n1_ := Aside0.mk h5; have HQ := Aside0.mk hq5; clear HS h5 hq5 hix; have HS := n1_; clear n1_; have HP := Aside0.mk (HS.out.put 2 rfl 6 (.int .i64 (dec4 l0 6))); have hz := blk_at HS.out 2 rfl 6 _ rfl; have hfz := blk_frozen (HS.out.blk 2 rfl) 6)
      go_roundg 2
      case measure => omega
      case rel => exact ⟨7, A2, rfl, rfl, .inr (.inr (.inr (.inr (.inr (.inr (.inr (.inl ⟨rfl, HP, HQ⟩)))))))⟩
    · obtain rfl : gk = 2 := by omega
      clear hik
      have hix : ∀ W : World, (Instr.index 84 (.agg #[.pointer (some ⟨gx, 0, none⟩), .pointer (some ⟨gx, 1, none⟩), .pointer (some ⟨gx, 2, none⟩), .pointer (some ⟨gx, 3, none⟩), .pointer (some ⟨gx, 4, none⟩), .pointer (some ⟨gx, 5, none⟩), .pointer (some ⟨gx, 6, none⟩), .pointer (some ⟨gx, 7, none⟩), .pointer (some ⟨gx, 8, none⟩)]) (.int .i64 7)).run Try.prog W = .ok (.pointer (some ⟨gx, 7, none⟩)) W := fun W => index_ptr9 _ 7 _ rfl (by decide) W
      have HU := Aside0.mk HQ.out
      clear HQ
      go_wp2_with (go_at_call 56; (with_reducible refine (number4 (by repeat (first | (with_reducible first | exact HS.out | apply Sep.SL.drewN | apply Sep.SL.drew | apply Sep.SL.alloc) | exact HS.out)) 0 gr c0 A l0 7 100 (c0 - 28) 96 (c0 - 32) rfl rfl rfl HU.out HB.out (by decide) HC0.out rfl rfl).mono ?_); rintro e w5 ⟨rfl, A2, h5, hq5⟩; have n1_ := Aside0.mk h5; have HQ := Aside0.mk hq5; clear HS h5 hq5 hix; have HS := n1_; clear n1_; have HP := Aside0.mk (HS.out.put 2 rfl 7 (.int .i64 (dec4 l0 7))); have hz := blk_at HS.out 2 rfl 7 _ rfl; have hfz := blk_frozen (HS.out.blk 2 rfl) 7)
      go_roundg 1
      case measure => omega
      case rel => exact ⟨8, A2, rfl, rfl, .inr (.inr (.inr (.inr (.inr (.inr (.inr (.inr (.inl ⟨rfl, HP, HQ⟩))))))))⟩
    · obtain rfl : gk = 1 := by omega
      clear hik
      have hix : ∀ W : World, (Instr.index 84 (.agg #[.pointer (some ⟨gx, 0, none⟩), .pointer (some ⟨gx, 1, none⟩), .pointer (some ⟨gx, 2, none⟩), .pointer (some ⟨gx, 3, none⟩), .pointer (some ⟨gx, 4, none⟩), .pointer (some ⟨gx, 5, none⟩), .pointer (some ⟨gx, 6, none⟩), .pointer (some ⟨gx, 7, none⟩), .pointer (some ⟨gx, 8, none⟩)]) (.int .i64 8)).run Try.prog W = .ok (.pointer (some ⟨gx, 8, none⟩)) W := fun W => index_ptr9 _ 8 _ rfl (by decide) W
      have HU := Aside0.mk HQ.out
      clear HQ
      go_wp2_with (go_at_call 56; (with_reducible refine (number4 (by repeat (first | (with_reducible first | exact HS.out | apply Sep.SL.drewN | apply Sep.SL.drew | apply Sep.SL.alloc) | exact HS.out)) 0 gr c0 A l0 8 96 (c0 - 32) 92 (c0 - 36) rfl rfl rfl HU.out HB.out (by decide) HC0.out rfl rfl).mono ?_); rintro e w5 ⟨rfl, A2, h5, hq5⟩; have n1_ := Aside0.mk h5; have HQ := Aside0.mk hq5; clear HS h5 hq5 hix; have HS := n1_; clear n1_; have HP := Aside0.mk (HS.out.put 2 rfl 8 (.int .i64 (dec4 l0 8))); have hz := blk_at HS.out 2 rfl 8 _ rfl; have hfz := blk_frozen (HS.out.blk 2 rfl) 8)
      go_roundg 0
      case measure => omega
      case rel => exact ⟨9, A2, rfl, rfl, .inr (.inr (.inr (.inr (.inr (.inr (.inr (.inr (.inr (⟨rfl, HP, HQ⟩)))))))))⟩
    · obtain rfl : gk = 0 := by omega
      clear hik
      go_upto_region 12 with (go_at_call 50; refine (sums_calls gx 9 _).mono ?_; rintro e w6 ⟨rfl, hb_⟩; have n1_ := Aside0.mk (SL.ext (by repeat (first | (with_reducible first | exact HS.out | apply Sep.SL.drewN | apply Sep.SL.drew | apply Sep.SL.alloc) | exact HS.out)) hb_); clear HS hb_; have HS := n1_; clear n1_)
      go_loopg [10, 33] 4 (fun kq v10 v33 wr => ∃ (i : Nat) (A : Option Addr), v33 = .int .i64 (i : Int) ∧ i + kq = 4 ∧ ((i = 0 ∧ Aside0 (SL w wr [blkA gr #[.slice A 92 (c0 - 36)] 96, blkA gs #[.int .i64 0, .int .i64 0, .int .i64 0, .int .i64 0] 23, blkA gx #[.int .i64 (dec4 l0 0), .int .i64 (dec4 l0 1), .int .i64 (dec4 l0 2), .int .i64 (dec4 l0 3), .int .i64 (dec4 l0 4), .int .i64 (dec4 l0 5), .int .i64 (dec4 l0 6), .int .i64 (dec4 l0 7), .int .i64 (dec4 l0 8), .int .i64 0, .int .i64 0, .int .i64 0, .int .i64 0] 27, blkA ge #[.int .i64 0, .int .i64 0, .int .i64 0, .int .i64 0, .int .i64 0, .int .i64 0, .int .i64 0, .int .i64 0, .int .i64 0, .int .i64 0, .int .i64 0, .int .i64 0, .int .i64 0] 27]) ∧ Aside0 (ReadsInt w .u8 A 92 (l0.drop 36))) ∨ (i = 1 ∧ Aside0 (SL w wr [blkA gr #[.slice A 84 (c0 - 44)] 96, blkA gs #[.int .i64 0, .int .i64 0, .int .i64 0, .int .i64 0] 23, blkA gx #[.int .i64 (dec4 l0 0), .int .i64 (dec4 l0 1), .int .i64 (dec4 l0 2), .int .i64 (dec4 l0 3), .int .i64 (dec4 l0 4), .int .i64 (dec4 l0 5), .int .i64 (dec4 l0 6), .int .i64 (dec4 l0 7), .int .i64 (dec4 l0 8), .int .i64 (dec8 l0 36), .int .i64 0, .int .i64 0, .int .i64 0] 27, blkA ge #[.int .i64 0, .int .i64 0, .int .i64 0, .int .i64 0, .int .i64 0, .int .i64 0, .int .i64 0, .int .i64 0, .int .i64 0, .int .i64 0, .int .i64 0, .int .i64 0, .int .i64 0] 27]) ∧ Aside0 (ReadsInt w .u8 A 84 (l0.drop 44))) ∨ (i = 2 ∧ Aside0 (SL w wr [blkA gr #[.slice A 76 (c0 - 52)] 96, blkA gs #[.int .i64 0, .int .i64 0, .int .i64 0, .int .i64 0] 23, blkA gx #[.int .i64 (dec4 l0 0), .int .i64 (dec4 l0 1), .int .i64 (dec4 l0 2), .int .i64 (dec4 l0 3), .int .i64 (dec4 l0 4), .int .i64 (dec4 l0 5), .int .i64 (dec4 l0 6), .int .i64 (dec4 l0 7), .int .i64 (dec4 l0 8), .int .i64 (dec8 l0 36), .int .i64 (dec8 l0 44), .int .i64 0, .int .i64 0] 27, blkA ge #[.int .i64 0, .int .i64 0, .int .i64 0, .int .i64 0, .int .i64 0, .int .i64 0, .int .i64 0, .int .i64 0, .int .i64 0, .int .i64 0, .int .i64 0, .int .i64 0, .int .i64 0] 27]) ∧ Aside0 (ReadsInt w .u8 A 76 (l0.drop 52))) ∨ (i = 3 ∧ Aside0 (SL w wr [blkA gr #[.slice A 68 (c0 - 60)] 96, blkA gs #[.int .i64 0, .int .i64 0, .int .i64 0, .int .i64 0] 23, blkA gx #[.int .i64 (dec4 l0 0), .int .i64 (dec4 l0 1), .int .i64 (dec4 l0 2), .int .i64 (dec4 l0 3), .int .i64 (dec4 l0 4), .int .i64 (dec4 l0 5), .int .i64 (dec4 l0 6), .int .i64 (dec4 l0 7), .int .i64 (dec4 l0 8), .int .i64 (dec8 l0 36), .int .i64 (dec8 l0 44), .int .i64 (dec8 l0 52), .int .i64 0] 27, blkA ge #[.int .i64 0, .int .i64 0, .int .i64 0, .int .i64 0, .int .i64 0, .int .i64 0, .int .i64 0, .int .i64 0, .int .i64 0, .int .i64 0, .int .i64 0, .int .i64 0, .int .i64 0] 27]) ∧ Aside0 (ReadsInt w .u8 A 68 (l0.drop 60))) ∨ (i = 4 ∧ Aside0 (SL w wr [blkA gr #[.slice A 60 (c0 - 68)] 96, blkA gs #[.int .i64 0, .int .i64 0, .int .i64 0, .int .i64 0] 23, blkA gx #[.int .i64 (dec4 l0 0), .int .i64 (dec4 l0 1), .int .i64 (dec4 l0 2), .int .i64 (dec4 l0 3), .int .i64 (dec4 l0 4), .int .i64 (dec4 l0 5), .int .i64 (dec4 l0 6), .int .i64 (dec4 l0 7), .int .i64 (dec4 l0 8), .int .i64 (dec8 l0 36), .int .i64 (dec8 l0 44), .int .i64 (dec8 l0 52), .int .i64 (dec8 l0 60)] 27, blkA ge #[.int .i64 0, .int .i64 0, .int .i64 0, .int .i64 0, .int .i64 0, .int .i64 0, .int .i64 0, .int .i64 0, .int .i64 0, .int .i64 0, .int .i64 0, .int .i64 0, .int .i64 0] 27]) ∧ Aside0 (ReadsInt w .u8 A 60 (l0.drop 68)))))
      case atStart => exact ⟨0, _, rfl, rfl, .inl ⟨rfl, HS, HQ⟩⟩
      case round =>
        clear HS
        obtain ⟨i, A, rfl, hik, hcase⟩ := hrel
        rcases hcase with ⟨rfl, HS, HQ⟩ | ⟨rfl, HS, HQ⟩ | ⟨rfl, HS, HQ⟩ | ⟨rfl, HS, HQ⟩ | ⟨rfl, HS, HQ⟩
        · obtain rfl : gk = 4 := by omega
          clear hik
          have hix : ∀ W : World, (Instr.index 88 (.agg #[.pointer (some ⟨gx, 9, none⟩), .pointer (some ⟨gx, 10, none⟩), .pointer (some ⟨gx, 11, none⟩), .pointer (some ⟨gx, 12, none⟩)]) (.int .i64 0)).run Try.prog W = .ok (.pointer (some ⟨gx, 9, none⟩)) W := fun W => index_ptr4 _ 0 _ rfl (by decide) W
          have HU := Aside0.mk HQ.out
          clear HQ
          go_wp2_with (go_at_call 56; (with_reducible refine (number8 (by repeat (first | (with_reducible first | exact HS.out | apply Sep.SL.drewN | apply Sep.SL.drew | apply Sep.SL.alloc) | exact HS.out)) 0 gr c0 A l0 36 92 (c0 - 36) 84 (c0 - 44) rfl rfl rfl HU.out HB.out (by decide) HC0.out rfl rfl).mono ?_); rintro e w5 ⟨rfl, A2, h5, hq5⟩; have n1_ := Aside0.mk h5; have HQ := Aside0.mk hq5; clear HS h5 hq5 hix; have HS := n1_; clear n1_; have HP := Aside0.mk (HS.out.put 2 rfl 9 (.int .i64 (dec8 l0 36))); have hz := blk_at HS.out 2 rfl 9 _ rfl; have hfz := blk_frozen (HS.out.blk 2 rfl) 9)
          go_roundg 3
          case measure => omega
          case rel => exact ⟨1, A2, rfl, rfl, .inr (.inl ⟨rfl, HP, HQ⟩)⟩
        · obtain rfl : gk = 3 := by omega
          clear hik
          have hix : ∀ W : World, (Instr.index 88 (.agg #[.pointer (some ⟨gx, 9, none⟩), .pointer (some ⟨gx, 10, none⟩), .pointer (some ⟨gx, 11, none⟩), .pointer (some ⟨gx, 12, none⟩)]) (.int .i64 1)).run Try.prog W = .ok (.pointer (some ⟨gx, 10, none⟩)) W := fun W => index_ptr4 _ 1 _ rfl (by decide) W
          have HU := Aside0.mk HQ.out
          clear HQ
          go_wp2_with (go_at_call 56; (with_reducible refine (number8 (by repeat (first | (with_reducible first | exact HS.out | apply Sep.SL.drewN | apply Sep.SL.drew | apply Sep.SL.alloc) | exact HS.out)) 0 gr c0 A l0 44 84 (c0 - 44) 76 (c0 - 52) rfl rfl rfl HU.out HB.out (by decide) HC0.out rfl rfl).mono ?_); rintro e w5 ⟨rfl, A2, h5, hq5⟩; have n1_ := Aside0.mk h5; have HQ := Aside0.mk hq5; clear HS h5 hq5 hix; have HS := n1_; clear n1_; have HP := Aside0.mk (HS.out.put 2 rfl 10 (.int .i64 (dec8 l0 44))); have hz := blk_at HS.out 2 rfl 10 _ rfl; have hfz := blk_frozen (HS.out.blk 2 rfl) 10)
          go_roundg 2
          case measure => omega
          case rel => exact ⟨2, A2, rfl, rfl, .inr (.inr (.inl ⟨rfl, HP, HQ⟩))⟩
        · obtain rfl : gk = 2 := by omega
          clear hik
          have hix : ∀ W : World, (Instr.index 88 (.agg #[.pointer (some ⟨gx, 9, none⟩), .pointer (some ⟨gx, 10, none⟩), .pointer (some ⟨gx, 11, none⟩), .pointer (some ⟨gx, 12, none⟩)]) (.int .i64 2)).run Try.prog W = .ok (.pointer (some ⟨gx, 11, none⟩)) W := fun W => index_ptr4 _ 2 _ rfl (by decide) W
          have HU := Aside0.mk HQ.out
          clear HQ
          go_wp2_with (go_at_call 56; (with_reducible refine (number8 (by repeat (first | (with_reducible first | exact HS.out | apply Sep.SL.drewN | apply Sep.SL.drew | apply Sep.SL.alloc) | exact HS.out)) 0 gr c0 A l0 52 76 (c0 - 52) 68 (c0 - 60) rfl rfl rfl HU.out HB.out (by decide) HC0.out rfl rfl).mono ?_); rintro e w5 ⟨rfl, A2, h5, hq5⟩; have n1_ := Aside0.mk h5; have HQ := Aside0.mk hq5; clear HS h5 hq5 hix; have HS := n1_; clear n1_; have HP := Aside0.mk (HS.out.put 2 rfl 11 (.int .i64 (dec8 l0 52))); have hz := blk_at HS.out 2 rfl 11 _ rfl; have hfz := blk_frozen (HS.out.blk 2 rfl) 11)
          go_roundg 1
          case measure => omega
          case rel => exact ⟨3, A2, rfl, rfl, .inr (.inr (.inr (.inl ⟨rfl, HP, HQ⟩)))⟩
        · obtain rfl : gk = 1 := by omega
          clear hik
          have hix : ∀ W : World, (Instr.index 88 (.agg #[.pointer (some ⟨gx, 9, none⟩), .pointer (some ⟨gx, 10, none⟩), .pointer (some ⟨gx, 11, none⟩), .pointer (some ⟨gx, 12, none⟩)]) (.int .i64 3)).run Try.prog W = .ok (.pointer (some ⟨gx, 12, none⟩)) W := fun W => index_ptr4 _ 3 _ rfl (by decide) W
          have HU := Aside0.mk HQ.out
          clear HQ
          go_wp2_with (go_at_call 56; (with_reducible refine (number8 (by repeat (first | (with_reducible first | exact HS.out | apply Sep.SL.drewN | apply Sep.SL.drew | apply Sep.SL.alloc) | exact HS.out)) 0 gr c0 A l0 60 68 (c0 - 60) 60 (c0 - 68) rfl rfl rfl HU.out HB.out (by decide) HC0.out rfl rfl).mono ?_); rintro e w5 ⟨rfl, A2, h5, hq5⟩; have n1_ := Aside0.mk h5; have HQ := Aside0.mk hq5; clear HS h5 hq5 hix; have HS := n1_; clear n1_; have HP := Aside0.mk (HS.out.put 2 rfl 12 (.int .i64 (dec8 l0 60))); have hz := blk_at HS.out 2 rfl 12 _ rfl; have hfz := blk_frozen (HS.out.blk 2 rfl) 12)
          go_roundg 0
          case measure => omega
          case rel => exact ⟨4, A2, rfl, rfl, .inr (.inr (.inr (.inr (⟨rfl, HP, HQ⟩))))⟩
        · obtain rfl : gk = 0 := by omega
          clear hik
          obtain ⟨i0, hi, hz0, hz1, hz2⟩ := info_parts infoB
          obtain ⟨A9, hcut, hA9⟩ := print_cut (P := Try.prog) 28 5 .i64 Try.underlying28 hi hz1 A0 128 c0 96 (by decide)
          have hcut9 : ∀ W : World, (Instr.slice 28 (.slice A0 128 c0) (some (.int .i64 96)) none none).run Try.prog W = .ok (.slice A9 32 (c0 - 96)) W := hcut
          have HQ := Aside0.mk (hA9 w .u8 l0 HC0.out HR.out)
          clear hcut hA9 hi hz0 hz1 hz2
          have hz := HS.out.c0 0 rfl
          have HP := Aside0.mk (HS.out.put 0 rfl 0 (.slice A9 32 (c0 - 96)))
          clear HS
          go_upto_region 17 with (fail)
          have HS := HP
          clear HP hz hcut9
          generalize World.setCell _ _ _ = w7 at HS ⊢
          go_upto_region 18 with (go_at_call 50; refine (sums_calls gs 0 _).mono ?_; rintro e w6 ⟨rfl, hb_⟩; have n1_ := Aside0.mk (SL.ext (by repeat (first | (with_reducible first | exact HS.out | apply Sep.SL.drewN | apply Sep.SL.drew | apply Sep.SL.alloc) | exact HS.out)) hb_); clear HS hb_; have HS := n1_; clear n1_)
          go_loopg [12, 43] 4 (fun kq v12 v43 wr => ∃ (i : Nat) (A : Option Addr), v43 = .int .i64 (i : Int) ∧ i + kq = 4 ∧ ((i = 0 ∧ Aside0 (SL w wr [blkA gr #[.slice A 32 (c0 - 96)] 96, blkA gs #[.int .i64 0, .int .i64 0, .int .i64 0, .int .i64 0] 23, blkA gx #[.int .i64 (dec4 l0 0), .int .i64 (dec4 l0 1), .int .i64 (dec4 l0 2), .int .i64 (dec4 l0 3), .int .i64 (dec4 l0 4), .int .i64 (dec4 l0 5), .int .i64 (dec4 l0 6), .int .i64 (dec4 l0 7), .int .i64 (dec4 l0 8), .int .i64 (dec8 l0 36), .int .i64 (dec8 l0 44), .int .i64 (dec8 l0 52), .int .i64 (dec8 l0 60)] 27, blkA ge #[.int .i64 0, .int .i64 0, .int .i64 0, .int .i64 0, .int .i64 0, .int .i64 0, .int .i64 0, .int .i64 0, .int .i64 0, .int .i64 0, .int .i64 0, .int .i64 0, .int .i64 0] 27]) ∧ Aside0 (ReadsInt w .u8 A 32 (l0.drop 96))) ∨ (i = 1 ∧ Aside0 (SL w wr [blkA gr #[.slice A 24 (c0 - 104)] 96, blkA gs #[.int .i64 (dec8 l0 96), .int .i64 0, .int .i64 0, .int .i64 0] 23, blkA gx #[.int .i64 (dec4 l0 0), .int .i64 (dec4 l0 1), .int .i64 (dec4 l0 2), .int .i64 (dec4 l0 3), .int .i64 (dec4 l0 4), .int .i64 (dec4 l0 5), .int .i64 (dec4 l0 6), .int .i64 (dec4 l0 7), .int .i64 (dec4 l0 8), .int .i64 (dec8 l0 36), .int .i64 (dec8 l0 44), .int .i64 (dec8 l0 52), .int .i64 (dec8 l0 60)] 27, blkA ge #[.int .i64 0, .int .i64 0, .int .i64 0, .int .i64 0, .int .i64 0, .int .i64 0, .int .i64 0, .int .i64 0, .int .i64 0, .int .i64 0, .int .i64 0, .int .i64 0, .int .i64 0] 27]) ∧ Aside0 (ReadsInt w .u8 A 24 (l0.drop 104))) ∨ (i = 2 ∧ Aside0 (SL w wr [blkA gr #[.slice A 16 (c0 - 112)] 96, blkA gs #[.int .i64 (dec8 l0 96), .int .i64 (dec8 l0 104), .int .i64 0, .int .i64 0] 23, blkA gx #[.int .i64 (dec4 l0 0), .int .i64 (dec4 l0 1), .int .i64 (dec4 l0 2), .int .i64 (dec4 l0 3), .int .i64 (dec4 l0 4), .int .i64 (dec4 l0 5), .int .i64 (dec4 l0 6), .int .i64 (dec4 l0 7), .int .i64 (dec4 l0 8), .int .i64 (dec8 l0 36), .int .i64 (dec8 l0 44), .int .i64 (dec8 l0 52), .int .i64 (dec8 l0 60)] 27, blkA ge #[.int .i64 0, .int .i64 0, .int .i64 0, .int .i64 0, .int .i64 0, .int .i64 0, .int .i64 0, .int .i64 0, .int .i64 0, .int .i64 0, .int .i64 0, .int .i64 0, .int .i64 0] 27]) ∧ Aside0 (ReadsInt w .u8 A 16 (l0.drop 112))) ∨ (i = 3 ∧ Aside0 (SL w wr [blkA gr #[.slice A 8 (c0 - 120)] 96, blkA gs #[.int .i64 (dec8 l0 96), .int .i64 (dec8 l0 104), .int .i64 (dec8 l0 112), .int .i64 0] 23, blkA gx #[.int .i64 (dec4 l0 0), .int .i64 (dec4 l0 1), .int .i64 (dec4 l0 2), .int .i64 (dec4 l0 3), .int .i64 (dec4 l0 4), .int .i64 (dec4 l0 5), .int .i64 (dec4 l0 6), .int .i64 (dec4 l0 7), .int .i64 (dec4 l0 8), .int .i64 (dec8 l0 36), .int .i64 (dec8 l0 44), .int .i64 (dec8 l0 52), .int .i64 (dec8 l0 60)] 27, blkA ge #[.int .i64 0, .int .i64 0, .int .i64 0, .int .i64 0, .int .i64 0, .int .i64 0, .int .i64 0, .int .i64 0, .int .i64 0, .int .i64 0, .int .i64 0, .int .i64 0, .int .i64 0] 27]) ∧ Aside0 (ReadsInt w .u8 A 8 (l0.drop 120))) ∨ (i = 4 ∧ Aside0 (SL w wr [blkA gr #[.slice A 0 (c0 - 128)] 96, blkA gs #[.int .i64 (dec8 l0 96), .int .i64 (dec8 l0 104), .int .i64 (dec8 l0 112), .int .i64 (dec8 l0 120)] 23, blkA gx #[.int .i64 (dec4 l0 0), .int .i64 (dec4 l0 1), .int .i64 (dec4 l0 2), .int .i64 (dec4 l0 3), .int .i64 (dec4 l0 4), .int .i64 (dec4 l0 5), .int .i64 (dec4 l0 6), .int .i64 (dec4 l0 7), .int .i64 (dec4 l0 8), .int .i64 (dec8 l0 36), .int .i64 (dec8 l0 44), .int .i64 (dec8 l0 52), .int .i64 (dec8 l0 60)] 27, blkA ge #[.int .i64 0, .int .i64 0, .int .i64 0, .int .i64 0, .int .i64 0, .int .i64 0, .int .i64 0, .int .i64 0, .int .i64 0, .int .i64 0, .int .i64 0, .int .i64 0, .int .i64 0] 27]) ∧ Aside0 (ReadsInt w .u8 A 0 (l0.drop 128)))))
          case atStart => exact ⟨0, _, rfl, rfl, .inl ⟨rfl, HS, HQ⟩⟩
          case round =>
            clear HS
            obtain ⟨i, A, rfl, hik, hcase⟩ := hrel
            rcases hcase with ⟨rfl, HS, HQ⟩ | ⟨rfl, HS, HQ⟩ | ⟨rfl, HS, HQ⟩ | ⟨rfl, HS, HQ⟩ | ⟨rfl, HS, HQ⟩
            · obtain rfl : gk = 4 := by omega
              clear hik
              have hix : ∀ W : World, (Instr.index 88 (.agg #[.pointer (some ⟨gs, 0, none⟩), .pointer (some ⟨gs, 1, none⟩), .pointer (some ⟨gs, 2, none⟩), .pointer (some ⟨gs, 3, none⟩)]) (.int .i64 0)).run Try.prog W = .ok (.pointer (some ⟨gs, 0, none⟩)) W := fun W => index_ptr4 _ 0 _ rfl (by decide) W
              have HU := Aside0.mk HQ.out
              clear HQ
              go_wp2_with (go_at_call 56; (with_reducible refine (number8 (by repeat (first | (with_reducible first | exact HS.out | apply Sep.SL.drewN | apply Sep.SL.drew | apply Sep.SL.alloc) | exact HS.out)) 0 gr c0 A l0 96 32 (c0 - 96) 24 (c0 - 104) rfl rfl rfl HU.out HB.out (by decide) HC0.out rfl rfl).mono ?_); rintro e w5 ⟨rfl, A2, h5, hq5⟩; have n1_ := Aside0.mk h5; have HQ := Aside0.mk hq5; clear HS h5 hq5 hix; have HS := n1_; clear n1_; have HP := Aside0.mk (HS.out.put 1 rfl 0 (.int .i64 (dec8 l0 96))); have hz := blk_at HS.out 1 rfl 0 _ rfl; have hfz := blk_frozen (HS.out.blk 1 rfl) 0)
              go_roundg 3
              case measure => omega
              case rel => exact ⟨1, A2, rfl, rfl, .inr (.inl ⟨rfl, HP, HQ⟩)⟩
            · obtain rfl : gk = 3 := by omega
              clear hik
              have hix : ∀ W : World, (Instr.index 88 (.agg #[.pointer (some ⟨gs, 0, none⟩), .pointer (some ⟨gs, 1, none⟩), .pointer (some ⟨gs, 2, none⟩), .pointer (some ⟨gs, 3, none⟩)]) (.int .i64 1)).run Try.prog W = .ok (.pointer (some ⟨gs, 1, none⟩)) W := fun W => index_ptr4 _ 1 _ rfl (by decide) W
              have HU := Aside0.mk HQ.out
              clear HQ
              go_wp2_with (go_at_call 56; (with_reducible refine (number8 (by repeat (first | (with_reducible first | exact HS.out | apply Sep.SL.drewN | apply Sep.SL.drew | apply Sep.SL.alloc) | exact HS.out)) 0 gr c0 A l0 104 24 (c0 - 104) 16 (c0 - 112) rfl rfl rfl HU.out HB.out (by decide) HC0.out rfl rfl).mono ?_); rintro e w5 ⟨rfl, A2, h5, hq5⟩; have n1_ := Aside0.mk h5; have HQ := Aside0.mk hq5; clear HS h5 hq5 hix; have HS := n1_; clear n1_; have HP := Aside0.mk (HS.out.put 1 rfl 1 (.int .i64 (dec8 l0 104))); have hz := blk_at HS.out 1 rfl 1 _ rfl; have hfz := blk_frozen (HS.out.blk 1 rfl) 1)
              go_roundg 2
              case measure => omega
              case rel => exact ⟨2, A2, rfl, rfl, .inr (.inr (.inl ⟨rfl, HP, HQ⟩))⟩
            · obtain rfl : gk = 2 := by omega
              clear hik
              have hix : ∀ W : World, (Instr.index 88 (.agg #[.pointer (some ⟨gs, 0, none⟩), .pointer (some ⟨gs, 1, none⟩), .pointer (some ⟨gs, 2, none⟩), .pointer (some ⟨gs, 3, none⟩)]) (.int .i64 2)).run Try.prog W = .ok (.pointer (some ⟨gs, 2, none⟩)) W := fun W => index_ptr4 _ 2 _ rfl (by decide) W
              have HU := Aside0.mk HQ.out
              clear HQ
              go_wp2_with (go_at_call 56; (with_reducible refine (number8 (by repeat (first | (with_reducible first | exact HS.out | apply Sep.SL.drewN | apply Sep.SL.drew | apply Sep.SL.alloc) | exact HS.out)) 0 gr c0 A l0 112 16 (c0 - 112) 8 (c0 - 120) rfl rfl rfl HU.out HB.out (by decide) HC0.out rfl rfl).mono ?_); rintro e w5 ⟨rfl, A2, h5, hq5⟩; have n1_ := Aside0.mk h5; have HQ := Aside0.mk hq5; clear HS h5 hq5 hix; have HS := n1_; clear n1_; have HP := Aside0.mk (HS.out.put 1 rfl 2 (.int .i64 (dec8 l0 112))); have hz := blk_at HS.out 1 rfl 2 _ rfl; have hfz := blk_frozen (HS.out.blk 1 rfl) 2)
              go_roundg 1
              case measure => omega
              case rel => exact ⟨3, A2, rfl, rfl, .inr (.inr (.inr (.inl ⟨rfl, HP, HQ⟩)))⟩
            · obtain rfl : gk = 1 := by omega
              clear hik
              have hix : ∀ W : World, (Instr.index 88 (.agg #[.pointer (some ⟨gs, 0, none⟩), .pointer (some ⟨gs, 1, none⟩), .pointer (some ⟨gs, 2, none⟩), .pointer (some ⟨gs, 3, none⟩)]) (.int .i64 3)).run Try.prog W = .ok (.pointer (some ⟨gs, 3, none⟩)) W := fun W => index_ptr4 _ 3 _ rfl (by decide) W
              have HU := Aside0.mk HQ.out
              clear HQ
              go_wp2_with (go_at_call 56; (with_reducible refine (number8 (by repeat (first | (with_reducible first | exact HS.out | apply Sep.SL.drewN | apply Sep.SL.drew | apply Sep.SL.alloc) | exact HS.out)) 0 gr c0 A l0 120 8 (c0 - 120) 0 (c0 - 128) rfl rfl rfl HU.out HB.out (by decide) HC0.out rfl rfl).mono ?_); rintro e w5 ⟨rfl, A2, h5, hq5⟩; have n1_ := Aside0.mk h5; have HQ := Aside0.mk hq5; clear HS h5 hq5 hix; have HS := n1_; clear n1_; have HP := Aside0.mk (HS.out.put 1 rfl 3 (.int .i64 (dec8 l0 120))); have hz := blk_at HS.out 1 rfl 3 _ rfl; have hfz := blk_frozen (HS.out.blk 1 rfl) 3)
              go_roundg 0
              case measure => omega
              case rel => exact ⟨4, A2, rfl, rfl, .inr (.inr (.inr (.inr (⟨rfl, HP, HQ⟩))))⟩
            · obtain rfl : gk = 0 := by omega
              clear hik
              have HK : Aside0 (Kd.C (Kd.int .u8) w A0 96 (l0.take 96)) := ⟨Kd.C_of_reads (d := 0) (readsInt_of.1 (HR.out.take_ 96 (by decide)))⟩
              have hl96 : (l0.take 96).length = 96 := by rw [List.length_take, HR.out.1]; rfl
              obtain ⟨s1, hs1⟩ : ∃ r, r = (sumL 0 0 0 0 (l0.take 96)).1 := ⟨_, rfl⟩
              obtain ⟨s2, hs2⟩ : ∃ r, r = (sumL 0 0 0 0 (l0.take 96)).2.1 := ⟨_, rfl⟩
              obtain ⟨s3, hs3⟩ : ∃ r, r = (sumL 0 0 0 0 (l0.take 96)).2.2.1 := ⟨_, rfl⟩
              obtain ⟨s4, hs4⟩ : ∃ r, r = (sumL 0 0 0 0 (l0.take 96)).2.2.2 := ⟨_, rfl⟩
              have HOF : Aside0 (∀ (w' : World), Kd.C (Kd.int .u8) w' A0 96 (l0.take 96) → Calls Try.prog 51 #[.slice A0 96 c0] w' fun e w'' => e = .returned (.tuple #[four s1 s2 s3 s4, .int .i64 0]) ∧ Below w'.heap.size w' w'') := ⟨fun w' hC => by
                have h1 := of_words (l0.take 96) A0 c0 w' (by rw [hl96]; exact hC) (by rw [hl96]; have := HC0.out; omega) s1 s2 s3 s4 0 (fun A cap w hC hc => by rw [hs1, hs2, hs3, hs4]; exact more_calls 24 0 0 0 0 A cap (l0.take 96) w hC hc (by rw [hl96]) (fun x hx => HB.out x (List.mem_of_mem_take hx)))
                rw [hl96] at h1
                exact h1⟩
              have HSU := Aside0.mk (And.intro hs1 (And.intro hs2 (And.intro hs3 hs4)))
              clear hs1 hs2 hs3 hs4 hl96
              have hc96 : (96 ≤ c0) = True := eq_true (by have := HC0.out; omega)
              have hc96i : ((96 : Int) ≤ (c0 : Int)) = True := eq_true (by have := HC0.out; omega)
              go_upto_region 23 with (go_at_call 51; (with_reducible refine (HOF.out _ ?hk_).mono ?_); (case hk_ => exact Kd.C_below HK.out (SL.below (w0 := w) (by repeat (first | (with_reducible first | exact HS.out | apply Sep.SL.drewN | apply Sep.SL.drew | apply Sep.SL.alloc) | exact HS.out)))); rintro e w8 ⟨rfl, hb_⟩; have n1_ := Aside0.mk (SL.ext (by repeat (first | (with_reducible first | exact HS.out | apply Sep.SL.drewN | apply Sep.SL.drew | apply Sep.SL.alloc) | exact HS.out)) hb_); clear HS hb_; have HS := n1_; clear n1_)
              clear hc96 hc96i HOF HK
              have HS := Aside0.mk (HS.out.allocBlk #[.int .i64 s1, .int .i64 s2, .int .i64 s3, .int .i64 s4] 23)
              generalize w8.heap.size = gt at HS ⊢
              generalize World.alloc _ _ = w9 at HS ⊢
              have HSZ : Aside0 ((Try.prog.info? 27).map (·.size) = some 13) := ⟨by kernel_rfl⟩
              have hul := Try.underlying27
              have hus := Try.underlying23
              by_cases he : sumL 0 0 0 0 (l0.take 96) = ((dec8 l0 96), (dec8 l0 104), (dec8 l0 112), (dec8 l0 120))
              · obtain ⟨e1, e2, e3, e4⟩ := HSU.out
                rw [he] at e1 e2 e3 e4
                simp only at e1 e2 e3 e4
                subst e1 e2 e3 e4
                have HE := Aside0.mk he
                clear he HSU
                have hy0 := blk_at HS.out 0 rfl 0 _ rfl
                have hy1 := blk_at HS.out 0 rfl 1 _ rfl
                have hy2 := blk_at HS.out 0 rfl 2 _ rfl
                have hy3 := blk_at HS.out 0 rfl 3 _ rfl
                have hq0 := blk_at HS.out 2 rfl 0 _ rfl
                have hq1 := blk_at HS.out 2 rfl 1 _ rfl
                have hq2 := blk_at HS.out 2 rfl 2 _ rfl
                have hq3 := blk_at HS.out 2 rfl 3 _ rfl
                go_upto_region 25 with (fail)
                clear hy0 hy1 hy2 hy3 hq0 hq1 hq2 hq3
                have hx0 := blk_at HS.out 3 rfl 0 _ rfl
                have hx1 := blk_at HS.out 3 rfl 1 _ rfl
                have hx2 := blk_at HS.out 3 rfl 2 _ rfl
                have hx3 := blk_at HS.out 3 rfl 3 _ rfl
                have hx4 := blk_at HS.out 3 rfl 4 _ rfl
                have hx5 := blk_at HS.out 3 rfl 5 _ rfl
                have hx6 := blk_at HS.out 3 rfl 6 _ rfl
                have hx7 := blk_at HS.out 3 rfl 7 _ rfl
                have hx8 := blk_at HS.out 3 rfl 8 _ rfl
                have hx9 := blk_at HS.out 3 rfl 9 _ rfl
                have hx10 := blk_at HS.out 3 rfl 10 _ rfl
                have hx11 := blk_at HS.out 3 rfl 11 _ rfl
                have hx12 := blk_at HS.out 3 rfl 12 _ rfl
                cases hm : label_May.f (dec4 l0 0) (dec4 l0 1) (dec4 l0 2) (dec4 l0 3) (dec4 l0 4) (dec4 l0 5) (dec4 l0 6) (dec4 l0 7) (dec4 l0 8) (dec8 l0 36) (dec8 l0 44) (dec8 l0 52) (dec8 l0 60) with
                | none => exact absurd HH.out (by unfold decR; rw [if_pos HE.out, hm]; simp)
                | some t =>
                  have HM := Aside0.mk hm
                  clear hm
                  cases t with
                  | false =>
                    have hd : decR l0 = some (badR 4) := by unfold decR; rw [if_pos HE.out, HM.out]; rfl
                    have hr := HH.out
                    rw [hd] at hr
                    have HRR := Aside0.mk hr
                    clear hd hr
                    go_upto_region 26 with (go_at_call 15; refine (label_Encode.calls 0 (dec4 l0 0) (dec4 l0 1) (dec4 l0 2) (dec4 l0 3) (dec4 l0 4) (dec4 l0 5) (dec4 l0 6) (dec4 l0 7) (dec4 l0 8) (dec8 l0 36) (dec8 l0 44) (dec8 l0 52) (dec8 l0 60) [] 4 _ (by unfold label_Encode.f; rw [HM.out]; rfl)).mono ?_; rintro e w10 ⟨v0_, rfl, hR10, hb10⟩; have n1_ := Aside0.mk (SL.ext (by repeat (first | (with_reducible first | exact HS.out | apply Sep.SL.drewN | apply Sep.SL.drew | apply Sep.SL.alloc) | exact HS.out)) hb10); clear HS hb10 hR10 hx0 hx1 hx2 hx3 hx4 hx5 hx6 hx7 hx8 hx9 hx10 hx11 hx12; have HS := n1_; clear n1_)
                    have he0 := blk_at HS.out 4 rfl 0 _ rfl
                    have he1 := blk_at HS.out 4 rfl 1 _ rfl
                    have he2 := blk_at HS.out 4 rfl 2 _ rfl
                    have he3 := blk_at HS.out 4 rfl 3 _ rfl
                    have he4 := blk_at HS.out 4 rfl 4 _ rfl
                    have he5 := blk_at HS.out 4 rfl 5 _ rfl
                    have he6 := blk_at HS.out 4 rfl 6 _ rfl
                    have he7 := blk_at HS.out 4 rfl 7 _ rfl
                    have he8 := blk_at HS.out 4 rfl 8 _ rfl
                    have he9 := blk_at HS.out 4 rfl 9 _ rfl
                    have he10 := blk_at HS.out 4 rfl 10 _ rfl
                    have he11 := blk_at HS.out 4 rfl 11 _ rfl
                    have he12 := blk_at HS.out 4 rfl 12 _ rfl
                    have hef := fun i => blk_frozen (HS.out.blk 4 rfl) i
                    have h2_ := SL.putAll HS.out 4 rfl [.int .i64 0, .int .i64 0, .int .i64 0, .int .i64 0, .int .i64 0, .int .i64 0, .int .i64 0, .int .i64 0, .int .i64 0, .int .i64 0, .int .i64 0, .int .i64 0, .int .i64 0] rfl
                    simp only [puts, Nat.zero_add, Nat.reduceAdd] at h2_
                    have HS2 := Aside0.mk h2_
                    clear h2_
                    go_wp2_with (fail)
                    refine bodyPost_ret (v := .tuple #[.agg #[.int .i64 0, .int .i64 0, .int .i64 0, .int .i64 0, .int .i64 0, .int .i64 0, .int .i64 0, .int .i64 0, .int .i64 0, .int .i64 0, .int .i64 0, .int .i64 0, .int .i64 0], .int .i64 4]) (results_cell_tmp rfl _ _ ge 27 #[.int .i64 0, .int .i64 0, .int .i64 0, .int .i64 0, .int .i64 0, .int .i64 0, .int .i64 0, .int .i64 0, .int .i64 0, .int .i64 0, .int .i64 0, .int .i64 0, .int .i64 0] (0, 0) _ rfl (HS2.out.blk 4 rfl) (.int .i64 4) rfl hul rfl HSZ.out) rfl ⟨?_, SL.below HS2.out⟩
                    have h1 := Option.some.inj HRR.out
                    try unfold badR at h1
                    simp only [Prod.mk.injEq] at h1
                    obtain ⟨rfl, rfl, rfl, rfl, rfl, rfl, rfl, rfl, rfl, rfl, rfl, rfl, rfl, rfl⟩ := h1
                    rfl
                  | true =>
                    obtain ⟨eb, heb⟩ : ∃ eb, eb = encL (dec4 l0 0) (dec4 l0 1) (dec4 l0 2) (dec4 l0 3) (dec4 l0 4) (dec4 l0 5) (dec4 l0 6) (dec4 l0 7) (dec4 l0 8) (dec8 l0 36) (dec8 l0 44) (dec8 l0 52) (dec8 l0 60) := ⟨_, rfl⟩
                    have HEB := Aside0.mk heb
                    have hebl : eb.length ≤ 5000 := by rw [heb]; unfold encL; rw [show (sealL (encB (dec4 l0 0) (dec4 l0 1) (dec4 l0 2) (dec4 l0 3) (dec4 l0 4) (dec4 l0 5) (dec4 l0 6) (dec4 l0 7) (dec4 l0 8) (dec8 l0 36) (dec8 l0 44) (dec8 l0 52) (dec8 l0 60))).length = (encB (dec4 l0 0) (dec4 l0 1) (dec4 l0 2) (dec4 l0 3) (dec4 l0 4) (dec4 l0 5) (dec4 l0 6) (dec4 l0 7) (dec4 l0 8) (dec8 l0 36) (dec8 l0 44) (dec8 l0 52) (dec8 l0 60)).length + 32 from by simp [sealL, lowB_length], encB_length]; decide
                    obtain ⟨kq, hkq⟩ := eqb_is eb l0 hebl
                    have HKQ := Aside0.mk hkq
                    clear hkq heb hebl
                    go_upto_region 26 with (go_at_call 15; refine (label_Encode.calls 0 (dec4 l0 0) (dec4 l0 1) (dec4 l0 2) (dec4 l0 3) (dec4 l0 4) (dec4 l0 5) (dec4 l0 6) (dec4 l0 7) (dec4 l0 8) (dec8 l0 36) (dec8 l0 44) (dec8 l0 52) (dec8 l0 60) eb 0 _ (by unfold label_Encode.f; rw [HM.out, HEB.out]; rfl)).mono ?_; rintro e w10 ⟨v0_, rfl, hR10, hb10⟩; obtain ⟨Ab, cb, e0⟩ := Kd.R_slice hR10; subst e0; have HR10 := Aside0.mk hR10; have n1_ := Aside0.mk (SL.ext (by repeat (first | (with_reducible first | exact HS.out | apply Sep.SL.drewN | apply Sep.SL.drew | apply Sep.SL.alloc) | exact HS.out)) hb10); clear HS hb10 hR10 hx0 hx1 hx2 hx3 hx4 hx5 hx6 hx7 hx8 hx9 hx10 hx11 hx12; have HS := n1_; clear n1_)
                    have HQC : Aside0 (Calls Try.prog 57 #[.slice Ab eb.length cb, .slice A0 128 c0] w10 fun e w'' => e = .returned (.bool (decide (eb = l0))) ∧ Drawn0 w10 w'') := ⟨by
                      have hC0 : Kd.C (Kd.int .u8) w A0 l0.length l0 := by rw [HR.out.1]; exact Kd.C_of_reads (d := 0) (readsInt_of.1 HR.out)
                      have h1 := slices_Equal_byte_byte.calls kq Ab cb eb A0 c0 l0 _ w10 (Kd.R_reads' HR10.out).2.2 (Kd.R_reads' HR10.out).2.1 (Kd.C_below hC0 (SL.below HS.out)) (by rw [HR.out.1]; exact HC0.out) HKQ.out
                      rw [HR.out.1] at h1
                      exact h1⟩
                    by_cases hq : eb = l0
                    · rw [decide_eq_true hq] at HQC
                      have hd : decR l0 = some ((dec4 l0 0), (dec4 l0 1), (dec4 l0 2), (dec4 l0 3), (dec4 l0 4), (dec4 l0 5), (dec4 l0 6), (dec4 l0 7), (dec4 l0 8), (dec8 l0 36), (dec8 l0 44), (dec8 l0 52), (dec8 l0 60), 0) := by unfold decR; rw [if_pos HE.out, HM.out, Option.bind_some, if_pos rfl, if_pos (HEB.out.symm.trans hq)]
                      have hr := HH.out
                      rw [hd] at hr
                      have HRR := Aside0.mk hr
                      clear hd hr hq
                      go_upto_region 28 with (go_at_call 57; refine HQC.out.mono ?_; rintro e w11 ⟨rfl, ⟨nd, rfl⟩⟩; have n1_ := Aside0.mk (SL.drewN HS.out nd); clear HS; have HS := n1_; clear n1_)
                      generalize World.drewN _ _ = w12 at HS ⊢
                      generalize (dec4 l0 0) = y0 at HS HRR
                      generalize (dec4 l0 1) = y1 at HS HRR
                      generalize (dec4 l0 2) = y2 at HS HRR
                      generalize (dec4 l0 3) = y3 at HS HRR
                      generalize (dec4 l0 4) = y4 at HS HRR
                      generalize (dec4 l0 5) = y5 at HS HRR
                      generalize (dec4 l0 6) = y6 at HS HRR
                      generalize (dec4 l0 7) = y7 at HS HRR
                      generalize (dec4 l0 8) = y8 at HS HRR
                      generalize (dec8 l0 36) = y9 at HS HRR
                      generalize (dec8 l0 44) = y10 at HS HRR
                      generalize (dec8 l0 52) = y11 at HS HRR
                      generalize (dec8 l0 60) = y12 at HS HRR
                      have hx0 := blk_at HS.out 3 rfl 0 _ rfl
                      have hx1 := blk_at HS.out 3 rfl 1 _ rfl
                      have hx2 := blk_at HS.out 3 rfl 2 _ rfl
                      have hx3 := blk_at HS.out 3 rfl 3 _ rfl
                      have hx4 := blk_at HS.out 3 rfl 4 _ rfl
                      have hx5 := blk_at HS.out 3 rfl 5 _ rfl
                      have hx6 := blk_at HS.out 3 rfl 6 _ rfl
                      have hx7 := blk_at HS.out 3 rfl 7 _ rfl
                      have hx8 := blk_at HS.out 3 rfl 8 _ rfl
                      have hx9 := blk_at HS.out 3 rfl 9 _ rfl
                      have hx10 := blk_at HS.out 3 rfl 10 _ rfl
                      have hx11 := blk_at HS.out 3 rfl 11 _ rfl
                      have hx12 := blk_at HS.out 3 rfl 12 _ rfl
                      have he0 := blk_at HS.out 4 rfl 0 _ rfl
                      have he1 := blk_at HS.out 4 rfl 1 _ rfl
                      have he2 := blk_at HS.out 4 rfl 2 _ rfl
                      have he3 := blk_at HS.out 4 rfl 3 _ rfl
                      have he4 := blk_at HS.out 4 rfl 4 _ rfl
                      have he5 := blk_at HS.out 4 rfl 5 _ rfl
                      have he6 := blk_at HS.out 4 rfl 6 _ rfl
                      have he7 := blk_at HS.out 4 rfl 7 _ rfl
                      have he8 := blk_at HS.out 4 rfl 8 _ rfl
                      have he9 := blk_at HS.out 4 rfl 9 _ rfl
                      have he10 := blk_at HS.out 4 rfl 10 _ rfl
                      have he11 := blk_at HS.out 4 rfl 11 _ rfl
                      have he12 := blk_at HS.out 4 rfl 12 _ rfl
                      have hef := fun i => blk_frozen (HS.out.blk 4 rfl) i
                      have h2_ := SL.putAll HS.out 4 rfl [.int .i64 y0, .int .i64 y1, .int .i64 y2, .int .i64 y3, .int .i64 y4, .int .i64 y5, .int .i64 y6, .int .i64 y7, .int .i64 y8, .int .i64 y9, .int .i64 y10, .int .i64 y11, .int .i64 y12] rfl
                      simp only [puts, Nat.zero_add, Nat.reduceAdd] at h2_
                      have HS2 := Aside0.mk h2_
                      clear h2_
                      go_wp2_with (fail)
                      refine bodyPost_ret (v := .tuple #[.agg #[.int .i64 y0, .int .i64 y1, .int .i64 y2, .int .i64 y3, .int .i64 y4, .int .i64 y5, .int .i64 y6, .int .i64 y7, .int .i64 y8, .int .i64 y9, .int .i64 y10, .int .i64 y11, .int .i64 y12], .int .i64 0]) (results_cell_tmp rfl _ _ ge 27 #[.int .i64 y0, .int .i64 y1, .int .i64 y2, .int .i64 y3, .int .i64 y4, .int .i64 y5, .int .i64 y6, .int .i64 y7, .int .i64 y8, .int .i64 y9, .int .i64 y10, .int .i64 y11, .int .i64 y12] (0, 0) _ rfl (HS2.out.blk 4 rfl) (.int .i64 0) rfl hul rfl HSZ.out) rfl ⟨?_, SL.below HS2.out⟩
                      have h1 := Option.some.inj HRR.out
                      try unfold badR at h1
                      simp only [Prod.mk.injEq] at h1
                      obtain ⟨rfl, rfl, rfl, rfl, rfl, rfl, rfl, rfl, rfl, rfl, rfl, rfl, rfl, rfl⟩ := h1
                      rfl
                    · rw [decide_eq_false hq] at HQC
                      have hd : decR l0 = some (badR 4) := by unfold decR; rw [if_pos HE.out, HM.out, Option.bind_some, if_pos rfl, if_neg (fun h => hq (HEB.out.trans h))]
                      have hr := HH.out
                      rw [hd] at hr
                      have HRR := Aside0.mk hr
                      clear hd hr hq
                      go_upto_region 27 with (go_at_call 57; refine HQC.out.mono ?_; rintro e w11 ⟨rfl, ⟨nd, rfl⟩⟩; have n1_ := Aside0.mk (SL.drewN HS.out nd); clear HS; have HS := n1_; clear n1_)
                      generalize World.drewN _ _ = w12 at HS ⊢
                      have he0 := blk_at HS.out 4 rfl 0 _ rfl
                      have he1 := blk_at HS.out 4 rfl 1 _ rfl
                      have he2 := blk_at HS.out 4 rfl 2 _ rfl
                      have he3 := blk_at HS.out 4 rfl 3 _ rfl
                      have he4 := blk_at HS.out 4 rfl 4 _ rfl
                      have he5 := blk_at HS.out 4 rfl 5 _ rfl
                      have he6 := blk_at HS.out 4 rfl 6 _ rfl
                      have he7 := blk_at HS.out 4 rfl 7 _ rfl
                      have he8 := blk_at HS.out 4 rfl 8 _ rfl
                      have he9 := blk_at HS.out 4 rfl 9 _ rfl
                      have he10 := blk_at HS.out 4 rfl 10 _ rfl
                      have he11 := blk_at HS.out 4 rfl 11 _ rfl
                      have he12 := blk_at HS.out 4 rfl 12 _ rfl
                      have hef := fun i => blk_frozen (HS.out.blk 4 rfl) i
                      have h2_ := SL.putAll HS.out 4 rfl [.int .i64 0, .int .i64 0, .int .i64 0, .int .i64 0, .int .i64 0, .int .i64 0, .int .i64 0, .int .i64 0, .int .i64 0, .int .i64 0, .int .i64 0, .int .i64 0, .int .i64 0] rfl
                      simp only [puts, Nat.zero_add, Nat.reduceAdd] at h2_
                      have HS2 := Aside0.mk h2_
                      clear h2_
                      go_wp2_with (fail)
                      refine bodyPost_ret (v := .tuple #[.agg #[.int .i64 0, .int .i64 0, .int .i64 0, .int .i64 0, .int .i64 0, .int .i64 0, .int .i64 0, .int .i64 0, .int .i64 0, .int .i64 0, .int .i64 0, .int .i64 0, .int .i64 0], .int .i64 4]) (results_cell_tmp rfl _ _ ge 27 #[.int .i64 0, .int .i64 0, .int .i64 0, .int .i64 0, .int .i64 0, .int .i64 0, .int .i64 0, .int .i64 0, .int .i64 0, .int .i64 0, .int .i64 0, .int .i64 0, .int .i64 0] (0, 0) _ rfl (HS2.out.blk 4 rfl) (.int .i64 4) rfl hul rfl HSZ.out) rfl ⟨?_, SL.below HS2.out⟩
                      have h1 := Option.some.inj HRR.out
                      try unfold badR at h1
                      simp only [Prod.mk.injEq] at h1
                      obtain ⟨rfl, rfl, rfl, rfl, rfl, rfl, rfl, rfl, rfl, rfl, rfl, rfl, rfl, rfl⟩ := h1
                      rfl
              · have hne : ¬ (s1 = (dec8 l0 96) ∧ s2 = (dec8 l0 104) ∧ s3 = (dec8 l0 112) ∧ s4 = (dec8 l0 120)) := fun hh => he (by obtain ⟨e1, e2, e3, e4⟩ := HSU.out; obtain ⟨h1, h2, h3, h4⟩ := hh; rw [← h1, ← h2, ← h3, ← h4, e1, e2, e3, e4])
                have hd : decR l0 = some (badR 11) := by unfold decR; rw [if_neg he]
                have hr := HH.out
                rw [hd] at hr
                have HRR := Aside0.mk hr
                clear hd hr he
                generalize (dec8 l0 96) = q1 at HS hne
                generalize (dec8 l0 104) = q2 at HS hne
                generalize (dec8 l0 112) = q3 at HS hne
                generalize (dec8 l0 120) = q4 at HS hne
                have hy0 := blk_at HS.out 0 rfl 0 _ rfl
                have hy1 := blk_at HS.out 0 rfl 1 _ rfl
                have hy2 := blk_at HS.out 0 rfl 2 _ rfl
                have hy3 := blk_at HS.out 0 rfl 3 _ rfl
                have hq0 := blk_at HS.out 2 rfl 0 _ rfl
                have hq1 := blk_at HS.out 2 rfl 1 _ rfl
                have hq2 := blk_at HS.out 2 rfl 2 _ rfl
                have hq3 := blk_at HS.out 2 rfl 3 _ rfl
                have hc : (s1 == q1) = false ∨ ((s1 == q1) = true ∧ (s2 == q2) = false) ∨ ((s1 == q1) = true ∧ (s2 == q2) = true ∧ (s3 == q3) = false) ∨ ((s1 == q1) = true ∧ (s2 == q2) = true ∧ (s3 == q3) = true ∧ (s4 == q4) = false) := by
                  simp only [beq_iff_eq, beq_eq_false_iff_ne]
                  omega
                clear hne
                rcases hc with b1 | ⟨b1, b2⟩ | ⟨b1, b2, b3⟩ | ⟨b1, b2, b3, b4⟩
                all_goals
                  have he0 := blk_at HS.out 4 rfl 0 _ rfl
                  have he1 := blk_at HS.out 4 rfl 1 _ rfl
                  have he2 := blk_at HS.out 4 rfl 2 _ rfl
                  have he3 := blk_at HS.out 4 rfl 3 _ rfl
                  have he4 := blk_at HS.out 4 rfl 4 _ rfl
                  have he5 := blk_at HS.out 4 rfl 5 _ rfl
                  have he6 := blk_at HS.out 4 rfl 6 _ rfl
                  have he7 := blk_at HS.out 4 rfl 7 _ rfl
                  have he8 := blk_at HS.out 4 rfl 8 _ rfl
                  have he9 := blk_at HS.out 4 rfl 9 _ rfl
                  have he10 := blk_at HS.out 4 rfl 10 _ rfl
                  have he11 := blk_at HS.out 4 rfl 11 _ rfl
                  have he12 := blk_at HS.out 4 rfl 12 _ rfl
                  have hef := fun i => blk_frozen (HS.out.blk 4 rfl) i
                  have h2_ := SL.putAll HS.out 4 rfl [.int .i64 0, .int .i64 0, .int .i64 0, .int .i64 0, .int .i64 0, .int .i64 0, .int .i64 0, .int .i64 0, .int .i64 0, .int .i64 0, .int .i64 0, .int .i64 0, .int .i64 0] rfl
                  simp only [puts, Nat.zero_add, Nat.reduceAdd] at h2_
                  have HS2 := Aside0.mk h2_
                  clear h2_
                  go_wp2_with (fail)
                  refine bodyPost_ret (v := .tuple #[.agg #[.int .i64 0, .int .i64 0, .int .i64 0, .int .i64 0, .int .i64 0, .int .i64 0, .int .i64 0, .int .i64 0, .int .i64 0, .int .i64 0, .int .i64 0, .int .i64 0, .int .i64 0], .int .i64 11]) (results_cell_tmp rfl _ _ ge 27 #[.int .i64 0, .int .i64 0, .int .i64 0, .int .i64 0, .int .i64 0, .int .i64 0, .int .i64 0, .int .i64 0, .int .i64 0, .int .i64 0, .int .i64 0, .int .i64 0, .int .i64 0] (0, 0) _ rfl (HS2.out.blk 4 rfl) (.int .i64 11) rfl hul rfl HSZ.out) rfl ⟨?_, SL.below HS2.out⟩
                  have h1 := Option.some.inj HRR.out
                  unfold badR at h1
                  simp only [Prod.mk.injEq] at h1
                  obtain ⟨rfl, rfl, rfl, rfl, rfl, rfl, rfl, rfl, rfl, rfl, rfl, rfl, rfl, rfl⟩ := h1
                  rfl
set_option maxHeartbeats 4000000 in
set_option maxRecDepth 100000 in
theorem label_Decode.calls (k : Nat) (A0 : Option Addr) (c0 : Nat) (l0 : List Int) (r1 r2 r3 r4 r5 r6 r7 r8 r9 r10 r11 r12 r13 r14 : Int) (w : World) (hr0 : Kd.C (Kd.int .u8) w A0 l0.length l0) (hc0 : l0.length ≤ c0) (h : label_Decode.f k l0 = some (r1, r2, r3, r4, r5, r6, r7, r8, r9, r10, r11, r12, r13, r14)) :
    Calls Try.prog 18 #[.slice A0 l0.length c0] w fun e w' => e = .returned (.tuple #[.agg #[.int .i64 r1, .int .i64 r2, .int .i64 r3, .int .i64 r4, .int .i64 r5, .int .i64 r6, .int .i64 r7, .int .i64 r8, .int .i64 r9, .int .i64 r10, .int .i64 r11, .int .i64 r12, .int .i64 r13], .int .i64 r14]) ∧ Below w.heap.size w w' := by
  unfold label_Decode.f at h
  by_cases hl : l0.length = 128
  · rw [if_pos hl] at h
    by_cases ha : l0.all (fun x => decide (0 ≤ x ∧ x ≤ 255)) = true
    · rw [if_pos ha] at h
      have hR : ReadsInt w .u8 A0 128 l0 := by rw [← hl]; exact readsInt_of.2 (Kd.reads_of_C (d := 0) hr0)
      rw [hl]
      exact label_Decode.fine A0 c0 l0 r1 r2 r3 r4 r5 r6 r7 r8 r9 r10 r11 r12 r13 r14 w hR (by omega) (fun x hx => of_decide_eq_true (List.all_eq_true.1 ha x hx)) h
    · rw [if_neg ha] at h; cases h
  · rw [if_neg hl] at h
    have HRR := Aside0.mk h
    clear h hr0
    have HS := Aside0.mk (SL.start w)
    have HSZ : Aside0 ((Try.prog.info? 27).map (·.size) = some 13) := ⟨by kernel_rfl⟩
    have hul := Try.underlying27
    have hnl : ((l0.length : Int) == 128) = false := by simp; omega
    have hnl2 : ((l0.length : Int) = 128) = False := eq_false (by omega)
    have hnl3 : (l0.length = 128) = False := eq_false hl
    clear hl
    go_enter Try.func18, Try.ntmps18
    go_upto_region 1 with (fail)
    have HS := Aside0.mk (HS.out.allocBlk #[.int .i64 0, .int .i64 0, .int .i64 0, .int .i64 0, .int .i64 0, .int .i64 0, .int .i64 0, .int .i64 0, .int .i64 0, .int .i64 0, .int .i64 0, .int .i64 0, .int .i64 0] 27)
    generalize w.heap.size = ge at HS ⊢
    generalize World.alloc _ _ = w1 at HS ⊢
    have he0 := blk_at HS.out 0 rfl 0 _ rfl
    have he1 := blk_at HS.out 0 rfl 1 _ rfl
    have he2 := blk_at HS.out 0 rfl 2 _ rfl
    have he3 := blk_at HS.out 0 rfl 3 _ rfl
    have he4 := blk_at HS.out 0 rfl 4 _ rfl
    have he5 := blk_at HS.out 0 rfl 5 _ rfl
    have he6 := blk_at HS.out 0 rfl 6 _ rfl
    have he7 := blk_at HS.out 0 rfl 7 _ rfl
    have he8 := blk_at HS.out 0 rfl 8 _ rfl
    have he9 := blk_at HS.out 0 rfl 9 _ rfl
    have he10 := blk_at HS.out 0 rfl 10 _ rfl
    have he11 := blk_at HS.out 0 rfl 11 _ rfl
    have he12 := blk_at HS.out 0 rfl 12 _ rfl
    have hef := fun i => blk_frozen (HS.out.blk 0 rfl) i
    have HS2 := Aside0.mk (Sep.SL.put (Sep.SL.put (Sep.SL.put (Sep.SL.put (Sep.SL.put (Sep.SL.put (Sep.SL.put (Sep.SL.put (Sep.SL.put (Sep.SL.put (Sep.SL.put (Sep.SL.put (Sep.SL.put HS.out 0 rfl 0 (.int .i64 0)) 0 rfl 1 (.int .i64 0)) 0 rfl 2 (.int .i64 0)) 0 rfl 3 (.int .i64 0)) 0 rfl 4 (.int .i64 0)) 0 rfl 5 (.int .i64 0)) 0 rfl 6 (.int .i64 0)) 0 rfl 7 (.int .i64 0)) 0 rfl 8 (.int .i64 0)) 0 rfl 9 (.int .i64 0)) 0 rfl 10 (.int .i64 0)) 0 rfl 11 (.int .i64 0)) 0 rfl 12 (.int .i64 0))
    go_wp2_with (fail)
    refine bodyPost_ret (v := .tuple #[.agg #[.int .i64 0, .int .i64 0, .int .i64 0, .int .i64 0, .int .i64 0, .int .i64 0, .int .i64 0, .int .i64 0, .int .i64 0, .int .i64 0, .int .i64 0, .int .i64 0, .int .i64 0], .int .i64 1]) (results_cell_tmp rfl _ _ ge 27 #[.int .i64 0, .int .i64 0, .int .i64 0, .int .i64 0, .int .i64 0, .int .i64 0, .int .i64 0, .int .i64 0, .int .i64 0, .int .i64 0, .int .i64 0, .int .i64 0, .int .i64 0] (0, 0) _ rfl (HS2.out.blk 0 rfl) (.int .i64 1) rfl hul rfl HSZ.out) rfl ⟨?_, SL.below HS2.out⟩
    have h1 := Option.some.inj HRR.out
    unfold badR at h1
    simp only [Prod.mk.injEq] at h1
    obtain ⟨rfl, rfl, rfl, rfl, rfl, rfl, rfl, rfl, rfl, rfl, rfl, rfl, rfl, rfl⟩ := h1
    rfl

end Go.Proofs.Ythnchojddoefiaa.QLabelBests
