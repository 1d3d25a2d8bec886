/- Printed from a stub by wip/stub.py with the kit's print.py, then turned by hand. -/
import Derived.Test.YtpaenlplpaabjaaQParEncodesx0
import Derived.Test.YtpaenlplpaabjaaQParEncodesx2
namespace Go.Proofs.Ytpaenlplpaabjaa.QParEncodes
open Go.RowKit Go.Proofs.YtpaenlplpaabjaaW.PrintWords Go.Proofs.YtpaenlplpaabjaaW.PrintLast Go.Proofs.YtpaenlplpaabjaaW.PrintMore
attribute [local go_sem] max2_int min2_int max_two min_two max_three min_three max_four min_four   -- for this text's walks alone
set_option linter.unusedVariables false
set_option linter.unusedSimpArgs false

/-! ### quicksetref_expOf: function 57 -/
def quicksetref_expOf.l0 : Nat → Int → Int → Int → Option (Int)
  | 0, _, _, _ => none
  | k + 1, x0, x3, x4 => if x4 < (Int.tmod x0 255) then ((quicksetref_mulOf.f k x3 2).bind fun t147 => (quicksetref_expOf.l0 k x0 t147 (wrap64 (x4 + 1)))) else (some x3)
def quicksetref_expOf.f (k : Nat) (a0 : Int) : Option (Int) := quicksetref_expOf.l0 k a0 1 0
theorem quicksetref_expOf.mono_l : ∀ k, (∀ y0 y1 y2, LeO (quicksetref_expOf.l0 k y0 y1 y2) (quicksetref_expOf.l0 (k + 1) y0 y1 y2))
  | 0 => fun _ _ _ r h => by simp [quicksetref_expOf.l0] at h
  | k + 1 => by
    have ih0 := quicksetref_expOf.mono_l k
    · intro y0 y1 y2
      unfold quicksetref_expOf.l0
      repeat' first
      | (with_reducible exact ih0 _ _ _)
      | (with_reducible exact quicksetref_mulOf.mono _ _ _)
      | (with_reducible exact LeO.refl _)
      | (with_reducible exact LeO.none _)
      | (with_reducible refine LeO.ite ?_ ?_)
      | (with_reducible refine LeO.bind ?_ (fun _ => ?_))
      | exact ih0 _ _ _
      | exact quicksetref_mulOf.mono _ _ _
      | exact LeO.none _
      | refine LeO.ite ?_ ?_
      | refine LeO.bind ?_ (fun _ => ?_)
theorem quicksetref_expOf.mono : ∀ a0 k, LeO (quicksetref_expOf.f k a0) (quicksetref_expOf.f (k + 1) a0) := by
  intro a0 k
  have ih0 := quicksetref_expOf.mono_l k
  unfold quicksetref_expOf.f
  repeat' first
      | (with_reducible exact ih0 _ _ _)
      | (with_reducible exact quicksetref_mulOf.mono _ _ _)
      | (with_reducible exact LeO.refl _)
      | (with_reducible exact LeO.none _)
      | (with_reducible refine LeO.ite ?_ ?_)
      | (with_reducible refine LeO.bind ?_ (fun _ => ?_))
      | exact ih0 _ _ _
      | exact quicksetref_mulOf.mono _ _ _
      | exact LeO.none _
      | refine LeO.ite ?_ ?_
      | refine LeO.bind ?_ (fun _ => ?_)
set_option maxHeartbeats 8000000 in
set_option maxRecDepth 100000 in
theorem quicksetref_expOf.calls (k : Nat) (a0 : Int) (r : Int) (w : World) (h : quicksetref_expOf.f k a0 = some r) :
    Calls Try.prog 57 #[.int .i64 a0] w fun e w' => e = .returned (.int .i64 r) ∧ Drawn0 w w' := by
  have H : (quicksetref_expOf.l0 k a0 1 0) = some r := h
  clear h
  have H' := Aside0.mk H
  clear H
  go_enter Try.func57, Try.ntmps57
  go_wp2
  go_loopg [3, 4] k (fun kq v3 v4 w' => ∃ (x3_1 : Int) (x4_1 : Int), v3 = .int .i64 x3_1 ∧ v4 = .int .i64 x4_1 ∧ Aside0 (quicksetref_expOf.l0 kq a0 x3_1 x4_1 = some r) ∧ Aside0 (kq ≤ k) ∧ Drawn0 w w')
  case atStart => exact ⟨(1), (0), (by first | rfl | (simp; done) | (simp [*]; done)), (by first | rfl | (simp; done) | (simp [*]; done)), H', ⟨Nat.le_refl _⟩, by repeat (first | exact Drawn0.refl _ | apply Drawn0.step)⟩
  case round =>
    clear H'
    obtain ⟨x3_1, x4_1, rfl, rfl, HA, HK1, ⟨m1, rfl⟩⟩ := hrel
    cases gk with
    | zero => exact absurd HA.out (by simp [quicksetref_expOf.l0])
    | succ k1 =>
      have H := HA.out
      clear HA
      simp only [quicksetref_expOf.l0] at H
      by_cases c2 : x4_1 < (Int.tmod a0 255)
      · rw [if_pos c2] at H
        have c2b0 : decide (x4_1 < (Int.tmod a0 255)) = true := decide_eq_true c2
        clear c2
        replace H := Option.bind_eq_some_iff.mp H
        obtain ⟨t147, A30, H⟩ := H
        replace H : (quicksetref_expOf.l0 k1 a0 t147 (wrap64 (x4_1 + 1))) = some r := H
        have A3 := Aside0.mk A30
        clear A30
        have H' := Aside0.mk H
        clear H
        go_wp2_with (first | ((with_reducible refine gate_callee (f := 46) rfl ?_); refine goesL_ (some 12) rfl rfl Try.func46 (by kernel_rfl) rfl #[.int .i64 x3_1, .int .i64 2] rfl (by (try simp only [List.map_toArray, List.map_cons, List.map_nil]); first | done | rfl | (simp only [List.length_drop, List.length_take]; rfl)) ?_; (with_reducible refine (quicksetref_mulOf.calls k1 x3_1 2 t147 _ A3.out).mono ?_); rintro e w' ⟨rfl, ⟨nd, rfl⟩⟩; refine ⟨_, rfl, ?_⟩))
        go_roundg k1
        case measure => have := HK1.out; omega
        case rel => exact ⟨(t147), (wrap64 (x4_1 + 1)), (by first | rfl | (simp; done) | (simp [*]; done)), (by first | rfl | (simp; done) | (simp [*]; done)), H', ⟨by have := HK1.out; omega⟩, by repeat (first | exact Drawn0.refl _ | apply Drawn0.step)⟩
      · rw [if_neg c2] at H
        have c2b0 : decide (x4_1 < (Int.tmod a0 255)) = false := decide_eq_false c2
        clear c2
        obtain rfl := Option.some.inj H
        go_wp2
        go_ret
        exact ⟨by first | rfl | (simp; done) | (simp [*]; done), by repeat (first | exact Drawn0.refl _ | apply Drawn0.step)⟩

/-! ### quicksetref_ParEncode: function 25 -/
mutual
def quicksetref_ParEncode.j0 : Nat → List (List Int) → Int → Bool → Option ((List (List Int)) × Int)
  | 0, _, _, _ => none
  | k + 1, x0, x1, x19 => if x19 = true then (some (([] : List (List Int)), 2)) else (if 0 ≤ x1 then (if (x1 : Int).toNat ≤ 11728124029610 then ((some (List.replicate (x1 : Int).toNat [] : List (List Int))).bind fun y149 => (quicksetref_ParEncode.l0 k x0 y149 (y149.length : Int) 0)) else (none)) else (none))
def quicksetref_ParEncode.l0 : Nat → List (List Int) → List (List Int) → Int → Int → Option ((List (List Int)) × Int)
  | 0, _, _, _, _ => none
  | k + 1, x0, x6, x23, x24 => if x24 < x23 then (if 0 < (x0.length : Int) then (quicksetref_ParEncode.l1 k x0 x6 x24 x23 x24 ((rd_L1 x0 0).length : Int) 0) else (none)) else (some (x6, 0))
def quicksetref_ParEncode.l1 : Nat → List (List Int) → List (List Int) → Int → Int → Int → Int → Int → Option ((List (List Int)) × Int)
  | 0, _, _, _, _, _, _, _ => none
  | k + 1, x0, x6, x7, x23, x24, x30, x31 => if x31 < x30 then (quicksetref_ParEncode.l2 k x0 x6 x7 x31 0 x23 x24 x30 x31 (x0.length : Int) 0) else (quicksetref_ParEncode.l0 k x0 x6 x23 (wrap64 (x24 + 1)))
def quicksetref_ParEncode.l2 : Nat → List (List Int) → List (List Int) → Int → Int → Int → Int → Int → Int → Int → Int → Int → Option ((List (List Int)) × Int)
  | 0, _, _, _, _, _, _, _, _, _, _, _ => none
  | k + 1, x0, x6, x7, x8, x9, x23, x24, x30, x31, x35, x36 => if x36 < x35 then ((quicksetref_expOf.f k (wrap64 (x7 * x36))).bind fun t153 => (if 0 ≤ x36 then (if x36 < (x0.length : Int) then (if 0 ≤ x8 then (if x8 < ((rd_L1 x0 x36).length : Int) then ((quicksetref_mulOf.f k t153 (wrap64 (rd (rd_L1 x0 x36) x8))).bind fun t156 => (quicksetref_ParEncode.l2 k x0 x6 x7 x8 (Go.bits .xor .i64 x9 t156) x23 x24 x30 x31 x35 (wrap64 (x36 + 1)))) else (none)) else (none)) else (none)) else (none))) else (if 0 ≤ x7 then (if x7 < (x6.length : Int) then (if (rd_L1 x6 x7).length < 140737488355328 then (quicksetref_ParEncode.l1 k x0 (x6.set (x7 : Int).toNat ((rd_L1 x6 x7) ++ [(x9) % 256])) x7 x23 x24 x30 (wrap64 (x31 + 1))) else (none)) else (none)) else (none))
end
def quicksetref_ParEncode.f (k : Nat) (l0 : List (List Int)) (a1 : Int) : Option ((List (List Int)) × Int) := (quicksetref_ParMay.f k l0).bind fun t148 => (if t148 = true then (if a1 < 1 then (quicksetref_ParEncode.j0 k l0 a1 true) else (quicksetref_ParEncode.j0 k l0 a1 (decide (a1 > 3)))) else (some (([] : List (List Int)), 4)))
theorem quicksetref_ParEncode.mono_l : ∀ k, (∀ y0 y1 y2, LeO (quicksetref_ParEncode.j0 k y0 y1 y2) (quicksetref_ParEncode.j0 (k + 1) y0 y1 y2)) ∧ (∀ y0 y1 y2 y3, LeO (quicksetref_ParEncode.l0 k y0 y1 y2 y3) (quicksetref_ParEncode.l0 (k + 1) y0 y1 y2 y3)) ∧ (∀ y0 y1 y2 y3 y4 y5 y6, LeO (quicksetref_ParEncode.l1 k y0 y1 y2 y3 y4 y5 y6) (quicksetref_ParEncode.l1 (k + 1) y0 y1 y2 y3 y4 y5 y6)) ∧ (∀ y0 y1 y2 y3 y4 y5 y6 y7 y8 y9 y10, LeO (quicksetref_ParEncode.l2 k y0 y1 y2 y3 y4 y5 y6 y7 y8 y9 y10) (quicksetref_ParEncode.l2 (k + 1) y0 y1 y2 y3 y4 y5 y6 y7 y8 y9 y10))
  | 0 => ⟨fun _ _ _ r h => by simp [quicksetref_ParEncode.j0] at h, fun _ _ _ _ r h => by simp [quicksetref_ParEncode.l0] at h, fun _ _ _ _ _ _ _ r h => by simp [quicksetref_ParEncode.l1] at h, fun _ _ _ _ _ _ _ _ _ _ _ r h => by simp [quicksetref_ParEncode.l2] at h⟩
  | k + 1 => by
    obtain ⟨ih0, ih1, ih2, ih3⟩ := quicksetref_ParEncode.mono_l k
    refine ⟨?_, ?_, ?_, ?_⟩
    · intro y0 y1 y2
      unfold quicksetref_ParEncode.j0
      repeat' first
      | (with_reducible exact ih0 _ _ _)
      | (with_reducible exact ih1 _ _ _ _)
      | (with_reducible exact ih2 _ _ _ _ _ _ _)
      | (with_reducible exact ih3 _ _ _ _ _ _ _ _ _ _ _)
      | (with_reducible exact quicksetref_ParMay.mono _ _)
      | (with_reducible exact quicksetref_expOf.mono _ _)
      | (with_reducible exact quicksetref_mulOf.mono _ _ _)
      | (with_reducible exact LeO.refl _)
      | (with_reducible exact LeO.none _)
      | (with_reducible refine LeO.ite ?_ ?_)
      | (with_reducible refine LeO.bind ?_ (fun _ => ?_))
      | exact ih0 _ _ _
      | exact ih1 _ _ _ _
      | exact ih2 _ _ _ _ _ _ _
      | exact ih3 _ _ _ _ _ _ _ _ _ _ _
      | exact quicksetref_ParMay.mono _ _
      | exact quicksetref_expOf.mono _ _
      | exact quicksetref_mulOf.mono _ _ _
      | exact LeO.none _
      | refine LeO.ite ?_ ?_
      | refine LeO.bind ?_ (fun _ => ?_)
    · intro y0 y1 y2 y3
      unfold quicksetref_ParEncode.l0
      repeat' first
      | (with_reducible exact ih0 _ _ _)
      | (with_reducible exact ih1 _ _ _ _)
      | (with_reducible exact ih2 _ _ _ _ _ _ _)
      | (with_reducible exact ih3 _ _ _ _ _ _ _ _ _ _ _)
      | (with_reducible exact quicksetref_ParMay.mono _ _)
      | (with_reducible exact quicksetref_expOf.mono _ _)
      | (with_reducible exact quicksetref_mulOf.mono _ _ _)
      | (with_reducible exact LeO.refl _)
      | (with_reducible exact LeO.none _)
      | (with_reducible refine LeO.ite ?_ ?_)
      | (with_reducible refine LeO.bind ?_ (fun _ => ?_))
      | exact ih0 _ _ _
      | exact ih1 _ _ _ _
      | exact ih2 _ _ _ _ _ _ _
      | exact ih3 _ _ _ _ _ _ _ _ _ _ _
      | exact quicksetref_ParMay.mono _ _
      | exact quicksetref_expOf.mono _ _
      | exact quicksetref_mulOf.mono _ _ _
      | exact LeO.none _
      | refine LeO.ite ?_ ?_
      | refine LeO.bind ?_ (fun _ => ?_)
    · intro y0 y1 y2 y3 y4 y5 y6
      unfold quicksetref_ParEncode.l1
      repeat' first
      | (with_reducible exact ih0 _ _ _)
      | (with_reducible exact ih1 _ _ _ _)
      | (with_reducible exact ih2 _ _ _ _ _ _ _)
      | (with_reducible exact ih3 _ _ _ _ _ _ _ _ _ _ _)
      | (with_reducible exact quicksetref_ParMay.mono _ _)
      | (with_reducible exact quicksetref_expOf.mono _ _)
      | (with_reducible exact quicksetref_mulOf.mono _ _ _)
      | (with_reducible exact LeO.refl _)
      | (with_reducible exact LeO.none _)
      | (with_reducible refine LeO.ite ?_ ?_)
      | (with_reducible refine LeO.bind ?_ (fun _ => ?_))
      | exact ih0 _ _ _
      | exact ih1 _ _ _ _
      | exact ih2 _ _ _ _ _ _ _
      | exact ih3 _ _ _ _ _ _ _ _ _ _ _
      | exact quicksetref_ParMay.mono _ _
      | exact quicksetref_expOf.mono _ _
      | exact quicksetref_mulOf.mono _ _ _
      | exact LeO.none _
      | refine LeO.ite ?_ ?_
      | refine LeO.bind ?_ (fun _ => ?_)
    · intro y0 y1 y2 y3 y4 y5 y6 y7 y8 y9 y10
      unfold quicksetref_ParEncode.l2
      repeat' first
      | (with_reducible exact ih0 _ _ _)
      | (with_reducible exact ih1 _ _ _ _)
      | (with_reducible exact ih2 _ _ _ _ _ _ _)
      | (with_reducible exact ih3 _ _ _ _ _ _ _ _ _ _ _)
      | (with_reducible exact quicksetref_ParMay.mono _ _)
      | (with_reducible exact quicksetref_expOf.mono _ _)
      | (with_reducible exact quicksetref_mulOf.mono _ _ _)
      | (with_reducible exact LeO.refl _)
      | (with_reducible exact LeO.none _)
      | (with_reducible refine LeO.ite ?_ ?_)
      | (with_reducible refine LeO.bind ?_ (fun _ => ?_))
      | exact ih0 _ _ _
      | exact ih1 _ _ _ _
      | exact ih2 _ _ _ _ _ _ _
      | exact ih3 _ _ _ _ _ _ _ _ _ _ _
      | exact quicksetref_ParMay.mono _ _
      | exact quicksetref_expOf.mono _ _
      | exact quicksetref_mulOf.mono _ _ _
      | exact LeO.none _
      | refine LeO.ite ?_ ?_
      | refine LeO.bind ?_ (fun _ => ?_)
theorem quicksetref_ParEncode.mono : ∀ a0 a1 k, LeO (quicksetref_ParEncode.f k a0 a1) (quicksetref_ParEncode.f (k + 1) a0 a1) := by
  intro a0 a1 k
  obtain ⟨ih0, ih1, ih2, ih3⟩ := quicksetref_ParEncode.mono_l k
  unfold quicksetref_ParEncode.f
  repeat' first
      | (with_reducible exact ih0 _ _ _)
      | (with_reducible exact ih1 _ _ _ _)
      | (with_reducible exact ih2 _ _ _ _ _ _ _)
      | (with_reducible exact ih3 _ _ _ _ _ _ _ _ _ _ _)
      | (with_reducible exact quicksetref_ParMay.mono _ _)
      | (with_reducible exact quicksetref_expOf.mono _ _)
      | (with_reducible exact quicksetref_mulOf.mono _ _ _)
      | (with_reducible exact LeO.refl _)
      | (with_reducible exact LeO.none _)
      | (with_reducible refine LeO.ite ?_ ?_)
      | (with_reducible refine LeO.bind ?_ (fun _ => ?_))
      | exact ih0 _ _ _
      | exact ih1 _ _ _ _
      | exact ih2 _ _ _ _ _ _ _
      | exact ih3 _ _ _ _ _ _ _ _ _ _ _
      | exact quicksetref_ParMay.mono _ _
      | exact quicksetref_expOf.mono _ _
      | exact quicksetref_mulOf.mono _ _ _
      | exact LeO.none _
      | refine LeO.ite ?_ ?_
      | refine LeO.bind ?_ (fun _ => ?_)
set_option maxHeartbeats 8000000 in
set_option maxRecDepth 100000 in
theorem quicksetref_ParEncode.calls (k : Nat) (A0 : Option Addr) (c0 : Nat) (l0 : List (List Int)) (a1 : Int) (r1 : List (List Int)) (r2 : Int) (w : World) (hr0 : Kd.C (Kd.slice 5 (Kd.int .u8)) w A0 l0.length l0) (hc0 : l0.length ≤ c0) (h : quicksetref_ParEncode.f k l0 a1 = some (r1, r2)) :
    Calls Try.prog 25 #[.slice A0 l0.length c0, .int .i64 a1] w fun e w' => ∃ v0_ : Value, e = .returned (.tuple #[v0_, .int .i64 r2]) ∧ Kd.S (Kd.slice 5 (Kd.int .u8)) 45 w' w.heap.size (fun _ => True) v0_ r1 ∧ Below w.heap.size w w' := by
  have HR0 := Aside0.mk hr0
  have HC0 := Aside0.mk hc0
  clear hr0 hc0
  have HB := Aside0.mk (Below.refl w.heap.size w)
  have H : ((quicksetref_ParMay.f k l0).bind fun t148 => (if t148 = true then (if a1 < 1 then (quicksetref_ParEncode.j0 k l0 a1 true) else (quicksetref_ParEncode.j0 k l0 a1 (decide (a1 > 3)))) else (some (([] : List (List Int)), 4)))) = some (r1, r2) := h
  clear h
  replace H := Option.bind_eq_some_iff.mp H
  obtain ⟨t148, A30, H⟩ := H
  replace H : (if t148 = true then (if a1 < 1 then (quicksetref_ParEncode.j0 k l0 a1 true) else (quicksetref_ParEncode.j0 k l0 a1 (decide (a1 > 3)))) else (some (([] : List (List Int)), 4))) = some (r1, r2) := H
  have A3 := Aside0.mk A30
  clear A30
  by_cases c4 : t148 = true
  · subst c4
    have H1 : (if a1 < 1 then (quicksetref_ParEncode.j0 k l0 a1 true) else (quicksetref_ParEncode.j0 k l0 a1 (decide (a1 > 3)))) = some (r1, r2) := by rw [if_pos rfl] at H; exact H
    clear H
    have H := H1
    clear H1
    have HC5 := Aside0.mk H
    clear H
    go_enter Try.func25, Try.ntmps25
    go_upto_region 3 with (first | (go_at_call 56; (with_reducible refine (quicksetref_ParMay.calls k _ _ l0 true _ ?side1 ?side2 A3.out).mono ?_); (case side1 => repeat (first | exact HR0.out | (with_reducible refine Kd.C_alloc ?_ _) | (with_reducible refine Kd.C_drewN ?_ _) | (with_reducible refine Kd.C_drew ?_))); (case side2 => exact HC0.out); rintro e w' ⟨rfl, ⟨nd, rfl⟩⟩; (try first | exact ⟨rfl, _, World.drewN_drewN _ _ _⟩ | exact ⟨rfl, _, Eq.trans (World.drewN_drewN _ _ _) (congrArg (World.drewN _) (Nat.add_assoc _ _ _))⟩)))
    repeat (go_quiet (first | (go_at_call 56; (with_reducible refine (quicksetref_ParMay.calls k _ _ l0 true _ ?side1 ?side2 A3.out).mono ?_); (case side1 => repeat (first | exact HR0.out | (with_reducible refine Kd.C_alloc ?_ _) | (with_reducible refine Kd.C_drewN ?_ _) | (with_reducible refine Kd.C_drew ?_))); (case side2 => exact HC0.out); rintro e w' ⟨rfl, ⟨nd, rfl⟩⟩; (try first | exact ⟨rfl, _, World.drewN_drewN _ _ _⟩ | exact ⟨rfl, _, Eq.trans (World.drewN_drewN _ _ _) (congrArg (World.drewN _) (Nat.add_assoc _ _ _))⟩))); go_upto_region 3 with (first | (go_at_call 56; (with_reducible refine (quicksetref_ParMay.calls k _ _ l0 true _ ?side1 ?side2 A3.out).mono ?_); (case side1 => repeat (first | exact HR0.out | (with_reducible refine Kd.C_alloc ?_ _) | (with_reducible refine Kd.C_drewN ?_ _) | (with_reducible refine Kd.C_drew ?_))); (case side2 => exact HC0.out); rintro e w' ⟨rfl, ⟨nd, rfl⟩⟩; (try first | exact ⟨rfl, _, World.drewN_drewN _ _ _⟩ | exact ⟨rfl, _, Eq.trans (World.drewN_drewN _ _ _) (congrArg (World.drewN _) (Nat.add_assoc _ _ _))⟩))))
    (try simp only [Act.put, List.setIfInBounds_toArray, List.set_cons_zero, List.set_cons_succ])
    go_cut [19] (fun v19 wc => ∃ (kq : Nat) (x19_4 : Bool), v19 = .bool x19_4 ∧ Aside0 (quicksetref_ParEncode.j0 kq l0 a1 x19_4 = some (r1, r2)) ∧ Aside0 (kq ≤ k) ∧ Aside0 (Below w.heap.size w wc))
    case first =>
      have H := HC5.out
      clear HC5
      by_cases c6 : a1 < 1
      · rw [if_pos c6] at H
        have c6b0 : decide (a1 < 1) = true := decide_eq_true c6
        clear c6
        (first | rw [c6b0] | (simp only [i64_w, i32_w]; rw [c6b0]) | skip)
        have H' := Aside0.mk H
        clear H
        go_wp2
        repeat (go_quiet (fail); try go_wp2)
        go_meet
        case rel => exact ⟨_, (true), (by first | rfl | (simp; done) | (simp [*]; done)), H', ⟨by first | omega | exact Nat.le_refl _⟩, ⟨by repeat (first | (with_reducible first | exact HB.out | apply below_alloc | apply pw_below_drewN | apply below_drew1) | exact HB.out)⟩⟩
      · rw [if_neg c6] at H
        have c6b0 : decide (a1 < 1) = false := decide_eq_false c6
        clear c6
        (first | rw [c6b0] | (simp only [i64_w, i32_w]; rw [c6b0]) | skip)
        have H' := Aside0.mk H
        clear H
        go_wp2
        repeat (go_quiet (fail); try go_wp2)
        go_meet
        case rel => exact ⟨_, (decide (a1 > 3)), (by first | rfl | (simp; done) | (simp [*]; done)), H', ⟨by first | omega | exact Nat.le_refl _⟩, ⟨by repeat (first | (with_reducible first | exact HB.out | apply below_alloc | apply pw_below_drewN | apply below_drew1) | exact HB.out)⟩⟩
    case rest =>
      clear HC5
      try clear c2
      try clear p2
      try clear c4
      try clear c6
      try clear c6b0
      obtain ⟨kq, x19_4, rfl, HA, HJ4, HB⟩ := hcut
      cases kq with
      | zero => exact absurd HA.out (by simp [quicksetref_ParEncode.j0])
      | succ kj4 =>
        have H := HA.out
        clear HA
        simp only [quicksetref_ParEncode.j0] at H
        by_cases c7 : x19_4 = true
        · subst c7
          have H1 : (some (([] : List (List Int)), 2)) = some (r1, r2) := by rw [if_pos rfl] at H; exact H
          clear H
          have H := H1
          clear H1
          simp only [Option.some.injEq, Prod.mk.injEq] at H
          obtain ⟨rfl, rfl⟩ := H
          go_wp2
          repeat (go_quiet (fail); try go_wp2)
          go_ret2
          exact ⟨_, by first | rfl | (simp [errW_none, errW_some] <;> rfl) | (simp [*, errW_none, errW_some] <;> rfl), by first | exact Kd.S_nil _ _ _ _ _ | exact Kd.N_nil _ _ _ _ _ | exact Kd.V_nil _ _ _ _ _ | exact Kd.Q_nil _ _ _ _ _ | exact Kd.R_nil _ _ _ _ _, by repeat (first | (with_reducible first | exact HB.out | apply below_alloc | apply pw_below_drewN | apply below_drew1) | exact HB.out)⟩
        · replace c7 := Bool.eq_false_iff.mpr c7
          subst c7
          have H1 : (if 0 ≤ a1 then (if (a1 : Int).toNat ≤ 11728124029610 then ((some (List.replicate (a1 : Int).toNat [] : List (List Int))).bind fun y149 => (quicksetref_ParEncode.l0 kj4 l0 y149 (y149.length : Int) 0)) else (none)) else (none)) = some (r1, r2) := by rw [if_neg (show ¬ (false = true) by decide)] at H; exact H
          clear H
          have H := H1
          clear H1
          by_cases c8 : 0 ≤ a1
          · rw [if_pos c8] at H
            have c8b0 := eq_true c8
            have c8b1 : decide (0 ≤ a1) = true := decide_eq_true c8
            clear c8
            by_cases c9 : (a1 : Int).toNat ≤ 11728124029610
            · rw [if_pos c9] at H
              have c9b0 := eq_true c9
              have c9b1 : decide ((a1 : Int).toNat ≤ 11728124029610) = true := decide_eq_true c9
              clear c9
              obtain ⟨y149, hy149⟩ : ∃ y_ : List (List Int), y_ = (List.replicate (a1 : Int).toNat []) := ⟨_, rfl⟩
              replace H : (quicksetref_ParEncode.l0 kj4 l0 y149 (y149.length : Int) 0) = some (r1, r2) := by first | (rw [hy149]; with_reducible exact H) | (have H2_ := (Option.bind_some _ _).symm.trans H; rw [hy149]; with_reducible exact H2_) | (have H2_ := (Option.bind_some _ _).symm.trans H; with_reducible exact H2_) | with_reducible exact H | (rw [hy149]; exact H) | exact H
              have Ny149 := Aside0.mk hy149
              clear hy149
              have H' := Aside0.mk H
              clear H
              go_wp2_with (first | ((with_reducible refine gate_dst (N := 21) rfl ?_); refine Kd.S_make (Kd.slice 5 (Kd.int .u8)) _ 45 rfl (N := 21) rfl 38 _ _ rfl a1 rfl rfl Try.underlying38 (.slice none 0 0) 24 info45 rfl (by decide) (by omega) [] (ok := fun _ => True) (okp := fun _ => True) ⟨_, rfl, Kd.R_nil _ _ _ _ _⟩ (fun _ hk => hk) trivial (of_decide_eq_true (by first | (with_reducible assumption) | assumption)) (Nat.le_trans (Nat.mul_le_mul_right _ (of_decide_eq_true (by first | (with_reducible assumption) | assumption) : a1.toNat ≤ 11728124029610)) (by omega)) (Below.refl _ _) (Nat.le_refl _) ?_; intro v150 w10 ho11 hb hg_ hnew_; clear hg_ hnew_; (first | rw [← Ny149.out] at ho11 | (simp only [Int.reduceToNat] at ho11; rw [← Ny149.out] at ho11)); have n0_ := Aside0.mk (Kd.S_lower ho11 (below_size (by repeat (first | (with_reducible first | exact HB.out | apply below_alloc | apply pw_below_drewN | apply below_drew1) | exact HB.out)))); have n1_ := Aside0.mk (below_step (by repeat (first | (with_reducible first | exact HB.out | apply below_alloc | apply pw_below_drewN | apply below_drew1) | exact HB.out)) hb); clear HB; have HO151 := n0_; have HB := n1_; clear n0_ n1_; clear hb ho11; obtain ⟨Ao12, co12, eo12⟩ := Kd.S_slice HO151.out; subst eo12))
              repeat (go_quiet (first | ((with_reducible refine gate_dst (N := 21) rfl ?_); refine Kd.S_make (Kd.slice 5 (Kd.int .u8)) _ 45 rfl (N := 21) rfl 38 _ _ rfl a1 rfl rfl Try.underlying38 (.slice none 0 0) 24 info45 rfl (by decide) (by omega) [] (ok := fun _ => True) (okp := fun _ => True) ⟨_, rfl, Kd.R_nil _ _ _ _ _⟩ (fun _ hk => hk) trivial (of_decide_eq_true (by first | (with_reducible assumption) | assumption)) (Nat.le_trans (Nat.mul_le_mul_right _ (of_decide_eq_true (by first | (with_reducible assumption) | assumption) : a1.toNat ≤ 11728124029610)) (by omega)) (Below.refl _ _) (Nat.le_refl _) ?_; intro v150 w10 ho11 hb hg_ hnew_; clear hg_ hnew_; (first | rw [← Ny149.out] at ho11 | (simp only [Int.reduceToNat] at ho11; rw [← Ny149.out] at ho11)); have n0_ := Aside0.mk (Kd.S_lower ho11 (below_size (by repeat (first | (with_reducible first | exact HB.out | apply below_alloc | apply pw_below_drewN | apply below_drew1) | exact HB.out)))); have n1_ := Aside0.mk (below_step (by repeat (first | (with_reducible first | exact HB.out | apply below_alloc | apply pw_below_drewN | apply below_drew1) | exact HB.out)) hb); clear HB; have HO151 := n0_; have HB := n1_; clear n0_ n1_; clear hb ho11; obtain ⟨Ao12, co12, eo12⟩ := Kd.S_slice HO151.out; subst eo12)); try go_wp2_with (first | ((with_reducible refine gate_dst (N := 21) rfl ?_); refine Kd.S_make (Kd.slice 5 (Kd.int .u8)) _ 45 rfl (N := 21) rfl 38 _ _ rfl a1 rfl rfl Try.underlying38 (.slice none 0 0) 24 info45 rfl (by decide) (by omega) [] (ok := fun _ => True) (okp := fun _ => True) ⟨_, rfl, Kd.R_nil _ _ _ _ _⟩ (fun _ hk => hk) trivial (of_decide_eq_true (by first | (with_reducible assumption) | assumption)) (Nat.le_trans (Nat.mul_le_mul_right _ (of_decide_eq_true (by first | (with_reducible assumption) | assumption) : a1.toNat ≤ 11728124029610)) (by omega)) (Below.refl _ _) (Nat.le_refl _) ?_; intro v150 w10 ho11 hb hg_ hnew_; clear hg_ hnew_; (first | rw [← Ny149.out] at ho11 | (simp only [Int.reduceToNat] at ho11; rw [← Ny149.out] at ho11)); have n0_ := Aside0.mk (Kd.S_lower ho11 (below_size (by repeat (first | (with_reducible first | exact HB.out | apply below_alloc | apply pw_below_drewN | apply below_drew1) | exact HB.out)))); have n1_ := Aside0.mk (below_step (by repeat (first | (with_reducible first | exact HB.out | apply below_alloc | apply pw_below_drewN | apply below_drew1) | exact HB.out)) hb); clear HB; have HO151 := n0_; have HB := n1_; clear n0_ n1_; clear hb ho11; obtain ⟨Ao12, co12, eo12⟩ := Kd.S_slice HO151.out; subst eo12)))
              go_loopg [24] kj4 (fun kq v24 w' => ∃ (x6_2 : List (List Int)) (x24_2 : Int), v24 = .int .i64 x24_2 ∧ Aside0 (quicksetref_ParEncode.l0 kq l0 x6_2 (y149.length : Int) x24_2 = some (r1, r2)) ∧ Aside0 (kq ≤ kj4) ∧ Aside0 (Kd.S (Kd.slice 5 (Kd.int .u8)) 45 w' w.heap.size (fun _ => True) (.slice Ao12 y149.length co12) x6_2) ∧ Aside0 (Below w.heap.size w w'))
              case atStart => exact ⟨(y149), (0), (by first | rfl | (simp; done) | (simp [*]; done)), H', ⟨Nat.le_refl _⟩, ⟨by (with_reducible repeat (first | apply Kd.S_alloc | apply Kd.S_drewN | apply Kd.S_drew)); exact HO151.out⟩, ⟨by repeat (first | (with_reducible first | exact HB.out | apply below_alloc | apply pw_below_drewN | apply below_drew1) | exact HB.out)⟩⟩
              case round =>
                clear H'
                try clear c2
                try clear p2
                try clear c4
                try clear c6
                try clear c6b0
                try clear c7
                try clear c8
                try clear c8b0
                try clear c8b1
                try clear c9
                try clear c9b0
                try clear c9b1
                try clear p2
                obtain ⟨x6_2, x24_2, rfl, HA, HK2, HO_6, HB⟩ := hrel
                have hl6_2 := (Kd.S_reads' HO_6.out).1
                rw [hl6_2] at HO_6
                (try simp only [hl6_2])
                cases gk with
                | zero => exact absurd HA.out (by simp [quicksetref_ParEncode.l0])
                | succ k2 =>
                  have H := HA.out
                  clear HA
                  simp only [quicksetref_ParEncode.l0] at H
                  by_cases c13 : x24_2 < (y149.length : Int)
                  · rw [if_pos c13] at H
                    have c13b0 : decide (x24_2 < (y149.length : Int)) = true := decide_eq_true c13
                    (try have c13b9a := (show decide (x24_2 < (x6_2.length : Int)) = true by rw [← hl6_2]; exact c13b0))
                    clear c13
                    by_cases c14 : 0 < (l0.length : Int)
                    · rw [if_pos c14] at H
                      have c14b0 : decide (0 < (l0.length : Int)) = true := decide_eq_true c14
                      have c14b1 : decide (0 < l0.length) = true := decide_eq_true (by omega)
                      clear c14
                      have H' := Aside0.mk H
                      clear H
                      have p152 : 0 ≤ (0 : Int) := (by omega)
                      have q152 : 0 < (l0.length : Int) := of_decide_eq_true (by first | (with_reducible assumption) | assumption)
                      obtain ⟨ad152, A152_0, c152_0, e152, hx152_0, hl152_0, hi152_0⟩ := at_L1 HR0.out 0 p152 q152
                      cases e152
                      have qi152 : (0 < l0.length) = True := eq_true (by omega)
                      (try rw [show ((0 : Int)).toNat = 0 from rfl] at hx152_0)
                      (try rw [Addr.add_zero'] at hx152_0)
                      replace hx152_0 := (HB.out.cell (World.block_lt_of_cell? w _ hx152_0)).trans hx152_0
                      have HR152_0 := Aside0.mk hi152_0
                      have HC152_0 := Aside0.mk hl152_0
                      clear hi152_0 hl152_0
                      replace p152 := eq_true p152
                      replace q152 := eq_true q152
                      go_wp2
                      repeat (go_quiet (fail); try go_wp2)
                      go_loopg [31] k2 (fun kq v31 w' => ∃ (x6_3 : List (List Int)) (x31_3 : Int), v31 = .int .i64 x31_3 ∧ Aside0 (quicksetref_ParEncode.l1 kq l0 x6_3 x24_2 (y149.length : Int) x24_2 ((rd_L1 l0 0).length : Int) x31_3 = some (r1, r2)) ∧ Aside0 (kq ≤ k2) ∧ Aside0 (Kd.S (Kd.slice 5 (Kd.int .u8)) 45 w' w.heap.size (fun _ => True) (.slice Ao12 x6_2.length co12) x6_3) ∧ Aside0 (Below w.heap.size w w'))
                      case atStart => exact ⟨(x6_2), (0), (by first | rfl | (simp; done) | (simp [*]; done)), H', ⟨Nat.le_refl _⟩, ⟨by (try simp only [hl6_2]); (with_reducible repeat (first | apply Kd.S_alloc | apply Kd.S_drewN | apply Kd.S_drew)); exact HO_6.out⟩, ⟨by repeat (first | (with_reducible first | exact HB.out | apply below_alloc | apply pw_below_drewN | apply below_drew1) | exact HB.out)⟩⟩
                      case round =>
                        clear H'
                        try clear c1
                        try clear p1
                        try clear q1
                        try clear hx1
                        try clear qi1
                        try clear c2
                        try clear p2
                        try clear c4
                        try clear c6
                        try clear c6b0
                        try clear c7
                        try clear c8
                        try clear c8b0
                        try clear c8b1
                        try clear c9
                        try clear c9b0
                        try clear c9b1
                        try clear c13
                        try clear c13b0
                        try clear c14
                        try clear c14b0
                        try clear c14b1
                        try clear hx152_0
                        try clear p152
                        try clear p2
                        try clear q152
                        obtain ⟨x6_3, x31_3, rfl, HA, HK3, HO_6, HB⟩ := hrel
                        have hl6_3 := (Kd.S_reads' HO_6.out).1
                        rw [hl6_3] at HO_6
                        (try simp only [hl6_3])
                        cases gk with
                        | zero => exact absurd HA.out (by simp [quicksetref_ParEncode.l1])
                        | succ k3 =>
                          have H := HA.out
                          clear HA
                          simp only [quicksetref_ParEncode.l1] at H
                          by_cases c15 : x31_3 < ((rd_L1 l0 0).length : Int)
                          · rw [if_pos c15] at H
                            have c15b0 : decide (x31_3 < ((rd_L1 l0 0).length : Int)) = true := decide_eq_true c15
                            clear c15
                            have H' := Aside0.mk H
                            clear H
                            go_wp2
                            repeat (go_quiet (fail); try go_wp2)
                            go_loopg [9, 36] k3 (fun kq v9 v36 w' => ∃ (x9_4 : Int) (x36_4 : Int), v9 = .int .i64 x9_4 ∧ v36 = .int .i64 x36_4 ∧ Aside0 (quicksetref_ParEncode.l2 kq l0 x6_3 x24_2 x31_3 x9_4 (y149.length : Int) x24_2 ((rd_L1 l0 0).length : Int) x31_3 (l0.length : Int) x36_4 = some (r1, r2)) ∧ Aside0 (kq ≤ k3) ∧ Aside0 (Kd.S (Kd.slice 5 (Kd.int .u8)) 45 w' w.heap.size (fun _ => True) (.slice Ao12 x6_3.length co12) x6_3) ∧ Aside0 (Below w.heap.size w w'))
                            case atStart => exact ⟨(0), (0), (by first | rfl | (simp; done) | (simp [*]; done)), (by first | rfl | (simp; done) | (simp [*]; done)), H', ⟨Nat.le_refl _⟩, ⟨by (try simp only [hl6_2]); (try simp only [hl6_3]); (with_reducible repeat (first | apply Kd.S_alloc | apply Kd.S_drewN | apply Kd.S_drew)); exact HO_6.out⟩, ⟨by repeat (first | (with_reducible first | exact HB.out | apply below_alloc | apply pw_below_drewN | apply below_drew1) | exact HB.out)⟩⟩
                            case round =>
                              clear H'
                              try clear c1
                              try clear p1
                              try clear q1
                              try clear hx1
                              try clear qi1
                              try clear c2
                              try clear p2
                              try clear c4
                              try clear c6
                              try clear c6b0
                              try clear c7
                              try clear c8
                              try clear c8b0
                              try clear c8b1
                              try clear c9
                              try clear c9b0
                              try clear c9b1
                              try clear c13
                              try clear c13b0
                              try clear c14
                              try clear c14b0
                              try clear c14b1
                              try clear c15
                              try clear c15b0
                              try clear p15
                              try clear q15
                              try clear hx15
                              try clear qi15
                              try clear hx152_0
                              try clear p1
                              try clear p152
                              try clear p2
                              try clear q1
                              try clear q152
                              obtain ⟨x9_4, x36_4, rfl, rfl, HA, HK4, HO_6, HB⟩ := hrel
                              cases gk with
                              | zero => exact absurd HA.out (by simp [quicksetref_ParEncode.l2])
                              | succ k4 =>
                                have H := HA.out
                                clear HA
                                simp only [quicksetref_ParEncode.l2] at H
                                by_cases c16 : x36_4 < (l0.length : Int)
                                · rw [if_pos c16] at H
                                  have c16b0 : decide (x36_4 < (l0.length : Int)) = true := decide_eq_true c16
                                  clear c16
                                  replace H := Option.bind_eq_some_iff.mp H
                                  obtain ⟨t153, A170, H⟩ := H
                                  replace H : (if 0 ≤ x36_4 then (if x36_4 < (l0.length : Int) then (if 0 ≤ x31_3 then (if x31_3 < ((rd_L1 l0 x36_4).length : Int) then ((quicksetref_mulOf.f k4 t153 (wrap64 (rd (rd_L1 l0 x36_4) x31_3))).bind fun t156 => (quicksetref_ParEncode.l2 k4 l0 x6_3 x24_2 x31_3 (Go.bits .xor .i64 x9_4 t156) (y149.length : Int) x24_2 ((rd_L1 l0 0).length : Int) x31_3 (l0.length : Int) (wrap64 (x36_4 + 1)))) else (none)) else (none)) else (none)) else (none)) = some (r1, r2) := H
                                  have A17 := Aside0.mk A170
                                  clear A170
                                  by_cases c18 : 0 ≤ x36_4
                                  · rw [if_pos c18] at H
                                    have c18b0 : decide (0 ≤ x36_4) = true := decide_eq_true c18
                                    clear c18
                                    by_cases c19 : x36_4 < (l0.length : Int)
                                    · rw [if_pos c19] at H
                                      have c19b0 : decide (x36_4 < (l0.length : Int)) = true := decide_eq_true c19
                                      clear c19
                                      by_cases c20 : 0 ≤ x31_3
                                      · rw [if_pos c20] at H
                                        have c20b0 : decide (0 ≤ x31_3) = true := decide_eq_true c20
                                        clear c20
                                        by_cases c21 : x31_3 < ((rd_L1 l0 x36_4).length : Int)
                                        · rw [if_pos c21] at H
                                          have c21b0 : decide (x31_3 < ((rd_L1 l0 x36_4).length : Int)) = true := decide_eq_true c21
                                          clear c21
                                          replace H := Option.bind_eq_some_iff.mp H
                                          obtain ⟨t156, A220, H⟩ := H
                                          replace H : (quicksetref_ParEncode.l2 k4 l0 x6_3 x24_2 x31_3 (Go.bits .xor .i64 x9_4 t156) (y149.length : Int) x24_2 ((rd_L1 l0 0).length : Int) x31_3 (l0.length : Int) (wrap64 (x36_4 + 1))) = some (r1, r2) := H
                                          have A22 := Aside0.mk A220
                                          clear A220
                                          have H' := Aside0.mk H
                                          clear H
                                          have p154 : 0 ≤ (x36_4 : Int) := of_decide_eq_true (by first | (with_reducible assumption) | assumption)
                                          have q154 : x36_4 < (l0.length : Int) := of_decide_eq_true (by first | (with_reducible assumption) | assumption)
                                          obtain ⟨ad154, A154_0, c154_0, e154, hx154_0, hl154_0, hi154_0⟩ := at_L1 HR0.out x36_4 p154 q154
                                          obtain rfl : ad152 = ad154 := (by injection e154)
                                          replace hx154_0 := (HB.out.cell (World.block_lt_of_cell? w _ hx154_0)).trans hx154_0
                                          have HR154_0 := Aside0.mk hi154_0
                                          have HC154_0 := Aside0.mk hl154_0
                                          clear hi154_0 hl154_0
                                          replace p154 := eq_true p154
                                          replace q154 := eq_true q154
                                          have p155 : 0 ≤ (x31_3 : Int) := of_decide_eq_true (by first | (with_reducible assumption) | assumption)
                                          have q155 : x31_3 < ((rd_L1 l0 x36_4).length : Int) := of_decide_eq_true (by first | (with_reducible assumption) | assumption)
                                          obtain ⟨ad155, e155, hx155_0⟩ := Kd.at_int HR154_0.out x31_3 p155 q155
                                          cases e155
                                          replace hx155_0 := (HB.out.cell (World.block_lt_of_cell? w _ hx155_0)).trans hx155_0
                                          replace p155 := eq_true p155
                                          replace q155 := eq_true q155
                                          go_wp2_with (fail)
                                          repeat (go_quiet (first | (go_at_call 57; (with_reducible refine (quicksetref_expOf.calls k4 (wrap64 (x24_2 * x36_4)) t153 _ A17.out).mono ?_); rintro e w' ⟨rfl, ⟨nd, rfl⟩⟩; (try first | exact ⟨rfl, _, World.drewN_drewN _ _ _⟩ | exact ⟨rfl, _, Eq.trans (World.drewN_drewN _ _ _) (congrArg (World.drewN _) (Nat.add_assoc _ _ _))⟩)) | (go_at_call 46; (with_reducible refine (quicksetref_mulOf.calls k4 t153 (wrap64 (rd (rd_L1 l0 x36_4) x31_3)) t156 _ A22.out).mono ?_); rintro e w' ⟨rfl, ⟨nd, rfl⟩⟩; (try first | exact ⟨rfl, _, World.drewN_drewN _ _ _⟩ | exact ⟨rfl, _, Eq.trans (World.drewN_drewN _ _ _) (congrArg (World.drewN _) (Nat.add_assoc _ _ _))⟩))); try go_wp2)
                                          go_roundg k4
                                          case measure => have := HJ4.out; have := HK2.out; have := HK3.out; have := HK4.out; omega
                                          case rel => exact ⟨(Go.bits .xor .i64 x9_4 t156), (wrap64 (x36_4 + 1)), (by first | rfl | (simp; done) | (simp [*]; done)), (by first | rfl | (simp; done) | (simp [*]; done)), H', ⟨by have := HJ4.out; have := HK2.out; have := HK3.out; have := HK4.out; omega⟩, ⟨by (try simp only [hl6_2]); (try simp only [hl6_3]); (with_reducible repeat (first | apply Kd.S_alloc | apply Kd.S_drewN | apply Kd.S_drew)); exact HO_6.out⟩, ⟨by repeat (first | (with_reducible first | exact HB.out | apply below_alloc | apply pw_below_drewN | apply below_drew1) | exact HB.out)⟩⟩
                                        · rw [if_neg c21] at H
                                          exact absurd H (by simp)
                                      · rw [if_neg c20] at H
                                        exact absurd H (by simp)
                                    · rw [if_neg c19] at H
                                      exact absurd H (by simp)
                                  · rw [if_neg c18] at H
                                    exact absurd H (by simp)
                                · rw [if_neg c16] at H
                                  have c16b0 : decide (x36_4 < (l0.length : Int)) = false := decide_eq_false c16
                                  clear c16
                                  by_cases c23 : 0 ≤ x24_2
                                  · rw [if_pos c23] at H
                                    have c23b0 : decide (0 ≤ x24_2) = true := decide_eq_true c23
                                    clear c23
                                    by_cases c24 : x24_2 < (x6_3.length : Int)
                                    · rw [if_pos c24] at H
                                      have c24b0 : decide (x24_2 < (x6_3.length : Int)) = true := decide_eq_true c24
                                      clear c24
                                      by_cases c25 : (rd_L1 x6_3 x24_2).length < 140737488355328
                                      · rw [if_pos c25] at H
                                        have LMc25 := Aside0.mk c25
                                        clear c25
                                        obtain ⟨y158, hy158⟩ : ∃ y_ : List Int, y_ = ((rd_L1 x6_3 x24_2) ++ [(x9_4) % 256]) := ⟨_, rfl⟩
                                        replace H : (quicksetref_ParEncode.l1 k4 l0 (x6_3.set (x24_2 : Int).toNat y158) x24_2 (y149.length : Int) x24_2 ((rd_L1 l0 0).length : Int) (wrap64 (x31_3 + 1))) = some (r1, r2) := by first | (rw [hy158]; with_reducible exact H) | (have H2_ := (Option.bind_some _ _).symm.trans H; rw [hy158]; with_reducible exact H2_) | (have H2_ := (Option.bind_some _ _).symm.trans H; with_reducible exact H2_) | with_reducible exact H | (rw [hy158]; exact H) | exact H
                                        have Ny158 := Aside0.mk hy158
                                        clear hy158
                                        obtain ⟨y161, hy161⟩ : ∃ y_ : List (List Int), y_ = (x6_3.set (x24_2 : Int).toNat y158) := ⟨_, rfl⟩
                                        replace H : (quicksetref_ParEncode.l1 k4 l0 y161 x24_2 (y149.length : Int) x24_2 ((rd_L1 l0 0).length : Int) (wrap64 (x31_3 + 1))) = some (r1, r2) := by first | (rw [hy161]; with_reducible exact H) | (have H2_ := (Option.bind_some _ _).symm.trans H; rw [hy161]; with_reducible exact H2_) | (have H2_ := (Option.bind_some _ _).symm.trans H; with_reducible exact H2_) | with_reducible exact H | (rw [hy161]; exact H) | exact H
                                        have Ny161 := Aside0.mk hy161
                                        clear hy161
                                        have H' := Aside0.mk H
                                        clear H
                                        have p157 : 0 ≤ (x24_2 : Int) := of_decide_eq_true (by first | (with_reducible assumption) | assumption)
                                        have q157 : x24_2 < (x6_3.length : Int) := of_decide_eq_true (by first | (with_reducible assumption) | assumption)
                                        obtain ⟨ad157, A157_0, c157_0, e157, hx157_0, hl157_0, hi157_0⟩ := at_L1 (Kd.S_reads' HO_6.out).2.2 x24_2 p157 q157
                                        cases e157
                                        obtain ⟨ce157, hce157, hMe157, hcc157⟩ := Kd.S_get HO_6.out [] x24_2 p157 (by first | exact q157 | exact of_decide_eq_true (by first | (with_reducible assumption) | assumption) | (have e_ := (Kd.S_reads' HO_6.out).1; omega))
                                        obtain ⟨ve157_0, rfl, ge157_0⟩ := hMe157
                                        have hv157_0 := hcc157 0 _ rfl
                                        rw [Nat.add_zero, show ((Kd.slice 5 (Kd.int .u8))).sz = 1 from rfl, Nat.mul_one] at hv157_0
                                        replace hv157_0 := Option.some.inj (hv157_0.symm.trans hx157_0)
                                        rw [hv157_0] at ge157_0
                                        have HL157_0 := Aside0.mk (show Kd.R (Kd.int .u8) 5 _ _ _ _ (rd_L1 x6_3 x24_2) from ge157_0)
                                        clear hv157_0 ge157_0
                                        have HX157_0 := Aside0.mk hx157_0
                                        clear hcc157 hce157
                                        have HR157_0 := Aside0.mk hi157_0
                                        have HC157_0 := Aside0.mk hl157_0
                                        clear hi157_0 hl157_0
                                        replace p157 := eq_true p157
                                        replace q157 := eq_true q157
                                        obtain ⟨go27, co27, eo27, gb27, gl27, cl27, HG27⟩ := Kd.S_form HO_6.out (by have h_ : (x24_2 : Int) < ((x6_3.length : Int) : Int) := of_decide_eq_true (by first | (with_reducible assumption) | assumption); have h2_ : 0 ≤ (x24_2 : Int) := (of_decide_eq_true (by first | (with_reducible assumption) | assumption)); omega)
                                        (first | cases eo27 | (injection eo27 with ea_ en_ ec_; (first | subst ea_ | (injection ea_ with ea_; subst ea_)); subst ec_; clear en_))
                                        have GB27 := Aside0.mk gb27
                                        have GG27 := Aside0.mk HG27
                                        clear gb27 gl27 HG27
                                        (first | simp only [add_plain] at hx157_0 | skip)
                                        obtain ⟨oki27, ce27, hcl27, hM27, hcc27, _, _, hH27⟩ := Kd.S_elem HO_6.out [] (x24_2 : Int) (of_decide_eq_true (by first | (with_reducible assumption) | assumption)) (by have h_ : (x24_2 : Int) < ((x6_3.length : Int) : Int) := of_decide_eq_true (by first | (with_reducible assumption) | assumption); first | exact h_ | (have e_ := (Kd.S_reads' HO_6.out).1; omega) | simpa using h_)
                                        obtain ⟨ve27_0, rfl, ge27_0⟩ := hM27
                                        have hv27 := hcc27 0 _ rfl
                                        have hX27 := HX157_0.out
                                        (try simp only [add_plain] at hX27)
                                        (try simp only [Nat.add_zero] at hv27)
                                        (try rw [show ((Kd.slice 5 (Kd.int .u8))).sz = 1 from rfl, Nat.mul_one] at hv27)
                                        replace hv27 := Option.some.inj (hv27.symm.trans hX27)
                                        subst hv27
                                        clear hX27 hcc27 hcl27
                                        have UU27 := Aside0.mk (show Kd.R (Kd.int .u8) 5 _ w.heap.size oki27 (.slice A157_0 (rd_L1 x6_3 x24_2).length c157_0) (rd_L1 x6_3 x24_2) from ge27_0)
                                        have HH27 := Aside0.mk hH27
                                        have HN27 := Aside0.mk (Kd.S_reads' HO_6.out).1
                                        clear hH27 ge27_0
                                        go_wp2_with (first | ((with_reducible refine gate_builtin (b := .append) (xs := #[.tmp 60, .tmp 63]) rfl ?_); at_builtin; refine Kd.R_append (Kd.int .u8) (w0 := w) w.heap.size rfl (.tmp 60) (.tmp 63) 45 5 (.int .u8 0) 1 rfl Try.underlying45 info5 rfl (by decide) (by omega) (.slice A157_0 (rd_L1 x6_3 x24_2).length c157_0) (rd_L1 x6_3 x24_2) ((x9_4) % 256) [.int .u8 ((x9_4) % 256)] (fun k_ => oki27 k_ ∨ ((fun _ => True)) k_ ∧ wr.heap.size ≤ k_) (fun _ => False) rfl rfl ?aP (fun _ hk => hk.elim) ?aF ?aO ?aB ?aS ?aL ?_; (case aP => exact rfl); (case aB => exact (by repeat (first | (with_reducible first | exact HB.out | apply below_alloc | apply pw_below_drewN | apply below_drew1) | exact HB.out))); (case aF => exact (fun k_ hk => .inr ⟨trivial, hk⟩)); (case aO => exact (by (with_reducible repeat (first | apply Kd.R_alloc | apply Kd.R_drewN | apply Kd.R_drew)); exact Kd.R_mono UU27.out (fun _ hk => .inl hk))); (case aS => exact (below_size (by repeat (first | (with_reducible first | exact HB.out | apply below_alloc | apply pw_below_drewN | apply below_drew1) | exact HB.out)))); (case aL => have := LMc25.out; omega); intro v159 w28 ho hb hg hat; rw [← Ny158.out] at ho; have n0_ := Aside0.mk (hb); have n1_ := Aside0.mk (Kd.H_grown (Kd.H_widen (by repeat (first | exact HH27.out | refine Kd.H_alloc ?_ _ | refine Kd.H_drewN ?_ _ | refine Kd.H_drew ?_))) hg (fun k_ e_ => .inl (UU27.out.1 k_ e_))); have n2_ := Aside0.mk (ho); clear HB; clear HH27; clear HO_6; clear UU27; clear HL157_0; have HB := n0_; have HH27 := n1_; have HO160 := n2_; clear n0_ n1_ n2_; clear ho hb hg hat; have p26 : 0 ≤ (x24_2 : Int) := of_decide_eq_true (by first | (with_reducible assumption) | assumption); have q26 : (x24_2 : Int) < ((x6_3.length : Int) : Int) := of_decide_eq_true (by first | (with_reducible assumption) | assumption); replace p26 := eq_true p26; replace q26 := eq_true q26; obtain ⟨Ao31, co31, eo31⟩ := Kd.R_slice HO160.out; subst eo31; obtain ⟨_, _, hraw29, _, _, hcc29, _⟩ := Kd.H_raw HH27.out (of_decide_eq_true (by first | (with_reducible assumption) | assumption)) (by have h_ : (x24_2 : Int) < ((x6_3.length : Int) : Int) := of_decide_eq_true (by first | (with_reducible assumption) | assumption); first | exact h_ | (have e_ := (HN27.out); omega) | simpa using h_); obtain ⟨_, hfr29⟩ := Kd.H_at HH27.out (of_decide_eq_true (by first | (with_reducible assumption) | assumption)) (by have h_ : (x24_2 : Int) < ((x6_3.length : Int) : Int) := of_decide_eq_true (by first | (with_reducible assumption) | assumption); first | exact h_ | (have e_ := (HN27.out); omega) | simpa using h_); have hx29_0 := hcc29 0 _ rfl; have hf29_0 := hfr29 0; (try simp only [Nat.add_zero] at hx29_0 hf29_0); (try rw [show ((Kd.slice 5 (Kd.int .u8))).sz = 1 from rfl, Nat.mul_one] at hx29_0); (try rw [show ((Kd.slice 5 (Kd.int .u8))).sz = 1 from rfl, Nat.mul_one] at hf29_0); have HP29 := Kd.S_seg0 HH27.out (of_decide_eq_true (by first | (with_reducible assumption) | assumption)) (by have h_ : (x24_2 : Int) < ((x6_3.length : Int) : Int) := of_decide_eq_true (by first | (with_reducible assumption) | assumption); first | exact h_ | (have e_ := (HN27.out); omega) | simpa using h_) (seg := [.slice Ao31 y158.length co31]) (j := 0) (show 1 ≤ 1 from by decide) (x' := y158) (Kd.M_row HO160.out) (fun _ hk => hk); (try simp only [show ((Kd.slice 5 (Kd.int .u8))).sz = 1 from rfl, Nat.mul_one, Nat.add_zero] at HP29); clear hcc29 hfr29) | ((with_reducible refine gate_store (t := 45) (p := 65) rfl ?_); (try (rw [drewN_self w28]; generalize hq_ : World.drewN w28 _ = w28; have n0_ := Aside0.mk (Kd.S_at hq_ HO_6.out); have n1_ := Aside0.mk (below_at hq_ HB.out); clear hq_ HO_6 HB; have HO_6 := n0_; have HB := n1_; clear n0_ n1_; (try (obtain ⟨Ao31, co31, eo31⟩ := Kd.R_slice HO160.out)); (try (subst eo31)); (try (obtain ⟨_, _, hraw29, _, _, hcc29, _⟩ := Kd.H_raw HH27.out (of_decide_eq_true (by first | (with_reducible assumption) | assumption)) (by have h_ : (x24_2 : Int) < ((x6_3.length : Int) : Int) := of_decide_eq_true (by first | (with_reducible assumption) | assumption); first | exact h_ | (have e_ := (HN27.out); omega) | simpa using h_))); (try (obtain ⟨_, hfr29⟩ := Kd.H_at HH27.out (of_decide_eq_true (by first | (with_reducible assumption) | assumption)) (by have h_ : (x24_2 : Int) < ((x6_3.length : Int) : Int) := of_decide_eq_true (by first | (with_reducible assumption) | assumption); first | exact h_ | (have e_ := (HN27.out); omega) | simpa using h_))); (try (have hx29_0 := hcc29 0 _ rfl)); (try (have hf29_0 := hfr29 0)); (try (try simp only [Nat.add_zero] at hx29_0 hf29_0)); (try (try rw [show ((Kd.slice 5 (Kd.int .u8))).sz = 1 from rfl, Nat.mul_one] at hx29_0)); (try (try rw [show ((Kd.slice 5 (Kd.int .u8))).sz = 1 from rfl, Nat.mul_one] at hf29_0)); (try (have HP29 := Kd.S_seg0 HH27.out (of_decide_eq_true (by first | (with_reducible assumption) | assumption)) (by have h_ : (x24_2 : Int) < ((x6_3.length : Int) : Int) := of_decide_eq_true (by first | (with_reducible assumption) | assumption); first | exact h_ | (have e_ := (HN27.out); omega) | simpa using h_) (seg := [.slice Ao31 y158.length co31]) (j := 0) (show 1 ≤ 1 from by decide) (x' := y158) (Kd.M_row HO160.out) (fun _ hk => hk))); (try (try simp only [show ((Kd.slice 5 (Kd.int .u8))).sz = 1 from rfl, Nat.mul_one, Nat.add_zero] at HP29)); (try (clear hcc29 hfr29)))); refine store_event (t := 45) (p := 65) (v := ?vo_w30) (w1 := (w28.setCell ⟨go27, (x24_2 : Int).toNat, none⟩ (.slice Ao31 y158.length co31))) ?hg ?ho ?hn ?hr ?_; (case ho => rfl); (case hg => rfl); (case hn => rfl); (case hr => first | (go_simp; done) | (go_simp; rfl)); intro w30 hw; have hg : w28.grownBy w30 (some go27) := (by rw [hw]; exact HP29.2); have hp_ : Kd.S (Kd.slice 5 (Kd.int .u8)) 45 w30 w.heap.size (fun _ => True) (.slice (some ⟨go27, 0, none⟩) x6_3.length co12) y161 := (by rw [hw, Ny161.out]; exact HP29.1); clear HP29; have n0_ := Aside0.mk ((by rw [hw]; exact below_set HB.out GB27.out : Below w.heap.size w w30)); have n1_ := Aside0.mk (hp_); clear HB; clear HO160; clear HH27; have HB := n0_; have HO_6 := n1_; clear n0_ n1_; clear hg hw hp_ hraw29))
                                        repeat (go_quiet (first | ((with_reducible refine gate_builtin (b := .append) (xs := #[.tmp 60, .tmp 63]) rfl ?_); at_builtin; refine Kd.R_append (Kd.int .u8) (w0 := w) w.heap.size rfl (.tmp 60) (.tmp 63) 45 5 (.int .u8 0) 1 rfl Try.underlying45 info5 rfl (by decide) (by omega) (.slice A157_0 (rd_L1 x6_3 x24_2).length c157_0) (rd_L1 x6_3 x24_2) ((x9_4) % 256) [.int .u8 ((x9_4) % 256)] (fun k_ => oki27 k_ ∨ ((fun _ => True)) k_ ∧ wr.heap.size ≤ k_) (fun _ => False) rfl rfl ?aP (fun _ hk => hk.elim) ?aF ?aO ?aB ?aS ?aL ?_; (case aP => exact rfl); (case aB => exact (by repeat (first | (with_reducible first | exact HB.out | apply below_alloc | apply pw_below_drewN | apply below_drew1) | exact HB.out))); (case aF => exact (fun k_ hk => .inr ⟨trivial, hk⟩)); (case aO => exact (by (with_reducible repeat (first | apply Kd.R_alloc | apply Kd.R_drewN | apply Kd.R_drew)); exact Kd.R_mono UU27.out (fun _ hk => .inl hk))); (case aS => exact (below_size (by repeat (first | (with_reducible first | exact HB.out | apply below_alloc | apply pw_below_drewN | apply below_drew1) | exact HB.out)))); (case aL => have := LMc25.out; omega); intro v159 w28 ho hb hg hat; rw [← Ny158.out] at ho; have n0_ := Aside0.mk (hb); have n1_ := Aside0.mk (Kd.H_grown (Kd.H_widen (by repeat (first | exact HH27.out | refine Kd.H_alloc ?_ _ | refine Kd.H_drewN ?_ _ | refine Kd.H_drew ?_))) hg (fun k_ e_ => .inl (UU27.out.1 k_ e_))); have n2_ := Aside0.mk (ho); clear HB; clear HH27; clear HO_6; clear UU27; clear HL157_0; have HB := n0_; have HH27 := n1_; have HO160 := n2_; clear n0_ n1_ n2_; clear ho hb hg hat; have p26 : 0 ≤ (x24_2 : Int) := of_decide_eq_true (by first | (with_reducible assumption) | assumption); have q26 : (x24_2 : Int) < ((x6_3.length : Int) : Int) := of_decide_eq_true (by first | (with_reducible assumption) | assumption); replace p26 := eq_true p26; replace q26 := eq_true q26; obtain ⟨Ao31, co31, eo31⟩ := Kd.R_slice HO160.out; subst eo31; obtain ⟨_, _, hraw29, _, _, hcc29, _⟩ := Kd.H_raw HH27.out (of_decide_eq_true (by first | (with_reducible assumption) | assumption)) (by have h_ : (x24_2 : Int) < ((x6_3.length : Int) : Int) := of_decide_eq_true (by first | (with_reducible assumption) | assumption); first | exact h_ | (have e_ := (HN27.out); omega) | simpa using h_); obtain ⟨_, hfr29⟩ := Kd.H_at HH27.out (of_decide_eq_true (by first | (with_reducible assumption) | assumption)) (by have h_ : (x24_2 : Int) < ((x6_3.length : Int) : Int) := of_decide_eq_true (by first | (with_reducible assumption) | assumption); first | exact h_ | (have e_ := (HN27.out); omega) | simpa using h_); have hx29_0 := hcc29 0 _ rfl; have hf29_0 := hfr29 0; (try simp only [Nat.add_zero] at hx29_0 hf29_0); (try rw [show ((Kd.slice 5 (Kd.int .u8))).sz = 1 from rfl, Nat.mul_one] at hx29_0); (try rw [show ((Kd.slice 5 (Kd.int .u8))).sz = 1 from rfl, Nat.mul_one] at hf29_0); have HP29 := Kd.S_seg0 HH27.out (of_decide_eq_true (by first | (with_reducible assumption) | assumption)) (by have h_ : (x24_2 : Int) < ((x6_3.length : Int) : Int) := of_decide_eq_true (by first | (with_reducible assumption) | assumption); first | exact h_ | (have e_ := (HN27.out); omega) | simpa using h_) (seg := [.slice Ao31 y158.length co31]) (j := 0) (show 1 ≤ 1 from by decide) (x' := y158) (Kd.M_row HO160.out) (fun _ hk => hk); (try simp only [show ((Kd.slice 5 (Kd.int .u8))).sz = 1 from rfl, Nat.mul_one, Nat.add_zero] at HP29); clear hcc29 hfr29) | ((with_reducible refine gate_store (t := 45) (p := 65) rfl ?_); (try (rw [drewN_self w28]; generalize hq_ : World.drewN w28 _ = w28; have n0_ := Aside0.mk (Kd.S_at hq_ HO_6.out); have n1_ := Aside0.mk (below_at hq_ HB.out); clear hq_ HO_6 HB; have HO_6 := n0_; have HB := n1_; clear n0_ n1_; (try (obtain ⟨Ao31, co31, eo31⟩ := Kd.R_slice HO160.out)); (try (subst eo31)); (try (obtain ⟨_, _, hraw29, _, _, hcc29, _⟩ := Kd.H_raw HH27.out (of_decide_eq_true (by first | (with_reducible assumption) | assumption)) (by have h_ : (x24_2 : Int) < ((x6_3.length : Int) : Int) := of_decide_eq_true (by first | (with_reducible assumption) | assumption); first | exact h_ | (have e_ := (HN27.out); omega) | simpa using h_))); (try (obtain ⟨_, hfr29⟩ := Kd.H_at HH27.out (of_decide_eq_true (by first | (with_reducible assumption) | assumption)) (by have h_ : (x24_2 : Int) < ((x6_3.length : Int) : Int) := of_decide_eq_true (by first | (with_reducible assumption) | assumption); first | exact h_ | (have e_ := (HN27.out); omega) | simpa using h_))); (try (have hx29_0 := hcc29 0 _ rfl)); (try (have hf29_0 := hfr29 0)); (try (try simp only [Nat.add_zero] at hx29_0 hf29_0)); (try (try rw [show ((Kd.slice 5 (Kd.int .u8))).sz = 1 from rfl, Nat.mul_one] at hx29_0)); (try (try rw [show ((Kd.slice 5 (Kd.int .u8))).sz = 1 from rfl, Nat.mul_one] at hf29_0)); (try (have HP29 := Kd.S_seg0 HH27.out (of_decide_eq_true (by first | (with_reducible assumption) | assumption)) (by have h_ : (x24_2 : Int) < ((x6_3.length : Int) : Int) := of_decide_eq_true (by first | (with_reducible assumption) | assumption); first | exact h_ | (have e_ := (HN27.out); omega) | simpa using h_) (seg := [.slice Ao31 y158.length co31]) (j := 0) (show 1 ≤ 1 from by decide) (x' := y158) (Kd.M_row HO160.out) (fun _ hk => hk))); (try (try simp only [show ((Kd.slice 5 (Kd.int .u8))).sz = 1 from rfl, Nat.mul_one, Nat.add_zero] at HP29)); (try (clear hcc29 hfr29)))); refine store_event (t := 45) (p := 65) (v := ?vo_w30) (w1 := (w28.setCell ⟨go27, (x24_2 : Int).toNat, none⟩ (.slice Ao31 y158.length co31))) ?hg ?ho ?hn ?hr ?_; (case ho => rfl); (case hg => rfl); (case hn => rfl); (case hr => first | (go_simp; done) | (go_simp; rfl)); intro w30 hw; have hg : w28.grownBy w30 (some go27) := (by rw [hw]; exact HP29.2); have hp_ : Kd.S (Kd.slice 5 (Kd.int .u8)) 45 w30 w.heap.size (fun _ => True) (.slice (some ⟨go27, 0, none⟩) x6_3.length co12) y161 := (by rw [hw, Ny161.out]; exact HP29.1); clear HP29; have n0_ := Aside0.mk ((by rw [hw]; exact below_set HB.out GB27.out : Below w.heap.size w w30)); have n1_ := Aside0.mk (hp_); clear HB; clear HO160; clear HH27; have HB := n0_; have HO_6 := n1_; clear n0_ n1_; clear hg hw hp_ hraw29)); try go_wp2_with (first | ((with_reducible refine gate_builtin (b := .append) (xs := #[.tmp 60, .tmp 63]) rfl ?_); at_builtin; refine Kd.R_append (Kd.int .u8) (w0 := w) w.heap.size rfl (.tmp 60) (.tmp 63) 45 5 (.int .u8 0) 1 rfl Try.underlying45 info5 rfl (by decide) (by omega) (.slice A157_0 (rd_L1 x6_3 x24_2).length c157_0) (rd_L1 x6_3 x24_2) ((x9_4) % 256) [.int .u8 ((x9_4) % 256)] (fun k_ => oki27 k_ ∨ ((fun _ => True)) k_ ∧ wr.heap.size ≤ k_) (fun _ => False) rfl rfl ?aP (fun _ hk => hk.elim) ?aF ?aO ?aB ?aS ?aL ?_; (case aP => exact rfl); (case aB => exact (by repeat (first | (with_reducible first | exact HB.out | apply below_alloc | apply pw_below_drewN | apply below_drew1) | exact HB.out))); (case aF => exact (fun k_ hk => .inr ⟨trivial, hk⟩)); (case aO => exact (by (with_reducible repeat (first | apply Kd.R_alloc | apply Kd.R_drewN | apply Kd.R_drew)); exact Kd.R_mono UU27.out (fun _ hk => .inl hk))); (case aS => exact (below_size (by repeat (first | (with_reducible first | exact HB.out | apply below_alloc | apply pw_below_drewN | apply below_drew1) | exact HB.out)))); (case aL => have := LMc25.out; omega); intro v159 w28 ho hb hg hat; rw [← Ny158.out] at ho; have n0_ := Aside0.mk (hb); have n1_ := Aside0.mk (Kd.H_grown (Kd.H_widen (by repeat (first | exact HH27.out | refine Kd.H_alloc ?_ _ | refine Kd.H_drewN ?_ _ | refine Kd.H_drew ?_))) hg (fun k_ e_ => .inl (UU27.out.1 k_ e_))); have n2_ := Aside0.mk (ho); clear HB; clear HH27; clear HO_6; clear UU27; clear HL157_0; have HB := n0_; have HH27 := n1_; have HO160 := n2_; clear n0_ n1_ n2_; clear ho hb hg hat; have p26 : 0 ≤ (x24_2 : Int) := of_decide_eq_true (by first | (with_reducible assumption) | assumption); have q26 : (x24_2 : Int) < ((x6_3.length : Int) : Int) := of_decide_eq_true (by first | (with_reducible assumption) | assumption); replace p26 := eq_true p26; replace q26 := eq_true q26; obtain ⟨Ao31, co31, eo31⟩ := Kd.R_slice HO160.out; subst eo31; obtain ⟨_, _, hraw29, _, _, hcc29, _⟩ := Kd.H_raw HH27.out (of_decide_eq_true (by first | (with_reducible assumption) | assumption)) (by have h_ : (x24_2 : Int) < ((x6_3.length : Int) : Int) := of_decide_eq_true (by first | (with_reducible assumption) | assumption); first | exact h_ | (have e_ := (HN27.out); omega) | simpa using h_); obtain ⟨_, hfr29⟩ := Kd.H_at HH27.out (of_decide_eq_true (by first | (with_reducible assumption) | assumption)) (by have h_ : (x24_2 : Int) < ((x6_3.length : Int) : Int) := of_decide_eq_true (by first | (with_reducible assumption) | assumption); first | exact h_ | (have e_ := (HN27.out); omega) | simpa using h_); have hx29_0 := hcc29 0 _ rfl; have hf29_0 := hfr29 0; (try simp only [Nat.add_zero] at hx29_0 hf29_0); (try rw [show ((Kd.slice 5 (Kd.int .u8))).sz = 1 from rfl, Nat.mul_one] at hx29_0); (try rw [show ((Kd.slice 5 (Kd.int .u8))).sz = 1 from rfl, Nat.mul_one] at hf29_0); have HP29 := Kd.S_seg0 HH27.out (of_decide_eq_true (by first | (with_reducible assumption) | assumption)) (by have h_ : (x24_2 : Int) < ((x6_3.length : Int) : Int) := of_decide_eq_true (by first | (with_reducible assumption) | assumption); first | exact h_ | (have e_ := (HN27.out); omega) | simpa using h_) (seg := [.slice Ao31 y158.length co31]) (j := 0) (show 1 ≤ 1 from by decide) (x' := y158) (Kd.M_row HO160.out) (fun _ hk => hk); (try simp only [show ((Kd.slice 5 (Kd.int .u8))).sz = 1 from rfl, Nat.mul_one, Nat.add_zero] at HP29); clear hcc29 hfr29) | ((with_reducible refine gate_store (t := 45) (p := 65) rfl ?_); (try (rw [drewN_self w28]; generalize hq_ : World.drewN w28 _ = w28; have n0_ := Aside0.mk (Kd.S_at hq_ HO_6.out); have n1_ := Aside0.mk (below_at hq_ HB.out); clear hq_ HO_6 HB; have HO_6 := n0_; have HB := n1_; clear n0_ n1_; (try (obtain ⟨Ao31, co31, eo31⟩ := Kd.R_slice HO160.out)); (try (subst eo31)); (try (obtain ⟨_, _, hraw29, _, _, hcc29, _⟩ := Kd.H_raw HH27.out (of_decide_eq_true (by first | (with_reducible assumption) | assumption)) (by have h_ : (x24_2 : Int) < ((x6_3.length : Int) : Int) := of_decide_eq_true (by first | (with_reducible assumption) | assumption); first | exact h_ | (have e_ := (HN27.out); omega) | simpa using h_))); (try (obtain ⟨_, hfr29⟩ := Kd.H_at HH27.out (of_decide_eq_true (by first | (with_reducible assumption) | assumption)) (by have h_ : (x24_2 : Int) < ((x6_3.length : Int) : Int) := of_decide_eq_true (by first | (with_reducible assumption) | assumption); first | exact h_ | (have e_ := (HN27.out); omega) | simpa using h_))); (try (have hx29_0 := hcc29 0 _ rfl)); (try (have hf29_0 := hfr29 0)); (try (try simp only [Nat.add_zero] at hx29_0 hf29_0)); (try (try rw [show ((Kd.slice 5 (Kd.int .u8))).sz = 1 from rfl, Nat.mul_one] at hx29_0)); (try (try rw [show ((Kd.slice 5 (Kd.int .u8))).sz = 1 from rfl, Nat.mul_one] at hf29_0)); (try (have HP29 := Kd.S_seg0 HH27.out (of_decide_eq_true (by first | (with_reducible assumption) | assumption)) (by have h_ : (x24_2 : Int) < ((x6_3.length : Int) : Int) := of_decide_eq_true (by first | (with_reducible assumption) | assumption); first | exact h_ | (have e_ := (HN27.out); omega) | simpa using h_) (seg := [.slice Ao31 y158.length co31]) (j := 0) (show 1 ≤ 1 from by decide) (x' := y158) (Kd.M_row HO160.out) (fun _ hk => hk))); (try (try simp only [show ((Kd.slice 5 (Kd.int .u8))).sz = 1 from rfl, Nat.mul_one, Nat.add_zero] at HP29)); (try (clear hcc29 hfr29)))); refine store_event (t := 45) (p := 65) (v := ?vo_w30) (w1 := (w28.setCell ⟨go27, (x24_2 : Int).toNat, none⟩ (.slice Ao31 y158.length co31))) ?hg ?ho ?hn ?hr ?_; (case ho => rfl); (case hg => rfl); (case hn => rfl); (case hr => first | (go_simp; done) | (go_simp; rfl)); intro w30 hw; have hg : w28.grownBy w30 (some go27) := (by rw [hw]; exact HP29.2); have hp_ : Kd.S (Kd.slice 5 (Kd.int .u8)) 45 w30 w.heap.size (fun _ => True) (.slice (some ⟨go27, 0, none⟩) x6_3.length co12) y161 := (by rw [hw, Ny161.out]; exact HP29.1); clear HP29; have n0_ := Aside0.mk ((by rw [hw]; exact below_set HB.out GB27.out : Below w.heap.size w w30)); have n1_ := Aside0.mk (hp_); clear HB; clear HO160; clear HH27; have HB := n0_; have HO_6 := n1_; clear n0_ n1_; clear hg hw hp_ hraw29)))
                                        (try simp only [← hl6_3])
                                        go_roundg k4
                                        case measure => have := HJ4.out; have := HK2.out; have := HK3.out; have := HK4.out; omega
                                        case rel => exact ⟨(y161), (wrap64 (x31_3 + 1)), (by first | rfl | (simp; done) | (simp [*]; done)), H', ⟨by have := HJ4.out; have := HK2.out; have := HK3.out; have := HK4.out; omega⟩, ⟨by (try simp only [hl6_2]); (try simp only [hl6_3]); (with_reducible repeat (first | apply Kd.S_alloc | apply Kd.S_drewN | apply Kd.S_drew)); exact HO_6.out⟩, ⟨by repeat (first | (with_reducible first | exact HB.out | apply below_alloc | apply pw_below_drewN | apply below_drew1) | exact HB.out)⟩⟩
                                      · rw [if_neg c25] at H
                                        exact absurd H (by simp)
                                    · rw [if_neg c24] at H
                                      exact absurd H (by simp)
                                  · rw [if_neg c23] at H
                                    exact absurd H (by simp)
                          · rw [if_neg c15] at H
                            have c15b0 : decide (x31_3 < ((rd_L1 l0 0).length : Int)) = false := decide_eq_false c15
                            clear c15
                            have H' := Aside0.mk H
                            clear H
                            go_wp2
                            repeat (go_quiet (fail); try go_wp2)
                            (try simp only [← hl6_2, ← hl6_3])
                            go_roundg k3
                            case measure => have := HJ4.out; have := HK2.out; have := HK3.out; omega
                            case rel => exact ⟨(x6_3), (wrap64 (x24_2 + 1)), (by first | rfl | (simp; done) | (simp [*]; done)), H', ⟨by have := HJ4.out; have := HK2.out; have := HK3.out; omega⟩, ⟨by (try simp only [hl6_2]); (try simp only [hl6_3]); (with_reducible repeat (first | apply Kd.S_alloc | apply Kd.S_drewN | apply Kd.S_drew)); exact HO_6.out⟩, ⟨by repeat (first | (with_reducible first | exact HB.out | apply below_alloc | apply pw_below_drewN | apply below_drew1) | exact HB.out)⟩⟩
                    · rw [if_neg c14] at H
                      exact absurd H (by simp)
                  · rw [if_neg c13] at H
                    have c13b0 : decide (x24_2 < (y149.length : Int)) = false := decide_eq_false c13
                    (try have c13b9a := (show decide (x24_2 < (x6_2.length : Int)) = false by rw [← hl6_2]; exact c13b0))
                    (try have c13b9b := (show decide (x24_2 < (x6_3.length : Int)) = false by rw [← hl6_3]; exact c13b0))
                    clear c13
                    simp only [Option.some.injEq, Prod.mk.injEq] at H
                    obtain ⟨rfl, rfl⟩ := H
                    go_wp2
                    repeat (go_quiet (fail); try go_wp2)
                    go_ret2
                    exact ⟨_, by first | rfl | (simp [errW_none, errW_some] <;> rfl) | (simp [*, errW_none, errW_some] <;> rfl), by (with_reducible repeat (first | apply Kd.S_alloc | apply Kd.S_drewN | apply Kd.S_drew)); exact HO_6.out, by repeat (first | (with_reducible first | exact HB.out | apply below_alloc | apply pw_below_drewN | apply below_drew1) | exact HB.out)⟩
            · rw [if_neg c9] at H
              exact absurd H (by simp)
          · rw [if_neg c8] at H
            exact absurd H (by simp)
  · replace c4 := Bool.eq_false_iff.mpr c4
    subst c4
    have H1 : (some (([] : List (List Int)), 4)) = some (r1, r2) := by rw [if_neg (show ¬ (false = true) by decide)] at H; exact H
    clear H
    have H := H1
    clear H1
    simp only [Option.some.injEq, Prod.mk.injEq] at H
    obtain ⟨rfl, rfl⟩ := H
    go_enter Try.func25, Try.ntmps25
    go_wp2_with (first | (go_at_call 56; (with_reducible refine (quicksetref_ParMay.calls k _ _ l0 false _ ?side1 ?side2 A3.out).mono ?_); (case side1 => repeat (first | exact HR0.out | (with_reducible refine Kd.C_alloc ?_ _) | (with_reducible refine Kd.C_drewN ?_ _) | (with_reducible refine Kd.C_drew ?_))); (case side2 => exact HC0.out); rintro e w' ⟨rfl, ⟨nd, rfl⟩⟩; (try first | exact ⟨rfl, _, World.drewN_drewN _ _ _⟩ | exact ⟨rfl, _, Eq.trans (World.drewN_drewN _ _ _) (congrArg (World.drewN _) (Nat.add_assoc _ _ _))⟩)))
    repeat (go_quiet (first | (go_at_call 56; (with_reducible refine (quicksetref_ParMay.calls k _ _ l0 false _ ?side1 ?side2 A3.out).mono ?_); (case side1 => repeat (first | exact HR0.out | (with_reducible refine Kd.C_alloc ?_ _) | (with_reducible refine Kd.C_drewN ?_ _) | (with_reducible refine Kd.C_drew ?_))); (case side2 => exact HC0.out); rintro e w' ⟨rfl, ⟨nd, rfl⟩⟩; (try first | exact ⟨rfl, _, World.drewN_drewN _ _ _⟩ | exact ⟨rfl, _, Eq.trans (World.drewN_drewN _ _ _) (congrArg (World.drewN _) (Nat.add_assoc _ _ _))⟩))); try go_wp2_with (first | (go_at_call 56; (with_reducible refine (quicksetref_ParMay.calls k _ _ l0 false _ ?side1 ?side2 A3.out).mono ?_); (case side1 => repeat (first | exact HR0.out | (with_reducible refine Kd.C_alloc ?_ _) | (with_reducible refine Kd.C_drewN ?_ _) | (with_reducible refine Kd.C_drew ?_))); (case side2 => exact HC0.out); rintro e w' ⟨rfl, ⟨nd, rfl⟩⟩; (try first | exact ⟨rfl, _, World.drewN_drewN _ _ _⟩ | exact ⟨rfl, _, Eq.trans (World.drewN_drewN _ _ _) (congrArg (World.drewN _) (Nat.add_assoc _ _ _))⟩))))
    go_ret2
    exact ⟨_, by first | rfl | (simp [errW_none, errW_some] <;> rfl) | (simp [*, errW_none, errW_some] <;> rfl), by first | exact Kd.S_nil _ _ _ _ _ | exact Kd.N_nil _ _ _ _ _ | exact Kd.V_nil _ _ _ _ _ | exact Kd.Q_nil _ _ _ _ _ | exact Kd.R_nil _ _ _ _ _, by repeat (first | (with_reducible first | exact HB.out | apply below_alloc | apply pw_below_drewN | apply below_drew1) | exact HB.out)⟩

/-! ### quicksetlaw_sameBytes: function 34 -/
def quicksetlaw_sameBytes.l0 : Nat → List Int → List Int → Int → Option (Bool)
  | 0, _, _, _ => none
  | k + 1, x0, x1, x5 => if x5 < (x0.length : Int) then (if 0 ≤ x5 then (if x5 < (x1.length : Int) then (if (rd x0 x5) = (rd x1 x5) then (quicksetlaw_sameBytes.l0 k x0 x1 (wrap64 (x5 + 1))) else (some false)) else (none)) else (none)) else (some true)
def quicksetlaw_sameBytes.f (k : Nat) (l0 : List Int) (l1 : List Int) : Option (Bool) := if (l0.length : Int) = (l1.length : Int) then (quicksetlaw_sameBytes.l0 k l0 l1 0) else (some false)
theorem quicksetlaw_sameBytes.mono_l : ∀ k, (∀ y0 y1 y2, LeO (quicksetlaw_sameBytes.l0 k y0 y1 y2) (quicksetlaw_sameBytes.l0 (k + 1) y0 y1 y2))
  | 0 => fun _ _ _ r h => by simp [quicksetlaw_sameBytes.l0] at h
  | k + 1 => by
    have ih0 := quicksetlaw_sameBytes.mono_l k
    · intro y0 y1 y2
      unfold quicksetlaw_sameBytes.l0
      repeat' first
      | (with_reducible exact ih0 _ _ _)
      | (with_reducible exact LeO.refl _)
      | (with_reducible exact LeO.none _)
      | (with_reducible refine LeO.ite ?_ ?_)
      | (with_reducible refine LeO.bind ?_ (fun _ => ?_))
      | exact ih0 _ _ _
      | exact LeO.none _
      | refine LeO.ite ?_ ?_
      | refine LeO.bind ?_ (fun _ => ?_)
theorem quicksetlaw_sameBytes.mono : ∀ a0 a1 k, LeO (quicksetlaw_sameBytes.f k a0 a1) (quicksetlaw_sameBytes.f (k + 1) a0 a1) := by
  intro a0 a1 k
  have ih0 := quicksetlaw_sameBytes.mono_l k
  unfold quicksetlaw_sameBytes.f
  repeat' first
      | (with_reducible exact ih0 _ _ _)
      | (with_reducible exact LeO.refl _)
      | (with_reducible exact LeO.none _)
      | (with_reducible refine LeO.ite ?_ ?_)
      | (with_reducible refine LeO.bind ?_ (fun _ => ?_))
      | exact ih0 _ _ _
      | exact LeO.none _
      | refine LeO.ite ?_ ?_
      | refine LeO.bind ?_ (fun _ => ?_)
set_option maxHeartbeats 8000000 in
set_option maxRecDepth 100000 in
theorem quicksetlaw_sameBytes.calls (k : Nat) (A0 : Option Addr) (c0 : Nat) (l0 : List Int) (A1 : Option Addr) (c1 : Nat) (l1 : List Int) (r : Bool) (w : World) (hr0 : Kd.C (Kd.int .u8) w A0 l0.length l0) (hc0 : l0.length ≤ c0) (hr1 : Kd.C (Kd.int .u8) w A1 l1.length l1) (hc1 : l1.length ≤ c1) (h : quicksetlaw_sameBytes.f k l0 l1 = some r) :
    Calls Try.prog 34 #[.slice A0 l0.length c0, .slice A1 l1.length c1] w fun e w' => e = .returned (.bool r) ∧ Drawn0 w w' := by
  have HR0 := Aside0.mk hr0
  have HC0 := Aside0.mk hc0
  clear hr0 hc0
  have HR1 := Aside0.mk hr1
  have HC1 := Aside0.mk hc1
  clear hr1 hc1
  have H : (if (l0.length : Int) = (l1.length : Int) then (quicksetlaw_sameBytes.l0 k l0 l1 0) else (some false)) = some r := h
  clear h
  by_cases c3 : (l0.length : Int) = (l1.length : Int)
  · rw [if_pos c3] at H
    have c3b0 : ((l0.length : Int) == (l1.length : Int)) = true := beq_iff_eq.mpr c3
    have c3b1 : ((l0.length : Int) != (l1.length : Int)) = false := bne_eq_false_iff_eq.mpr c3
    have c3b2 : (l0.length == l1.length) = true := by first | simpa using c3 | (simp at c3 ⊢; omega)
    clear c3
    have H' := Aside0.mk H
    clear H
    go_enter Try.func34, Try.ntmps34
    go_wp2
    repeat (go_quiet (fail); try go_wp2)
    go_loopg [5] k (fun kq v5 w' => ∃ (x5_1 : Int), v5 = .int .i64 x5_1 ∧ Aside0 (quicksetlaw_sameBytes.l0 kq l0 l1 x5_1 = some r) ∧ Aside0 (kq ≤ k) ∧ Drawn0 w w')
    case atStart => exact ⟨(0), (by first | rfl | (simp; done) | (simp [*]; done)), H', ⟨Nat.le_refl _⟩, by repeat (first | exact Drawn0.refl _ | apply Drawn0.step)⟩
    case round =>
      clear H'
      try clear c1
      try clear p2
      try clear c3
      try clear c3b0
      try clear c3b1
      try clear c3b2
      obtain ⟨x5_1, rfl, HA, HK1, ⟨m1, rfl⟩⟩ := hrel
      cases gk with
      | zero => exact absurd HA.out (by simp [quicksetlaw_sameBytes.l0])
      | succ k1 =>
        have H := HA.out
        clear HA
        simp only [quicksetlaw_sameBytes.l0] at H
        by_cases c4 : x5_1 < (l0.length : Int)
        · rw [if_pos c4] at H
          have c4b0 : decide (x5_1 < (l0.length : Int)) = true := decide_eq_true c4
          clear c4
          by_cases c5 : 0 ≤ x5_1
          · rw [if_pos c5] at H
            have c5b0 : decide (0 ≤ x5_1) = true := decide_eq_true c5
            clear c5
            by_cases c6 : x5_1 < (l1.length : Int)
            · rw [if_pos c6] at H
              have c6b0 : decide (x5_1 < (l1.length : Int)) = true := decide_eq_true c6
              clear c6
              by_cases c7 : (rd l0 x5_1) = (rd l1 x5_1)
              · rw [if_pos c7] at H
                have c7b0 : ((rd l0 x5_1) == (rd l1 x5_1)) = true := beq_iff_eq.mpr c7
                have c7b1 : ((rd l0 x5_1) != (rd l1 x5_1)) = false := bne_eq_false_iff_eq.mpr c7
                clear c7
                have H' := Aside0.mk H
                clear H
                have p162 : 0 ≤ (x5_1 : Int) := of_decide_eq_true (by first | (with_reducible assumption) | assumption)
                have q162 : x5_1 < (l0.length : Int) := of_decide_eq_true (by first | (with_reducible assumption) | assumption)
                obtain ⟨ad162, e162, hx162_0⟩ := Kd.at_int HR0.out x5_1 p162 q162
                cases e162
                replace p162 := eq_true p162
                replace q162 := eq_true q162
                have p163 : 0 ≤ (x5_1 : Int) := of_decide_eq_true (by first | (with_reducible assumption) | assumption)
                have q163 : x5_1 < (l1.length : Int) := of_decide_eq_true (by first | (with_reducible assumption) | assumption)
                obtain ⟨ad163, e163, hx163_0⟩ := Kd.at_int HR1.out x5_1 p163 q163
                cases e163
                replace p163 := eq_true p163
                replace q163 := eq_true q163
                go_wp2
                repeat (go_quiet (fail); try go_wp2)
                go_roundg k1
                case measure => have := HK1.out; omega
                case rel => exact ⟨(wrap64 (x5_1 + 1)), (by first | rfl | (simp; done) | (simp [*]; done)), H', ⟨by have := HK1.out; omega⟩, by repeat (first | exact Drawn0.refl _ | apply Drawn0.step)⟩
              · rw [if_neg c7] at H
                have c7b0 : ((rd l0 x5_1) == (rd l1 x5_1)) = false := beq_eq_false_iff_ne.mpr c7
                have c7b1 : ((rd l0 x5_1) != (rd l1 x5_1)) = true := bne_iff_ne.mpr c7
                obtain rfl := Option.some.inj H
                have p162 : 0 ≤ (x5_1 : Int) := of_decide_eq_true (by first | (with_reducible assumption) | assumption)
                have q162 : x5_1 < (l0.length : Int) := of_decide_eq_true (by first | (with_reducible assumption) | assumption)
                obtain ⟨ad162, e162, hx162_0⟩ := Kd.at_int HR0.out x5_1 p162 q162
                cases e162
                replace p162 := eq_true p162
                replace q162 := eq_true q162
                have p163 : 0 ≤ (x5_1 : Int) := of_decide_eq_true (by first | (with_reducible assumption) | assumption)
                have q163 : x5_1 < (l1.length : Int) := of_decide_eq_true (by first | (with_reducible assumption) | assumption)
                obtain ⟨ad163, e163, hx163_0⟩ := Kd.at_int HR1.out x5_1 p163 q163
                cases e163
                replace p163 := eq_true p163
                replace q163 := eq_true q163
                go_wp2
                repeat (go_quiet (fail); try go_wp2)
                go_ret
                exact ⟨by first | rfl | (simp; done) | (simp [*]; done), by repeat (first | exact Drawn0.refl _ | apply Drawn0.step)⟩
            · rw [if_neg c6] at H
              exact absurd H (by simp)
          · rw [if_neg c5] at H
            exact absurd H (by simp)
        · rw [if_neg c4] at H
          have c4b0 : decide (x5_1 < (l0.length : Int)) = false := decide_eq_false c4
          clear c4
          obtain rfl := Option.some.inj H
          go_wp2
          repeat (go_quiet (fail); try go_wp2)
          go_ret
          exact ⟨by first | rfl | (simp; done) | (simp [*]; done), by repeat (first | exact Drawn0.refl _ | apply Drawn0.step)⟩
  · rw [if_neg c3] at H
    have c3b0 : ((l0.length : Int) == (l1.length : Int)) = false := beq_eq_false_iff_ne.mpr c3
    have c3b1 : ((l0.length : Int) != (l1.length : Int)) = true := bne_iff_ne.mpr c3
    have c3b2 : (l0.length == l1.length) = false := by first | simpa using c3 | (simp at c3 ⊢; omega)
    obtain rfl := Option.some.inj H
    go_enter Try.func34, Try.ntmps34
    go_wp2
    repeat (go_quiet (fail); try go_wp2)
    go_ret
    exact ⟨by first | rfl | (simp; done) | (simp [*]; done), by repeat (first | exact Drawn0.refl _ | apply Drawn0.step)⟩

end Go.Proofs.Ytpaenlplpaabjaa.QParEncodes
