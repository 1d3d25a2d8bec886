/- Printed from a stub by wip/stub.py with the kit's print.py, then turned by hand. -/
import Derived.Test.YtpaenlplpaabjaaQStripeLaysx0
import Derived.Test.YtpaenlplpaabjaaQStripeLaysx6
namespace Go.Proofs.Ytpaenlplpaabjaa.QStripeLays
open Go.RowKit Go.Proofs.YtpaenlplpaabjaaW.PrintWords Go.Proofs.YtpaenlplpaabjaaW.PrintLast Go.Proofs.YtpaenlplpaabjaaW.PrintMore
attribute [local go_sem] max2_int min2_int max_two min_two max_three min_three max_four min_four   -- for this text's walks alone
set_option linter.unusedVariables false
set_option linter.unusedSimpArgs false

/-! ### quicksetref_GeomColumns: function 68 -/
mutual
def quicksetref_GeomColumns.j0 : Nat → Int → Int → Int → Int → Bool → Option ((List (S87)) × Int)
  | 0, _, _, _, _, _ => none
  | k + 1, x0, x1, x2, x3, x33 => if x33 = true then (some (([] : List (S87)), 2)) else (quicksetref_GeomColumns.l0 k x0 x1 x2 x3 ([] : List (S87)) 0)
def quicksetref_GeomColumns.l0 : Nat → Int → Int → Int → Int → List (S87) → Int → Option ((List (S87)) × Int)
  | 0, _, _, _, _, _, _ => none
  | k + 1, x0, x1, x2, x3, x10, x11 => if (wrap64 (x11 * (wrap64 (x0 - x1)))) < x3 then (quicksetref_GeomColumns.l1 k x0 x1 x2 x3 x10 x11 (wrap64 (x1 + (mn (wrap64 (x0 - x1)) (wrap64 (x3 - (wrap64 (x11 * (wrap64 (x0 - x1))))))))) 0) else (some (x10, 0))
def quicksetref_GeomColumns.l1 : Nat → Int → Int → Int → Int → List (S87) → Int → Int → Int → Option ((List (S87)) × Int)
  | 0, _, _, _, _, _, _, _, _ => none
  | k + 1, x0, x1, x2, x3, x10, x11, x12, x13 => if x13 < x12 then (if x11 = 0 then (if x0 = 0 then (none) else (if x10.length < 4398046511104 then ((some (x10 ++ [(⟨Int.tmod (wrap64 (x2 + x13)) x0, wrap64 (Int.tdiv (wrap64 (x2 + x13)) x0), 0, decide (x13 < x1)⟩ : S87)] : List (S87))).bind fun y205 => (if 0 ≤ x13 then (if x13 < (y205.length : Int) then (quicksetref_GeomColumns.l1 k x0 x1 x2 x3 (y205.set (x13 : Int).toNat (⟨(rd_T87 y205 x13).f0, (rd_T87 y205 x13).f1, wrap64 (((rd_T87 y205 x13).f2) + 1), (rd_T87 y205 x13).f3⟩ : S87)) x11 x12 (wrap64 (x13 + 1))) else (none)) else (none))) else (none))) else (if 0 ≤ x13 then (if x13 < (x10.length : Int) then (quicksetref_GeomColumns.l1 k x0 x1 x2 x3 (x10.set (x13 : Int).toNat (⟨(rd_T87 x10 x13).f0, (rd_T87 x10 x13).f1, wrap64 (((rd_T87 x10 x13).f2) + 1), (rd_T87 x10 x13).f3⟩ : S87)) x11 x12 (wrap64 (x13 + 1))) else (none)) else (none))) else (quicksetref_GeomColumns.l0 k x0 x1 x2 x3 x10 (wrap64 (x11 + 1)))
end
def quicksetref_GeomColumns.f (k : Nat) (a0 : Int) (a1 : Int) (a2 : Int) (a3 : Int) : Option ((List (S87)) × Int) := (quicksetref_badShape.f a0 a1).bind fun t204 => (if t204 = true then (quicksetref_GeomColumns.j0 k a0 a1 a2 a3 true) else (if a3 < 1 then (quicksetref_GeomColumns.j0 k a0 a1 a2 a3 true) else (if a3 > 32 then (quicksetref_GeomColumns.j0 k a0 a1 a2 a3 true) else (if a2 < 0 then (quicksetref_GeomColumns.j0 k a0 a1 a2 a3 true) else (quicksetref_GeomColumns.j0 k a0 a1 a2 a3 (decide (a2 > 65536)))))))
theorem quicksetref_GeomColumns.mono_l : ∀ k, (∀ y0 y1 y2 y3 y4, LeO (quicksetref_GeomColumns.j0 k y0 y1 y2 y3 y4) (quicksetref_GeomColumns.j0 (k + 1) y0 y1 y2 y3 y4)) ∧ (∀ y0 y1 y2 y3 y4 y5, LeO (quicksetref_GeomColumns.l0 k y0 y1 y2 y3 y4 y5) (quicksetref_GeomColumns.l0 (k + 1) y0 y1 y2 y3 y4 y5)) ∧ (∀ y0 y1 y2 y3 y4 y5 y6 y7, LeO (quicksetref_GeomColumns.l1 k y0 y1 y2 y3 y4 y5 y6 y7) (quicksetref_GeomColumns.l1 (k + 1) y0 y1 y2 y3 y4 y5 y6 y7))
  | 0 => ⟨fun _ _ _ _ _ r h => by simp [quicksetref_GeomColumns.j0] at h, fun _ _ _ _ _ _ r h => by simp [quicksetref_GeomColumns.l0] at h, fun _ _ _ _ _ _ _ _ r h => by simp [quicksetref_GeomColumns.l1] at h⟩
  | k + 1 => by
    obtain ⟨ih0, ih1, ih2⟩ := quicksetref_GeomColumns.mono_l k
    refine ⟨?_, ?_, ?_⟩
    · intro y0 y1 y2 y3 y4
      unfold quicksetref_GeomColumns.j0
      repeat' first
      | (with_reducible exact ih0 _ _ _ _ _)
      | (with_reducible exact ih1 _ _ _ _ _ _)
      | (with_reducible exact ih2 _ _ _ _ _ _ _ _)
      | (with_reducible exact LeO.refl _)
      | (with_reducible exact LeO.none _)
      | (with_reducible refine LeO.ite ?_ ?_)
      | (with_reducible refine LeO.bind ?_ (fun _ => ?_))
      | exact ih0 _ _ _ _ _
      | exact ih1 _ _ _ _ _ _
      | exact ih2 _ _ _ _ _ _ _ _
      | exact LeO.none _
      | refine LeO.ite ?_ ?_
      | refine LeO.bind ?_ (fun _ => ?_)
    · intro y0 y1 y2 y3 y4 y5
      unfold quicksetref_GeomColumns.l0
      repeat' first
      | (with_reducible exact ih0 _ _ _ _ _)
      | (with_reducible exact ih1 _ _ _ _ _ _)
      | (with_reducible exact ih2 _ _ _ _ _ _ _ _)
      | (with_reducible exact LeO.refl _)
      | (with_reducible exact LeO.none _)
      | (with_reducible refine LeO.ite ?_ ?_)
      | (with_reducible refine LeO.bind ?_ (fun _ => ?_))
      | exact ih0 _ _ _ _ _
      | exact ih1 _ _ _ _ _ _
      | exact ih2 _ _ _ _ _ _ _ _
      | exact LeO.none _
      | refine LeO.ite ?_ ?_
      | refine LeO.bind ?_ (fun _ => ?_)
    · intro y0 y1 y2 y3 y4 y5 y6 y7
      unfold quicksetref_GeomColumns.l1
      repeat' first
      | (with_reducible exact ih0 _ _ _ _ _)
      | (with_reducible exact ih1 _ _ _ _ _ _)
      | (with_reducible exact ih2 _ _ _ _ _ _ _ _)
      | (with_reducible exact LeO.refl _)
      | (with_reducible exact LeO.none _)
      | (with_reducible refine LeO.ite ?_ ?_)
      | (with_reducible refine LeO.bind ?_ (fun _ => ?_))
      | exact ih0 _ _ _ _ _
      | exact ih1 _ _ _ _ _ _
      | exact ih2 _ _ _ _ _ _ _ _
      | exact LeO.none _
      | refine LeO.ite ?_ ?_
      | refine LeO.bind ?_ (fun _ => ?_)
theorem quicksetref_GeomColumns.mono : ∀ a0 a1 a2 a3 k, LeO (quicksetref_GeomColumns.f k a0 a1 a2 a3) (quicksetref_GeomColumns.f (k + 1) a0 a1 a2 a3) := by
  intro a0 a1 a2 a3 k
  obtain ⟨ih0, ih1, ih2⟩ := quicksetref_GeomColumns.mono_l k
  unfold quicksetref_GeomColumns.f
  repeat' first
      | (with_reducible exact ih0 _ _ _ _ _)
      | (with_reducible exact ih1 _ _ _ _ _ _)
      | (with_reducible exact ih2 _ _ _ _ _ _ _ _)
      | (with_reducible exact LeO.refl _)
      | (with_reducible exact LeO.none _)
      | (with_reducible refine LeO.ite ?_ ?_)
      | (with_reducible refine LeO.bind ?_ (fun _ => ?_))
      | exact ih0 _ _ _ _ _
      | exact ih1 _ _ _ _ _ _
      | exact ih2 _ _ _ _ _ _ _ _
      | exact LeO.none _
      | refine LeO.ite ?_ ?_
      | refine LeO.bind ?_ (fun _ => ?_)
def quicksetref_GeomColumns.T13 : Bool × List (List Nat × List Nat) := (true, [([], []), ([], []), ([], []), ([1, 2], [1, 2]), ([], []), ([], []), ([4, 5], [4, 5]), ([], []), ([], []), ([7, 8], [7, 8]), ([3, 6, 9], [3, 6, 9]), ([10], [10]), ([0, 11], [0, 11]), ([12, 12, 0, 1, 2, 3, 4, 5, 6, 7, 8, 9, 10, 11, 12], [0, 12])])
def quicksetref_GeomColumns.B13 : List Nat := [0, 0, 0, 6, 0, 0, 48, 0, 0, 384, 1022, 2046, 4095, 8191]
theorem quicksetref_GeomColumns.tab13 : rtab .any (opsOf Try.f68 13) = quicksetref_GeomColumns.T13 := by kernel_rfl
theorem quicksetref_GeomColumns.bits13 : waitsOk quicksetref_GeomColumns.T13.2 quicksetref_GeomColumns.B13 = true := by kernel_rfl
set_option maxHeartbeats 8000000 in
set_option maxRecDepth 100000 in
theorem quicksetref_GeomColumns.calls (k : Nat) (a0 : Int) (a1 : Int) (a2 : Int) (a3 : Int) (r1 : List (S87)) (r2 : Int) (w : World) (h : quicksetref_GeomColumns.f k a0 a1 a2 a3 = some (r1, r2)) :
    Calls Try.prog 68 #[.int .i64 a0, .int .i64 a1, .int .i64 a2, .int .i64 a3] w fun e w' => ∃ v0_ : Value, e = .returned (.tuple #[v0_, .int .i64 r2]) ∧ Kd.R k87 87 w' w.heap.size (fun _ => True) v0_ r1 ∧ Below w.heap.size w w' := by
  have hu87 := Try.underlying87
  have HB := Aside0.mk (Below.refl w.heap.size w)
  have H : ((quicksetref_badShape.f a0 a1).bind fun t204 => (if t204 = true then (quicksetref_GeomColumns.j0 k a0 a1 a2 a3 true) else (if a3 < 1 then (quicksetref_GeomColumns.j0 k a0 a1 a2 a3 true) else (if a3 > 32 then (quicksetref_GeomColumns.j0 k a0 a1 a2 a3 true) else (if a2 < 0 then (quicksetref_GeomColumns.j0 k a0 a1 a2 a3 true) else (quicksetref_GeomColumns.j0 k a0 a1 a2 a3 (decide (a2 > 65536)))))))) = some (r1, r2) := h
  clear h
  have HC5 := Aside0.mk H
  clear H
  go_enter Try.func68, Try.ntmps68
  go_upto_region 1 with (fail)
  go_cut [33] (fun v33 wc => ∃ (kq : Nat) (x33_4 : Bool), v33 = .bool x33_4 ∧ Aside0 (quicksetref_GeomColumns.j0 kq a0 a1 a2 a3 x33_4 = some (r1, r2)) ∧ Aside0 (kq ≤ k) ∧ Aside0 (Below w.heap.size w wc))
  case first =>
    have H := HC5.out
    clear HC5
    replace H := Option.bind_eq_some_iff.mp H
    obtain ⟨t204, A60, H⟩ := H
    replace H : (if t204 = true then (quicksetref_GeomColumns.j0 k a0 a1 a2 a3 true) else (if a3 < 1 then (quicksetref_GeomColumns.j0 k a0 a1 a2 a3 true) else (if a3 > 32 then (quicksetref_GeomColumns.j0 k a0 a1 a2 a3 true) else (if a2 < 0 then (quicksetref_GeomColumns.j0 k a0 a1 a2 a3 true) else (quicksetref_GeomColumns.j0 k a0 a1 a2 a3 (decide (a2 > 65536))))))) = some (r1, r2) := H
    have A6 := Aside0.mk A60
    clear A60
    by_cases c7 : t204 = true
    · subst c7
      have H1 : (quicksetref_GeomColumns.j0 k a0 a1 a2 a3 true) = some (r1, r2) := by rw [if_pos rfl] at H; exact H
      clear H
      have H := H1
      clear H1
      have H' := Aside0.mk H
      clear H
      go_wp2_with (first | ((with_reducible refine gate_callee (f := 93) rfl ?_); refine goesL_ (some 17) rfl rfl Try.func93 (by kernel_rfl) rfl #[.int .i64 a0, .int .i64 a1] rfl (by (try simp only [List.map_toArray, List.map_cons, List.map_nil]); first | done | rfl | (simp only [List.length_drop, List.length_take]; rfl)) ?_; (with_reducible refine (quicksetref_badShape.calls a0 a1 true _ A6.out).mono ?_); rintro e w' ⟨rfl, ⟨nd, rfl⟩⟩; refine ⟨_, rfl, ?_⟩))
      go_meet
      case rel => exact ⟨_, (true), (by first | rfl | (simp; done) | (simp [*]; done)), H', ⟨by first | omega | exact Nat.le_refl _⟩, ⟨by repeat (first | (with_reducible first | exact HB.out | apply below_alloc | apply pw_below_drewN | apply below_drew1) | exact HB.out)⟩⟩
    · replace c7 := Bool.eq_false_iff.mpr c7
      subst c7
      have H1 : (if a3 < 1 then (quicksetref_GeomColumns.j0 k a0 a1 a2 a3 true) else (if a3 > 32 then (quicksetref_GeomColumns.j0 k a0 a1 a2 a3 true) else (if a2 < 0 then (quicksetref_GeomColumns.j0 k a0 a1 a2 a3 true) else (quicksetref_GeomColumns.j0 k a0 a1 a2 a3 (decide (a2 > 65536)))))) = some (r1, r2) := by rw [if_neg (show ¬ (false = true) by decide)] at H; exact H
      clear H
      have H := H1
      clear H1
      by_cases c8 : a3 < 1
      · rw [if_pos c8] at H
        have c8b0 : decide (a3 < 1) = true := decide_eq_true c8
        clear c8
        (first | rw [c8b0] | (simp only [i64_w, i32_w]; rw [c8b0]) | skip)
        have H' := Aside0.mk H
        clear H
        go_wp2_with (first | ((with_reducible refine gate_callee (f := 93) rfl ?_); refine goesL_ (some 17) rfl rfl Try.func93 (by kernel_rfl) rfl #[.int .i64 a0, .int .i64 a1] rfl (by (try simp only [List.map_toArray, List.map_cons, List.map_nil]); first | done | rfl | (simp only [List.length_drop, List.length_take]; rfl)) ?_; (with_reducible refine (quicksetref_badShape.calls a0 a1 false _ A6.out).mono ?_); rintro e w' ⟨rfl, ⟨nd, rfl⟩⟩; refine ⟨_, rfl, ?_⟩))
        go_meet
        case rel => exact ⟨_, (true), (by first | rfl | (simp; done) | (simp [*]; done)), H', ⟨by first | omega | exact Nat.le_refl _⟩, ⟨by repeat (first | (with_reducible first | exact HB.out | apply below_alloc | apply pw_below_drewN | apply below_drew1) | exact HB.out)⟩⟩
      · rw [if_neg c8] at H
        have c8b0 : decide (a3 < 1) = false := decide_eq_false c8
        clear c8
        (first | rw [c8b0] | (simp only [i64_w, i32_w]; rw [c8b0]) | skip)
        by_cases c9 : a3 > 32
        · rw [if_pos c9] at H
          have c9b0 : decide (32 < a3) = true := decide_eq_true c9
          clear c9
          have H' := Aside0.mk H
          clear H
          go_wp2_with (first | ((with_reducible refine gate_callee (f := 93) rfl ?_); refine goesL_ (some 17) rfl rfl Try.func93 (by kernel_rfl) rfl #[.int .i64 a0, .int .i64 a1] rfl (by (try simp only [List.map_toArray, List.map_cons, List.map_nil]); first | done | rfl | (simp only [List.length_drop, List.length_take]; rfl)) ?_; (with_reducible refine (quicksetref_badShape.calls a0 a1 false _ A6.out).mono ?_); rintro e w' ⟨rfl, ⟨nd, rfl⟩⟩; refine ⟨_, rfl, ?_⟩))
          go_meet
          case rel => exact ⟨_, (true), (by first | rfl | (simp; done) | (simp [*]; done)), H', ⟨by first | omega | exact Nat.le_refl _⟩, ⟨by repeat (first | (with_reducible first | exact HB.out | apply below_alloc | apply pw_below_drewN | apply below_drew1) | exact HB.out)⟩⟩
        · rw [if_neg c9] at H
          have c9b0 : decide (32 < a3) = false := decide_eq_false c9
          clear c9
          by_cases c10 : a2 < 0
          · rw [if_pos c10] at H
            have c10b0 : decide (a2 < 0) = true := decide_eq_true c10
            clear c10
            have H' := Aside0.mk H
            clear H
            go_wp2_with (first | ((with_reducible refine gate_callee (f := 93) rfl ?_); refine goesL_ (some 17) rfl rfl Try.func93 (by kernel_rfl) rfl #[.int .i64 a0, .int .i64 a1] rfl (by (try simp only [List.map_toArray, List.map_cons, List.map_nil]); first | done | rfl | (simp only [List.length_drop, List.length_take]; rfl)) ?_; (with_reducible refine (quicksetref_badShape.calls a0 a1 false _ A6.out).mono ?_); rintro e w' ⟨rfl, ⟨nd, rfl⟩⟩; refine ⟨_, rfl, ?_⟩))
            go_meet
            case rel => exact ⟨_, (true), (by first | rfl | (simp; done) | (simp [*]; done)), H', ⟨by first | omega | exact Nat.le_refl _⟩, ⟨by repeat (first | (with_reducible first | exact HB.out | apply below_alloc | apply pw_below_drewN | apply below_drew1) | exact HB.out)⟩⟩
          · rw [if_neg c10] at H
            have c10b0 : decide (a2 < 0) = false := decide_eq_false c10
            clear c10
            have H' := Aside0.mk H
            clear H
            go_wp2_with (first | ((with_reducible refine gate_callee (f := 93) rfl ?_); refine goesL_ (some 17) rfl rfl Try.func93 (by kernel_rfl) rfl #[.int .i64 a0, .int .i64 a1] rfl (by (try simp only [List.map_toArray, List.map_cons, List.map_nil]); first | done | rfl | (simp only [List.length_drop, List.length_take]; rfl)) ?_; (with_reducible refine (quicksetref_badShape.calls a0 a1 false _ A6.out).mono ?_); rintro e w' ⟨rfl, ⟨nd, rfl⟩⟩; refine ⟨_, rfl, ?_⟩))
            go_meet
            case rel => exact ⟨_, (decide (a2 > 65536)), (by first | rfl | (simp; done) | (simp [*]; done)), H', ⟨by first | omega | exact Nat.le_refl _⟩, ⟨by repeat (first | (with_reducible first | exact HB.out | apply below_alloc | apply pw_below_drewN | apply below_drew1) | exact HB.out)⟩⟩
  case rest =>
    clear HC5
    try clear c1
    try clear p2
    try clear c6
    try clear c7
    try clear c8
    try clear c8b0
    try clear c9
    try clear c9b0
    try clear c10
    try clear c10b0
    obtain ⟨kq, x33_4, rfl, HA, HJ4, HB⟩ := hcut
    cases kq with
    | zero => exact absurd HA.out (by simp [quicksetref_GeomColumns.j0])
    | succ kj4 =>
      have H := HA.out
      clear HA
      simp only [quicksetref_GeomColumns.j0] at H
      by_cases c11 : x33_4 = true
      · subst c11
        have H1 : (some (([] : List (S87)), 2)) = some (r1, r2) := by rw [if_pos rfl] at H; exact H
        clear H
        have H := H1
        clear H1
        simp only [Option.some.injEq, Prod.mk.injEq] at H
        obtain ⟨rfl, rfl⟩ := H
        go_wp2
        go_ret2
        exact ⟨_, by first | rfl | (simp [errW_none, errW_some] <;> rfl) | (simp [*, errW_none, errW_some] <;> rfl), by first | exact Kd.R_nil _ _ _ _ _ | exact Kd.N_nil _ _ _ _ _ | exact Kd.V_nil _ _ _ _ _ | exact Kd.Q_nil _ _ _ _ _ | exact Kd.S_nil _ _ _ _ _, by repeat (first | (with_reducible first | exact HB.out | apply below_alloc | apply pw_below_drewN | apply below_drew1) | exact HB.out)⟩
      · replace c11 := Bool.eq_false_iff.mpr c11
        subst c11
        have H1 : (quicksetref_GeomColumns.l0 kj4 a0 a1 a2 a3 ([] : List (S87)) 0) = some (r1, r2) := by rw [if_neg (show ¬ (false = true) by decide)] at H; exact H
        clear H
        have H := H1
        clear H1
        have H' := Aside0.mk H
        clear H
        go_wp2
        go_loopg [10, 11] kj4 (fun kq v10 v11 w' => ∃ (x10_2 : List (S87)) (x11_2 : Int), v11 = .int .i64 x11_2 ∧ Aside0 (quicksetref_GeomColumns.l0 kq a0 a1 a2 a3 x10_2 x11_2 = some (r1, r2)) ∧ Aside0 (kq ≤ kj4) ∧ Aside0 (Kd.R k87 87 w' w.heap.size (fun _ => True) v10 x10_2) ∧ Aside0 (Below w.heap.size w w'))
        case atStart => exact ⟨(([] : List (S87))), (0), (by first | rfl | (simp; done) | (simp [*]; done)), H', ⟨Nat.le_refl _⟩, ⟨by first | exact Kd.R_nil _ _ _ _ _ | exact Kd.N_nil _ _ _ _ _ | exact Kd.V_nil _ _ _ _ _ | exact Kd.Q_nil _ _ _ _ _ | exact Kd.S_nil _ _ _ _ _⟩, ⟨by repeat (first | (with_reducible first | exact HB.out | apply below_alloc | apply pw_below_drewN | apply below_drew1) | exact HB.out)⟩⟩
        case round =>
          clear H'
          try clear c1
          try clear p2
          try clear c6
          try clear c7
          try clear c8
          try clear c8b0
          try clear c9
          try clear c9b0
          try clear c10
          try clear c10b0
          try clear c11
          try clear p2
          obtain ⟨x10_2, x11_2, rfl, HA, HK2, HO_10, HB⟩ := hrel
          cases gk with
          | zero => exact absurd HA.out (by simp [quicksetref_GeomColumns.l0])
          | succ k2 =>
            have H := HA.out
            clear HA
            simp only [quicksetref_GeomColumns.l0] at H
            by_cases c12 : (wrap64 (x11_2 * (wrap64 (a0 - a1)))) < a3
            · rw [if_pos c12] at H
              have c12b0 : decide ((wrap64 (x11_2 * (wrap64 (a0 - a1)))) < a3) = true := decide_eq_true c12
              clear c12
              obtain ⟨ji13, hji13⟩ : ∃ j_ : Int, (mn (wrap64 (a0 - a1)) (wrap64 (a3 - (wrap64 (x11_2 * (wrap64 (a0 - a1))))))) = j_ := ⟨_, rfl⟩
              replace H : (quicksetref_GeomColumns.l1 k2 a0 a1 a2 a3 x10_2 x11_2 (wrap64 (a1 + (ji13))) 0) = some (r1, r2) := by first | (rw [hji13] at H; exact H) | (simp only [hji13] at H ⊢; exact H)
              have hji13_ : (if (wrap64 (a3 - (wrap64 (x11_2 * (wrap64 (a0 - a1)))))) < (wrap64 (a0 - a1)) then (wrap64 (a3 - (wrap64 (x11_2 * (wrap64 (a0 - a1)))))) else (wrap64 (a0 - a1))) = ji13 := hji13
              have H' := Aside0.mk H
              clear H
              go_wp2
              go_loopg [10, 13] k2 (fun kq v10 v13 w' => ∃ (x10_3 : List (S87)) (x13_3 : Int), v13 = .int .i64 x13_3 ∧ Aside0 (quicksetref_GeomColumns.l1 kq a0 a1 a2 a3 x10_3 x11_2 (wrap64 (a1 + (ji13))) x13_3 = some (r1, r2)) ∧ Aside0 (kq ≤ k2) ∧ Aside0 (Kd.R k87 87 w' w.heap.size (fun _ => True) v10 x10_3) ∧ Aside0 (Below w.heap.size w w'))
              case atStart => exact ⟨(x10_2), (0), (by first | rfl | (simp; done) | (simp [*]; done)), H', ⟨Nat.le_refl _⟩, ⟨by (with_reducible repeat (first | apply Kd.R_alloc | apply Kd.R_drewN | apply Kd.R_drew)); exact HO_10.out⟩, ⟨by repeat (first | (with_reducible first | exact HB.out | apply below_alloc | apply pw_below_drewN | apply below_drew1) | exact HB.out)⟩⟩
              case round =>
                clear H'
                try clear c1
                try clear p2
                try clear c6
                try clear p6
                try clear c7
                try clear c8
                try clear c8b0
                try clear c9
                try clear c9b0
                try clear c10
                try clear c10b0
                try clear c11
                try clear c12
                try clear c12b0
                try clear p2
                obtain ⟨x10_3, x13_3, rfl, HA, HK3, HO_10, HB⟩ := hrel
                cases gk with
                | zero => exact absurd HA.out (by simp [quicksetref_GeomColumns.l1])
                | succ k3 =>
                  have H := HA.out
                  clear HA
                  simp only [quicksetref_GeomColumns.l1] at H
                  by_cases c14 : x13_3 < (wrap64 (a1 + (ji13)))
                  · rw [if_pos c14] at H
                    have c14b0 : decide (x13_3 < (wrap64 (a1 + (ji13)))) = true := decide_eq_true c14
                    clear c14
                    by_cases c15 : x11_2 = 0
                    · rw [if_pos c15] at H
                      have c15b0 : (x11_2 == 0) = true := beq_iff_eq.mpr c15
                      have c15b1 : (x11_2 != 0) = false := bne_eq_false_iff_eq.mpr c15
                      clear c15
                      by_cases c16 : a0 = 0
                      · rw [if_pos c16] at H
                        exact absurd H (by simp)
                      · rw [if_neg c16] at H
                        have c16b0 : (a0 == 0) = false := beq_eq_false_iff_ne.mpr c16
                        have c16b1 : (a0 != 0) = true := bne_iff_ne.mpr c16
                        by_cases c17 : x10_3.length < 4398046511104
                        · rw [if_pos c17] at H
                          have LMc17 := Aside0.mk c17
                          clear c17
                          obtain ⟨y205, hy205⟩ : ∃ y_ : List (S87), y_ = (x10_3 ++ [(⟨Int.tmod (wrap64 (a2 + x13_3)) a0, wrap64 (Int.tdiv (wrap64 (a2 + x13_3)) a0), 0, decide (x13_3 < a1)⟩ : S87)]) := ⟨_, rfl⟩
                          replace H : (if 0 ≤ x13_3 then (if x13_3 < (y205.length : Int) then (quicksetref_GeomColumns.l1 k3 a0 a1 a2 a3 (y205.set (x13_3 : Int).toNat (⟨(rd_T87 y205 x13_3).f0, (rd_T87 y205 x13_3).f1, wrap64 (((rd_T87 y205 x13_3).f2) + 1), (rd_T87 y205 x13_3).f3⟩ : S87)) x11_2 (wrap64 (a1 + (ji13))) (wrap64 (x13_3 + 1))) else (none)) else (none)) = some (r1, r2) := by first | (rw [hy205]; with_reducible exact H) | (have H2_ := (Option.bind_some _ _).symm.trans H; rw [hy205]; with_reducible exact H2_) | (have H2_ := (Option.bind_some _ _).symm.trans H; with_reducible exact H2_) | with_reducible exact H | (rw [hy205]; exact H) | exact H
                          have Ny205 := Aside0.mk hy205
                          clear hy205
                          by_cases c18 : 0 ≤ x13_3
                          · rw [if_pos c18] at H
                            have c18b0 : decide (0 ≤ x13_3) = true := decide_eq_true c18
                            clear c18
                            by_cases c19 : x13_3 < (y205.length : Int)
                            · rw [if_pos c19] at H
                              have c19b0 : decide (x13_3 < (y205.length : Int)) = true := decide_eq_true c19
                              clear c19
                              obtain ⟨y209, hy209⟩ : ∃ y_ : List (S87), y_ = (y205.set (x13_3 : Int).toNat (⟨(rd_T87 y205 x13_3).f0, (rd_T87 y205 x13_3).f1, wrap64 (((rd_T87 y205 x13_3).f2) + 1), (rd_T87 y205 x13_3).f3⟩ : S87)) := ⟨_, rfl⟩
                              replace H : (quicksetref_GeomColumns.l1 k3 a0 a1 a2 a3 y209 x11_2 (wrap64 (a1 + (ji13))) (wrap64 (x13_3 + 1))) = some (r1, r2) := by first | (rw [hy209]; with_reducible exact H) | (have H2_ := (Option.bind_some _ _).symm.trans H; rw [hy209]; with_reducible exact H2_) | (have H2_ := (Option.bind_some _ _).symm.trans H; with_reducible exact H2_) | with_reducible exact H | (rw [hy209]; exact H) | exact H
                              have Ny209 := Aside0.mk hy209
                              clear hy209
                              have H' := Aside0.mk H
                              clear H
                              try go_wp2
                              have n0_ := Aside0.mk (Kd.R_drew HO_10.out)
                              have n1_ := Aside0.mk (below_drew1 HB.out)
                              clear HO_10
                              clear HB
                              have HO_10 := n0_
                              have HB := n1_
                              clear n0_ n1_
                              refine start_ (n := 14) (S := fun w' => True) (ds := []) #[false, false, false, false, false, false, false, false, false, false, false, false, false, false] (by kernel_rfl) rfl rfl trivial (fun hHeld => ?_); refine with_tabW quicksetref_GeomColumns.tab13 quicksetref_GeomColumns.bits13 (fun HT_ HW_ => ?_)
                              generalize wr.drew = w21 at HO_10 HB hHeld ⊢
                              refine pure_ (i := 0) (N := some 66) (v := ?_) (a' := ?_) #[true, false, false, false, false, false, false, false, false, false, false, false, false, false] rfl rfl (any_of HT_.out (by kernel_rfl)) (fun _ _ _ h => h) (Or.inl ⟨by rfl, ?_⟩) ?_ ?_
                              rotate_left
                              · intro w'
                                go_simp
                                with_reducible rfl
                              rotate_left
                              · simp only [Act.put, List.setIfInBounds_toArray, List.set_cons_zero, List.set_cons_succ, i64_w, i32_w]
                                rfl
                              refine pure_ (i := 1) (N := some 67) (v := ?_) (a' := ?_) #[true, true, false, false, false, false, false, false, false, false, false, false, false, false] rfl rfl (any_of HT_.out (by kernel_rfl)) (fun _ _ _ h => h) (Or.inl ⟨by rfl, ?_⟩) ?_ ?_
                              rotate_left
                              · intro w'
                                go_simp
                                with_reducible rfl
                              rotate_left
                              · simp only [Act.put, List.setIfInBounds_toArray, List.set_cons_zero, List.set_cons_succ, i64_w, i32_w]
                                rfl
                              refine pure_ (i := 2) (N := some 68) (v := ?_) (a' := ?_) #[true, true, true, false, false, false, false, false, false, false, false, false, false, false] rfl rfl (any_of HT_.out (by kernel_rfl)) (fun _ _ _ h => h) (Or.inl ⟨by rfl, ?_⟩) ?_ ?_
                              rotate_left
                              · intro w'
                                go_simp
                                with_reducible rfl
                              rotate_left
                              · simp only [Act.put, List.setIfInBounds_toArray, List.set_cons_zero, List.set_cons_succ, i64_w, i32_w]
                                rfl
                              refine pure_ (i := 3) (N := some 69) (v := ?_) (a' := ?_) #[true, true, true, true, false, false, false, false, false, false, false, false, false, false] rfl rfl (any_of HT_.out (by kernel_rfl)) (fun _ _ _ h => h) (Or.inl ⟨by rfl, ?_⟩) ?_ ?_
                              rotate_left
                              · intro w'
                                go_simp
                                with_reducible rfl
                              rotate_left
                              · simp only [Act.put, List.setIfInBounds_toArray, List.set_cons_zero, List.set_cons_succ, i64_w, i32_w]
                                rfl
                              refine pure_ (i := 4) (N := some 70) (v := ?_) (a' := ?_) #[true, true, true, true, true, false, false, false, false, false, false, false, false, false] rfl rfl (any_of HT_.out (by kernel_rfl)) (fun _ _ _ h => h) (Or.inl ⟨by rfl, ?_⟩) ?_ ?_
                              rotate_left
                              · intro w'
                                go_simp
                                with_reducible rfl
                              rotate_left
                              · simp only [Act.put, List.setIfInBounds_toArray, List.set_cons_zero, List.set_cons_succ, i64_w, i32_w]
                                rfl
                              refine pure_ (i := 5) (N := some 71) (v := ?_) (a' := ?_) #[true, true, true, true, true, true, false, false, false, false, false, false, false, false] rfl rfl (any_of HT_.out (by kernel_rfl)) (fun _ _ _ h => h) (Or.inl ⟨by rfl, ?_⟩) ?_ ?_
                              rotate_left
                              · intro w'
                                go_simp
                                with_reducible rfl
                              rotate_left
                              · simp only [Act.put, List.setIfInBounds_toArray, List.set_cons_zero, List.set_cons_succ, i64_w, i32_w]
                                rfl
                              refine pure_ (i := 6) (N := some 72) (v := ?_) (a' := ?_) #[true, true, true, true, true, true, true, false, false, false, false, false, false, false] rfl rfl (any_of HT_.out (by kernel_rfl)) (fun _ _ _ h => h) (Or.inl ⟨by rfl, ?_⟩) ?_ ?_
                              rotate_left
                              · intro w'
                                go_simp
                                with_reducible rfl
                              rotate_left
                              · simp only [Act.put, List.setIfInBounds_toArray, List.set_cons_zero, List.set_cons_succ, i64_w, i32_w]
                                rfl
                              refine pure_ (i := 7) (N := some 73) (v := ?_) (a' := ?_) #[true, true, true, true, true, true, true, true, false, false, false, false, false, false] rfl rfl (any_of HT_.out (by kernel_rfl)) (fun _ _ _ h => h) (Or.inl ⟨by rfl, ?_⟩) ?_ ?_
                              rotate_left
                              · intro w'
                                go_simp
                                with_reducible rfl
                              rotate_left
                              · simp only [Act.put, List.setIfInBounds_toArray, List.set_cons_zero, List.set_cons_succ, i64_w, i32_w]
                                rfl
                              refine pure_ (i := 8) (N := some 74) (v := ?_) (a' := ?_) #[true, true, true, true, true, true, true, true, true, false, false, false, false, false] rfl rfl (any_of HT_.out (by kernel_rfl)) (fun _ _ _ h => h) (Or.inl ⟨by rfl, ?_⟩) ?_ ?_
                              rotate_left
                              · intro w'
                                go_simp
                                with_reducible rfl
                              rotate_left
                              · simp only [Act.put, List.setIfInBounds_toArray, List.set_cons_zero, List.set_cons_succ, i64_w, i32_w]
                                rfl
                              refine pure_ (i := 9) (N := some 75) (v := ?_) (a' := ?_) #[true, true, true, true, true, true, true, true, true, true, false, false, false, false] rfl rfl (any_of HT_.out (by kernel_rfl)) (fun _ _ _ h => h) (Or.inl ⟨by rfl, ?_⟩) ?_ ?_
                              rotate_left
                              · intro w'
                                go_simp
                                with_reducible rfl
                              rotate_left
                              · simp only [Act.put, List.setIfInBounds_toArray, List.set_cons_zero, List.set_cons_succ, i64_w, i32_w]
                                rfl
                              refine pure_ (i := 10) (N := some 76) (v := ?_) (a' := ?_) #[true, true, true, true, true, true, true, true, true, true, true, false, false, false] rfl rfl (any_of HT_.out (by kernel_rfl)) (fun _ _ _ h => h) (Or.inl ⟨by rfl, ?_⟩) ?_ ?_
                              rotate_left
                              · intro w'
                                go_simp
                                with_reducible rfl
                              rotate_left
                              · simp only [Act.put, List.setIfInBounds_toArray, List.set_cons_zero, List.set_cons_succ, i64_w, i32_w]
                                rfl
                              refine one_ (i := 11) (N := some 77) #[true, true, true, true, true, true, true, true, true, true, true, true, false, false] rfl rfl (one_of HT_.out (by kernel_rfl)) (by decide) (fun K hK => ?_)
                              refine value_ (w1 := ?_) (v := ?_) (by rfl) rfl ?_ ?_
                              rotate_left 2
                              · go_simp
                                constructor
                                · rfl
                                · rfl
                              refine hK.out _ _ trivial (fun hHeld => ?_)
                              clear hK K
                              refine norm_ (a' := ?_) ?_ ?_
                              rotate_left
                              · show Act.put _ (some 77) _ = _
                                simp only [Act.put, List.setIfInBounds_toArray, List.set_cons_zero, List.set_cons_succ, i64_w, i32_w]
                                rfl
                              refine one_ (i := 12) (N := some 78) #[true, true, true, true, true, true, true, true, true, true, true, true, true, false] rfl rfl (one_of HT_.out (by kernel_rfl)) (by decide) (fun K hK => ?_)
                              refine Kd.R_append_step k87 (w0 := w) w.heap.size (by rfl) (.tmp 66) (.tmp 77) 79 87 (.agg #[(.int .i64 0), (.int .i64 0), (.int .i64 0), (.bool false)]) 32 rfl Try.underlying79 info87 rfl (by decide) (by omega) u10 x10_3 (⟨Int.tmod (wrap64 (a2 + x13_3)) a0, wrap64 (Int.tdiv (wrap64 (a2 + x13_3)) a0), 0, decide (x13_3 < a1)⟩ : S87) [.int .i64 (Int.tmod (wrap64 (a2 + x13_3)) a0), .int .i64 (wrap64 (Int.tdiv (wrap64 (a2 + x13_3)) a0)), .int .i64 0, .bool (decide (x13_3 < a1))] (fun _ => True) (fun _ => False) rfl rfl ?aP (fun _ hk => hk.elim) ?aF ?aO ?aB ?aS ?aL ?_
                              (case aP => exact k87_mkM _ _ _ (⟨Int.tmod (wrap64 (a2 + x13_3)) a0, wrap64 (Int.tdiv (wrap64 (a2 + x13_3)) a0), 0, decide (x13_3 < a1)⟩ : S87))
                              (case aB => exact (by repeat (first | (with_reducible first | exact HB.out | apply below_alloc | apply pw_below_drewN | apply below_drew1) | exact HB.out)))
                              (case aF => exact (fun _ _ => trivial))
                              (case aO => exact (by (with_reducible repeat (first | apply Kd.R_alloc | apply Kd.R_drewN | apply Kd.R_drew)); exact HO_10.out))
                              (case aS => exact (below_size (by repeat (first | (with_reducible first | exact HB.out | apply below_alloc | apply pw_below_drewN | apply below_drew1) | exact HB.out))))
                              (case aL => have := LMc17.out; omega)
                              intro v206 w22 ho hb hg hat
                              rw [← Ny205.out] at ho
                              have n0_ := Aside0.mk (hb)
                              have n1_ := Aside0.mk (ho)
                              clear HB
                              clear HO_10
                              have HB := n0_
                              have HO207 := n1_
                              clear n0_ n1_
                              clear ho hb hg hat
                              refine hK.out _ _ trivial (fun hHeld => ?_)
                              clear hK K
                              refine norm_ (a' := ?_) ?_ ?_
                              rotate_left
                              · show Act.put _ (some 78) _ = _
                                simp only [Act.put, List.setIfInBounds_toArray, List.set_cons_zero, List.set_cons_succ, i64_w, i32_w]
                                rfl
                              refine pure_ (i := 13) (N := some 10) (v := ?_) (a' := ?_) #[true, true, true, true, true, true, true, true, true, true, true, true, true, true] rfl rfl (any_of HT_.out (by kernel_rfl)) (fun _ _ _ h => h) (Or.inl ⟨by rfl, ?_⟩) ?_ ?_
                              rotate_left
                              · intro w'
                                go_simp
                                with_reducible rfl
                              rotate_left
                              · simp only [Act.put, List.setIfInBounds_toArray, List.set_cons_zero, List.set_cons_succ, i64_w, i32_w]
                                rfl
                              refine done_ (done_of HT_.out (by kernel_rfl)) ?_
                              obtain ⟨Ao23, co23, eo23⟩ := Kd.R_slice HO207.out
                              subst eo23
                              have p208 : 0 ≤ (x13_3 : Int) := of_decide_eq_true (by first | (with_reducible assumption) | assumption)
                              have q208 : x13_3 < (y205.length : Int) := of_decide_eq_true (by first | (with_reducible assumption) | assumption)
                              obtain ⟨ad208, e208, hx208_0, hx208_1, hx208_2, hx208_3⟩ := at_T87 (Kd.R_reads' HO207.out).2.2 x13_3 p208 q208
                              cases e208
                              replace p208 := eq_true p208
                              replace q208 := eq_true q208
                              have p20 : 0 ≤ (x13_3 : Int) := of_decide_eq_true (by first | (with_reducible assumption) | assumption)
                              have q20 : (x13_3 : Int) < ((y205.length : Int) : Int) := of_decide_eq_true (by first | (with_reducible assumption) | assumption)
                              obtain ⟨go20, co20, eo20, gb20, gl20, cl20, HG20⟩ := Kd.R_form HO207.out (by omega)
                              (first | cases eo20 | (injection eo20 with ea_ en_ ec_; (first | subst ea_ | (injection ea_ with ea_; subst ea_)); subst ec_; clear en_))
                              have GB20 := Aside0.mk gb20
                              have GG20 := Aside0.mk HG20
                              clear gb20 gl20 HG20
                              (first | simp only [add_plain] at hx208_0 | skip)
                              (first | simp only [add_plain] at hx208_1 | skip)
                              (first | simp only [add_plain] at hx208_2 | skip)
                              (first | simp only [add_plain] at hx208_3 | skip)
                              obtain ⟨ce20, hcl20, hM20, hcc20, hfr20⟩ := Kd.R_elem HO207.out z87 (x13_3 : Int) p20 q20
                              obtain rfl := k87_openM hM20
                              have hx20_0 : w22.cell? ⟨go20, (x13_3 : Int).toNat * 4, none⟩ = some (.int .i64 ((rd_T87 y205 x13_3).f0)) := hcc20 0 _ rfl
                              have hx20_1 : w22.cell? ⟨go20, (x13_3 : Int).toNat * 4 + 1, none⟩ = some (.int .i64 ((rd_T87 y205 x13_3).f1)) := hcc20 1 _ rfl
                              have hx20_2 : w22.cell? ⟨go20, (x13_3 : Int).toNat * 4 + 2, none⟩ = some (.int .i64 ((rd_T87 y205 x13_3).f2)) := hcc20 2 _ rfl
                              have hx20_3 : w22.cell? ⟨go20, (x13_3 : Int).toNat * 4 + 3, none⟩ = some (.bool ((rd_T87 y205 x13_3).f3)) := hcc20 3 _ rfl
                              have hf20_0 : w22.frozen? ⟨go20, (x13_3 : Int).toNat * 4, none⟩ = false := hfr20 0
                              have hf20_1 : w22.frozen? ⟨go20, (x13_3 : Int).toNat * 4 + 1, none⟩ = false := hfr20 1
                              have hf20_2 : w22.frozen? ⟨go20, (x13_3 : Int).toNat * 4 + 2, none⟩ = false := hfr20 2
                              have hf20_3 : w22.frozen? ⟨go20, (x13_3 : Int).toNat * 4 + 3, none⟩ = false := hfr20 3
                              clear hcl20 hcc20 hfr20; (try clear hM20)
                              replace p20 := eq_true p20
                              replace q20 := eq_true q20
                              have HX24 := Aside0.mk (show Kd.R k87 87 w22 w.heap.size (fun _ => True) (.slice (some ⟨go20, 0, none⟩) y205.length co23) y205 from (by (with_reducible repeat (first | apply Kd.R_alloc | apply Kd.R_drewN | apply Kd.R_drew)); exact HO207.out))
                              obtain ⟨ce24, hcl24, hM24, hcc24, hfr24⟩ := Kd.R_elem HX24.out z87 (x13_3 : Int) (of_decide_eq_true (by first | (with_reducible assumption) | assumption)) (by have h_ : (x13_3 : Int) < ((y205.length : Int) : Int) := of_decide_eq_true (by first | (with_reducible assumption) | assumption); first | exact h_ | (have e_ := (Kd.R_reads' HO207.out).1; omega) | simpa using h_)
                              obtain rfl := k87_openM hM24
                              have HP24 := Kd.R_seg HX24.out (x13_3 : Int) (of_decide_eq_true (by first | (with_reducible assumption) | assumption)) (by have h_ : (x13_3 : Int) < ((y205.length : Int) : Int) := of_decide_eq_true (by first | (with_reducible assumption) | assumption); first | exact h_ | (have e_ := (Kd.R_reads' HO207.out).1; omega) | simpa using h_) (seg := [.int .i64 (wrap64 (((rd_T87 y205 x13_3).f2) + 1))]) (j := 2) hcl24 hcc24 (show 3 ≤ 4 from by decide) (x' := (⟨(rd_T87 y205 x13_3).f0, (rd_T87 y205 x13_3).f1, wrap64 (((rd_T87 y205 x13_3).f2) + 1), (rd_T87 y205 x13_3).f3⟩ : S87)) (k87_mkM _ _ _ (⟨(rd_T87 y205 x13_3).f0, (rd_T87 y205 x13_3).f1, wrap64 (((rd_T87 y205 x13_3).f2) + 1), (rd_T87 y205 x13_3).f3⟩ : S87) ) (fun _ hk => hk)
                              have hx24_2 := hcc24 2 _ rfl
                              (try simp only [show (k87).sz = 4 from rfl, Nat.mul_one, Nat.add_zero] at hx24_2)
                              have hf24_2 := hfr24 2
                              (try simp only [show (k87).sz = 4 from rfl, Nat.mul_one, Nat.add_zero] at hf24_2)
                              clear hcl24 hcc24 hfr24; (try clear hM24)
                              try go_wp2_with (first | ((with_reducible refine gate_store (t := 3) (p := 86) rfl ?_); refine store_event (t := 3) (p := 86) (v := ?vo_w25) (w1 := (w22.setCell ⟨go20, (x13_3 : Int).toNat * 4 + 2, none⟩ (.int .i64 (wrap64 (((rd_T87 y205 x13_3).f2) + 1))))) ?hg ?ho ?hn ?hr ?_; (case ho => rfl); (case hg => rfl); (case hn => rfl); (case hr => first | (go_simp; done) | (go_simp; rfl)); intro w25 hw; have hg : w22.grownBy w25 (some go20) := (by rw [hw]; exact HP24.2); have hp_ : Kd.R k87 87 w25 w.heap.size (fun _ => True) (.slice (some ⟨go20, 0, none⟩) y205.length co23) y209 := (by rw [hw, Ny209.out]; exact HP24.1); clear HP24; have n0_ := Aside0.mk (hp_); have n1_ := Aside0.mk ((by rw [hw]; exact below_set (HB.out) GB20.out : Below w.heap.size w w25)); clear HO207; clear HB; have HO207 := n0_; have HB := n1_; clear n0_ n1_; clear hg hw hp_))
                              go_roundg k3
                              case measure => have := HJ4.out; have := HK2.out; have := HK3.out; omega
                              case rel => exact ⟨(y209), (wrap64 (x13_3 + 1)), (by first | rfl | (simp; done) | (simp [*]; done)), H', ⟨by have := HJ4.out; have := HK2.out; have := HK3.out; omega⟩, ⟨by (with_reducible repeat (first | apply Kd.R_alloc | apply Kd.R_drewN | apply Kd.R_drew)); exact HO207.out⟩, ⟨by repeat (first | (with_reducible first | exact HB.out | apply below_alloc | apply pw_below_drewN | apply below_drew1) | exact HB.out)⟩⟩
                            · rw [if_neg c19] at H
                              exact absurd H (by simp)
                          · rw [if_neg c18] at H
                            exact absurd H (by simp)
                        · rw [if_neg c17] at H
                          exact absurd H (by simp)
                    · rw [if_neg c15] at H
                      have c15b0 : (x11_2 == 0) = false := beq_eq_false_iff_ne.mpr c15
                      have c15b1 : (x11_2 != 0) = true := bne_iff_ne.mpr c15
                      by_cases c26 : 0 ≤ x13_3
                      · rw [if_pos c26] at H
                        have c26b0 : decide (0 ≤ x13_3) = true := decide_eq_true c26
                        clear c26
                        by_cases c27 : x13_3 < (x10_3.length : Int)
                        · rw [if_pos c27] at H
                          have c27b0 : decide (x13_3 < (x10_3.length : Int)) = true := decide_eq_true c27
                          clear c27
                          obtain ⟨y211, hy211⟩ : ∃ y_ : List (S87), y_ = (x10_3.set (x13_3 : Int).toNat (⟨(rd_T87 x10_3 x13_3).f0, (rd_T87 x10_3 x13_3).f1, wrap64 (((rd_T87 x10_3 x13_3).f2) + 1), (rd_T87 x10_3 x13_3).f3⟩ : S87)) := ⟨_, rfl⟩
                          replace H : (quicksetref_GeomColumns.l1 k3 a0 a1 a2 a3 y211 x11_2 (wrap64 (a1 + (ji13))) (wrap64 (x13_3 + 1))) = some (r1, r2) := by first | (rw [hy211]; with_reducible exact H) | (have H2_ := (Option.bind_some _ _).symm.trans H; rw [hy211]; with_reducible exact H2_) | (have H2_ := (Option.bind_some _ _).symm.trans H; with_reducible exact H2_) | with_reducible exact H | (rw [hy211]; exact H) | exact H
                          have Ny211 := Aside0.mk hy211
                          clear hy211
                          have H' := Aside0.mk H
                          clear H
                          obtain ⟨Ao29, co29, eo29⟩ := Kd.R_slice HO_10.out
                          subst eo29
                          have p210 : 0 ≤ (x13_3 : Int) := of_decide_eq_true (by first | (with_reducible assumption) | assumption)
                          have q210 : x13_3 < (x10_3.length : Int) := of_decide_eq_true (by first | (with_reducible assumption) | assumption)
                          obtain ⟨ad210, e210, hx210_0, hx210_1, hx210_2, hx210_3⟩ := at_T87 (Kd.R_reads' HO_10.out).2.2 x13_3 p210 q210
                          cases e210
                          replace p210 := eq_true p210
                          replace q210 := eq_true q210
                          have p28 : 0 ≤ (x13_3 : Int) := of_decide_eq_true (by first | (with_reducible assumption) | assumption)
                          have q28 : (x13_3 : Int) < ((x10_3.length : Int) : Int) := of_decide_eq_true (by first | (with_reducible assumption) | assumption)
                          obtain ⟨go28, co28, eo28, gb28, gl28, cl28, HG28⟩ := Kd.R_form HO_10.out (by omega)
                          (first | cases eo28 | (injection eo28 with ea_ en_ ec_; (first | subst ea_ | (injection ea_ with ea_; subst ea_)); subst ec_; clear en_))
                          have GB28 := Aside0.mk gb28
                          have GG28 := Aside0.mk HG28
                          clear gb28 gl28 HG28
                          (first | simp only [add_plain] at hx210_0 | skip)
                          (first | simp only [add_plain] at hx210_1 | skip)
                          (first | simp only [add_plain] at hx210_2 | skip)
                          (first | simp only [add_plain] at hx210_3 | skip)
                          obtain ⟨ce28, hcl28, hM28, hcc28, hfr28⟩ := Kd.R_elem HO_10.out z87 (x13_3 : Int) p28 q28
                          obtain rfl := k87_openM hM28
                          have hx28_0 : wr.cell? ⟨go28, (x13_3 : Int).toNat * 4, none⟩ = some (.int .i64 ((rd_T87 x10_3 x13_3).f0)) := hcc28 0 _ rfl
                          have hx28_1 : wr.cell? ⟨go28, (x13_3 : Int).toNat * 4 + 1, none⟩ = some (.int .i64 ((rd_T87 x10_3 x13_3).f1)) := hcc28 1 _ rfl
                          have hx28_2 : wr.cell? ⟨go28, (x13_3 : Int).toNat * 4 + 2, none⟩ = some (.int .i64 ((rd_T87 x10_3 x13_3).f2)) := hcc28 2 _ rfl
                          have hx28_3 : wr.cell? ⟨go28, (x13_3 : Int).toNat * 4 + 3, none⟩ = some (.bool ((rd_T87 x10_3 x13_3).f3)) := hcc28 3 _ rfl
                          have hf28_0 : wr.frozen? ⟨go28, (x13_3 : Int).toNat * 4, none⟩ = false := hfr28 0
                          have hf28_1 : wr.frozen? ⟨go28, (x13_3 : Int).toNat * 4 + 1, none⟩ = false := hfr28 1
                          have hf28_2 : wr.frozen? ⟨go28, (x13_3 : Int).toNat * 4 + 2, none⟩ = false := hfr28 2
                          have hf28_3 : wr.frozen? ⟨go28, (x13_3 : Int).toNat * 4 + 3, none⟩ = false := hfr28 3
                          clear hcl28 hcc28 hfr28; (try clear hM28)
                          replace p28 := eq_true p28
                          replace q28 := eq_true q28
                          have HX30 := Aside0.mk (show Kd.R k87 87 wr w.heap.size (fun _ => True) (.slice (some ⟨go28, 0, none⟩) x10_3.length co29) x10_3 from (by (with_reducible repeat (first | apply Kd.R_alloc | apply Kd.R_drewN | apply Kd.R_drew)); exact HO_10.out))
                          obtain ⟨ce30, hcl30, hM30, hcc30, hfr30⟩ := Kd.R_elem HX30.out z87 (x13_3 : Int) (of_decide_eq_true (by first | (with_reducible assumption) | assumption)) (by have h_ : (x13_3 : Int) < ((x10_3.length : Int) : Int) := of_decide_eq_true (by first | (with_reducible assumption) | assumption); first | exact h_ | (have e_ := (Kd.R_reads' HO_10.out).1; omega) | simpa using h_)
                          obtain rfl := k87_openM hM30
                          have HP30 := Kd.R_seg HX30.out (x13_3 : Int) (of_decide_eq_true (by first | (with_reducible assumption) | assumption)) (by have h_ : (x13_3 : Int) < ((x10_3.length : Int) : Int) := of_decide_eq_true (by first | (with_reducible assumption) | assumption); first | exact h_ | (have e_ := (Kd.R_reads' HO_10.out).1; omega) | simpa using h_) (seg := [.int .i64 (wrap64 (((rd_T87 x10_3 x13_3).f2) + 1))]) (j := 2) hcl30 hcc30 (show 3 ≤ 4 from by decide) (x' := (⟨(rd_T87 x10_3 x13_3).f0, (rd_T87 x10_3 x13_3).f1, wrap64 (((rd_T87 x10_3 x13_3).f2) + 1), (rd_T87 x10_3 x13_3).f3⟩ : S87)) (k87_mkM _ _ _ (⟨(rd_T87 x10_3 x13_3).f0, (rd_T87 x10_3 x13_3).f1, wrap64 (((rd_T87 x10_3 x13_3).f2) + 1), (rd_T87 x10_3 x13_3).f3⟩ : S87) ) (fun _ hk => hk)
                          have hx30_2 := hcc30 2 _ rfl
                          (try simp only [show (k87).sz = 4 from rfl, Nat.mul_one, Nat.add_zero] at hx30_2)
                          have hf30_2 := hfr30 2
                          (try simp only [show (k87).sz = 4 from rfl, Nat.mul_one, Nat.add_zero] at hf30_2)
                          clear hcl30 hcc30 hfr30; (try clear hM30)
                          go_wp2_with (first | ((with_reducible refine gate_store (t := 3) (p := 86) rfl ?_); refine store_event (t := 3) (p := 86) (v := ?vo_w31) (w1 := (wr.setCell ⟨go28, (x13_3 : Int).toNat * 4 + 2, none⟩ (.int .i64 (wrap64 (((rd_T87 x10_3 x13_3).f2) + 1))))) ?hg ?ho ?hn ?hr ?_; (case ho => rfl); (case hg => rfl); (case hn => rfl); (case hr => first | (go_simp; done) | (go_simp; rfl)); intro w31 hw; have hg : wr.grownBy w31 (some go28) := (by rw [hw]; exact HP30.2); have hp_ : Kd.R k87 87 w31 w.heap.size (fun _ => True) (.slice (some ⟨go28, 0, none⟩) x10_3.length co29) y211 := (by rw [hw, Ny211.out]; exact HP30.1); clear HP30; have n0_ := Aside0.mk (hp_); have n1_ := Aside0.mk ((by rw [hw]; exact below_set (HB.out) GB28.out : Below w.heap.size w w31)); clear HO_10; clear HB; have HO_10 := n0_; have HB := n1_; clear n0_ n1_; clear hg hw hp_))
                          go_roundg k3
                          case measure => have := HJ4.out; have := HK2.out; have := HK3.out; omega
                          case rel => exact ⟨(y211), (wrap64 (x13_3 + 1)), (by first | rfl | (simp; done) | (simp [*]; done)), H', ⟨by have := HJ4.out; have := HK2.out; have := HK3.out; omega⟩, ⟨by (with_reducible repeat (first | apply Kd.R_alloc | apply Kd.R_drewN | apply Kd.R_drew)); exact HO_10.out⟩, ⟨by repeat (first | (with_reducible first | exact HB.out | apply below_alloc | apply pw_below_drewN | apply below_drew1) | exact HB.out)⟩⟩
                        · rw [if_neg c27] at H
                          exact absurd H (by simp)
                      · rw [if_neg c26] at H
                        exact absurd H (by simp)
                  · rw [if_neg c14] at H
                    have c14b0 : decide (x13_3 < (wrap64 (a1 + (ji13)))) = false := decide_eq_false c14
                    clear c14
                    have H' := Aside0.mk H
                    clear H
                    go_wp2
                    go_roundg k3
                    case measure => have := HJ4.out; have := HK2.out; have := HK3.out; omega
                    case rel => exact ⟨(x10_3), (wrap64 (x11_2 + 1)), (by first | rfl | (simp; done) | (simp [*]; done)), H', ⟨by have := HJ4.out; have := HK2.out; have := HK3.out; omega⟩, ⟨by (with_reducible repeat (first | apply Kd.R_alloc | apply Kd.R_drewN | apply Kd.R_drew)); exact HO_10.out⟩, ⟨by repeat (first | (with_reducible first | exact HB.out | apply below_alloc | apply pw_below_drewN | apply below_drew1) | exact HB.out)⟩⟩
            · rw [if_neg c12] at H
              have c12b0 : decide ((wrap64 (x11_2 * (wrap64 (a0 - a1)))) < a3) = false := decide_eq_false c12
              clear c12
              simp only [Option.some.injEq, Prod.mk.injEq] at H
              obtain ⟨rfl, rfl⟩ := H
              go_wp2
              go_ret2
              exact ⟨_, by first | rfl | (simp [errW_none, errW_some] <;> rfl) | (simp [*, errW_none, errW_some] <;> rfl), by (with_reducible repeat (first | apply Kd.R_alloc | apply Kd.R_drewN | apply Kd.R_drew)); exact HO_10.out, by repeat (first | (with_reducible first | exact HB.out | apply below_alloc | apply pw_below_drewN | apply below_drew1) | exact HB.out)⟩

-- NOT PRINTED: function 31 (quicksetref_StripeLay)

-- NOT PRINTED: function 10 (quicksetlaw_StripeLays)

end Go.Proofs.Ytpaenlplpaabjaa.QStripeLays
