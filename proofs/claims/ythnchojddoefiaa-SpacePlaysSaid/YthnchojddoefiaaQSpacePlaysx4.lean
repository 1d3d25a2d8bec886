/- Printed from a stub by wip/stub.py with the kit's print.py, then turned by hand. -/
import Derived.Test.YthnchojddoefiaaSep
import Derived.Deep.RegionLaw
import Derived.StillTailTactics
import Derived.Test.YthnchojddoefiaaQSpacePlaysx0
import Derived.Test.YthnchojddoefiaaQSpacePlaysx2
import Derived.Test.YthnchojddoefiaaQSpacePlaysx3
namespace Go.Proofs.Ythnchojddoefiaa.QSpacePlays
open Go.RowKit Go.Proofs.YthnchojddoefiaaW.PrintWords Go.Proofs.YthnchojddoefiaaW.PrintLast Go.Proofs.YthnchojddoefiaaW.PrintMore
attribute [local go_sem] max2_int min2_int max_two min_two max_three min_three max_four min_four   -- for this text's walks alone
set_option linter.unusedVariables false
set_option linter.unusedSimpArgs false

attribute [local go_sem high] eqA147
/-! ### quicksetref_spaceNow_count: function 78 -/
def quicksetref_spaceNow_count.l0 : Nat → Int → Int → List Int → Int → Int → Option (Int)
  | 0, _, _, _, _, _ => none
  | k + 1, x1, x5, x8, x9, x10 => if x10 < x9 then (if 0 ≤ x10 then (if x10 < (x8.length : Int) then (if (rd x8 x10) = x1 then (quicksetref_spaceNow_count.l0 k x1 (wrap64 (x5 + 1)) x8 x9 (wrap64 (x10 + 1))) else (quicksetref_spaceNow_count.l0 k x1 x5 x8 x9 (wrap64 (x10 + 1)))) else (none)) else (none)) else (some x5)
def quicksetref_spaceNow_count.f (k : Nat) (l0 : List Int) (a1 : Int) : Option (Int) := quicksetref_spaceNow_count.l0 k a1 0 l0 (l0.length : Int) 0
theorem quicksetref_spaceNow_count.mono_l : ∀ k, (∀ y0 y1 y2 y3 y4, LeO (quicksetref_spaceNow_count.l0 k y0 y1 y2 y3 y4) (quicksetref_spaceNow_count.l0 (k + 1) y0 y1 y2 y3 y4))
  | 0 => fun _ _ _ _ _ r h => by simp [quicksetref_spaceNow_count.l0] at h
  | k + 1 => by
    have ih0 := quicksetref_spaceNow_count.mono_l k
    · intro y0 y1 y2 y3 y4
      unfold quicksetref_spaceNow_count.l0
      repeat' first
      | (with_reducible exact ih0 _ _ _ _ _)
      | (with_reducible exact LeO.refl _)
      | (with_reducible exact LeO.none _)
      | (with_reducible refine LeO.ite ?_ ?_)
      | (with_reducible refine LeO.bind ?_ (fun _ => ?_))
      | exact ih0 _ _ _ _ _
      | exact LeO.none _
      | refine LeO.ite ?_ ?_
      | refine LeO.bind ?_ (fun _ => ?_)
theorem quicksetref_spaceNow_count.mono : ∀ a0 a1 k, LeO (quicksetref_spaceNow_count.f k a0 a1) (quicksetref_spaceNow_count.f (k + 1) a0 a1) := by
  intro a0 a1 k
  have ih0 := quicksetref_spaceNow_count.mono_l k
  unfold quicksetref_spaceNow_count.f
  repeat' first
      | (with_reducible exact ih0 _ _ _ _ _)
      | (with_reducible exact LeO.refl _)
      | (with_reducible exact LeO.none _)
      | (with_reducible refine LeO.ite ?_ ?_)
      | (with_reducible refine LeO.bind ?_ (fun _ => ?_))
      | exact ih0 _ _ _ _ _
      | exact LeO.none _
      | refine LeO.ite ?_ ?_
      | refine LeO.bind ?_ (fun _ => ?_)
set_option maxHeartbeats 8000000 in
set_option maxRecDepth 100000 in
theorem quicksetref_spaceNow_count.calls (k : Nat) (A0 : Option Addr) (c0 : Nat) (l0 : List Int) (a1 : Int) (r : Int) (w : World) (hr0 : Kd.C (Kd.int .i64) w A0 l0.length l0) (hc0 : l0.length ≤ c0) (h : quicksetref_spaceNow_count.f k l0 a1 = some r) :
    Calls Try.prog 78 #[.slice A0 l0.length c0, .int .i64 a1] w fun e w' => e = .returned (.int .i64 r) ∧ Drawn0 w w' := by
  have HR0 := Aside0.mk hr0
  have HC0 := Aside0.mk hc0
  clear hr0 hc0
  have H : (quicksetref_spaceNow_count.l0 k a1 0 l0 (l0.length : Int) 0) = some r := h
  clear h
  have H' := Aside0.mk H
  clear H
  go_enter Try.func78, Try.ntmps78
  go_wp2
  go_loopg [5, 10] k (fun kq v5 v10 w' => ∃ (x5_1 : Int) (x10_1 : Int), v5 = .int .i64 x5_1 ∧ v10 = .int .i64 x10_1 ∧ Aside0 (quicksetref_spaceNow_count.l0 kq a1 x5_1 l0 (l0.length : Int) x10_1 = some r) ∧ Aside0 (kq ≤ k) ∧ Drawn0 w w')
  case atStart => exact ⟨(0), (0), (by first | rfl | (simp; done) | (simp [*]; done)), (by first | rfl | (simp; done) | (simp [*]; done)), H', ⟨Nat.le_refl _⟩, by repeat (first | exact Drawn0.refl _ | apply Drawn0.step)⟩
  case round =>
    clear H'
    try clear p2
    obtain ⟨x5_1, x10_1, rfl, rfl, HA, HK1, ⟨m1, rfl⟩⟩ := hrel
    cases gk with
    | zero => exact absurd HA.out (by simp [quicksetref_spaceNow_count.l0])
    | succ k1 =>
      have H := HA.out
      clear HA
      simp only [quicksetref_spaceNow_count.l0] at H
      by_cases c3 : x10_1 < (l0.length : Int)
      · rw [if_pos c3] at H
        have c3b0 : decide (x10_1 < (l0.length : Int)) = true := decide_eq_true c3
        clear c3
        by_cases c4 : 0 ≤ x10_1
        · rw [if_pos c4] at H
          have c4b0 : decide (0 ≤ x10_1) = true := decide_eq_true c4
          clear c4
          by_cases c5 : x10_1 < (l0.length : Int)
          · rw [if_pos c5] at H
            have c5b0 : decide (x10_1 < (l0.length : Int)) = true := decide_eq_true c5
            clear c5
            by_cases c6 : (rd l0 x10_1) = a1
            · rw [if_pos c6] at H
              have c6b0 : ((rd l0 x10_1) == a1) = true := beq_iff_eq.mpr c6
              have c6b1 : ((rd l0 x10_1) != a1) = false := bne_eq_false_iff_eq.mpr c6
              clear c6
              have H' := Aside0.mk H
              clear H
              have p133 : 0 ≤ (x10_1 : Int) := of_decide_eq_true (by first | (with_reducible assumption) | assumption)
              have q133 : x10_1 < (l0.length : Int) := of_decide_eq_true (by first | (with_reducible assumption) | assumption)
              obtain ⟨ad133, e133, hx133_0⟩ := Kd.at_int HR0.out x10_1 p133 q133
              cases e133
              replace p133 := eq_true p133
              replace q133 := eq_true q133
              go_wp2
              go_roundg k1
              case measure => have := HK1.out; omega
              case rel => exact ⟨(wrap64 (x5_1 + 1)), (wrap64 (x10_1 + 1)), (by first | rfl | (simp; done) | (simp [*]; done)), (by first | rfl | (simp; done) | (simp [*]; done)), H', ⟨by have := HK1.out; omega⟩, by repeat (first | exact Drawn0.refl _ | apply Drawn0.step)⟩
            · rw [if_neg c6] at H
              have c6b0 : ((rd l0 x10_1) == a1) = false := beq_eq_false_iff_ne.mpr c6
              have c6b1 : ((rd l0 x10_1) != a1) = true := bne_iff_ne.mpr c6
              have H' := Aside0.mk H
              clear H
              have p133 : 0 ≤ (x10_1 : Int) := of_decide_eq_true (by first | (with_reducible assumption) | assumption)
              have q133 : x10_1 < (l0.length : Int) := of_decide_eq_true (by first | (with_reducible assumption) | assumption)
              obtain ⟨ad133, e133, hx133_0⟩ := Kd.at_int HR0.out x10_1 p133 q133
              cases e133
              replace p133 := eq_true p133
              replace q133 := eq_true q133
              go_wp2
              go_roundg k1
              case measure => have := HK1.out; omega
              case rel => exact ⟨(x5_1), (wrap64 (x10_1 + 1)), (by first | rfl | (simp; done) | (simp [*]; done)), (by first | rfl | (simp; done) | (simp [*]; done)), H', ⟨by have := HK1.out; omega⟩, by repeat (first | exact Drawn0.refl _ | apply Drawn0.step)⟩
          · rw [if_neg c5] at H
            exact absurd H (by simp)
        · rw [if_neg c4] at H
          exact absurd H (by simp)
      · rw [if_neg c3] at H
        have c3b0 : decide (x10_1 < (l0.length : Int)) = false := decide_eq_false c3
        clear c3
        obtain rfl := Option.some.inj H
        go_wp2
        go_ret
        exact ⟨by first | rfl | (simp; done) | (simp [*]; done), by repeat (first | exact Drawn0.refl _ | apply Drawn0.step)⟩

/-! ### quicksetref_SpacePlayed: function 39 -/
open Go.Proofs.Ythnchojddoefiaa.Sep
theorem wrap_id {n : Int} (h0 : -9223372036854775808 ≤ n) (h1 : n ≤ 9223372036854775807) : wrap64 n = n := by unfold wrap64; omega
theorem put_is (c : Int) : ∀ (n : Nat) (us : List Int) (i : Int), 0 ≤ i → i + n ≤ (us.length : Int) → us.length ≤ 4096 → ∃ k, quicksetref_spaceNow_put.l0 k us (i + n) c i = some (sp_set c n us i)
  | 0, us, i, h0, h1, h2 => ⟨1, by rw [quicksetref_spaceNow_put.l0, if_neg (by omega), sp_set]⟩
  | n + 1, us, i, h0, h1, h2 => by
    obtain ⟨k, hk⟩ := put_is c n (us.set i.toNat c) (i + 1) (by omega) (by rw [List.length_set]; omega) (by rw [List.length_set]; exact h2)
    refine ⟨k + 1, ?_⟩
    rw [quicksetref_spaceNow_put.l0, if_pos (by omega), if_pos h0, if_pos (by omega), wrap_id (by omega) (by omega), sp_set, show i + ((n + 1 : Nat) : Int) = i + 1 + (n : Int) from by omega]
    exact hk
theorem is_is (c : Int) (us : List Int) (h2 : us.length ≤ 4096) : ∀ (n : Nat) (i : Int), 0 ≤ i → i + n ≤ (us.length : Int) → ∃ k, quicksetref_spaceNow_is.l0 k us (i + n) c i = some (sp_all c us n i)
  | 0, i, h0, h1 => ⟨1, by rw [quicksetref_spaceNow_is.l0, if_neg (by omega), sp_all]⟩
  | n + 1, i, h0, h1 => by
    obtain ⟨k, hk⟩ := is_is c us h2 n (i + 1) (by omega) (by omega)
    refine ⟨k + 1, ?_⟩
    rw [quicksetref_spaceNow_is.l0, if_pos (by omega), if_pos h0, if_pos (by omega), wrap_id (by omega) (by omega), sp_all, show i + ((n + 1 : Nat) : Int) = i + 1 + (n : Int) from by omega]
    by_cases h : rd us i = c
    · rw [if_pos h, if_pos h]; exact hk
    · rw [if_neg h, if_neg h]
def outp (out : List S79) (fr i : Int) : List S79 := if fr < 0 then out else out ++ [⟨fr, i⟩]
theorem stretches_is (c : Int) (us : List Int) (hl : us.length ≤ 4096) : ∀ (n : Nat) (i fr : Int) (out : List S79), 0 ≤ i → i + n = (us.length : Int) → (fr < 0 → 0 < out.length → (rd_T79 out ((out.length : Int) - 1)).f1 < i) → (out.length : Int) ≤ i → (0 ≤ fr → (out.length : Int) < i) →
    ∃ k, quicksetref_spaceNow_stretches.l0 k c (outp out fr i) us (us.length : Int) i = some (sp_runs c us (n + 1) i fr out)
  | 0, i, fr, out, h0, h1, h2, h3, h4 => by
    refine ⟨1, ?_⟩
    rw [quicksetref_spaceNow_stretches.l0, if_neg (by omega), sp_runs, if_neg (by omega)]
    by_cases hf : fr ≥ 0
    · rw [if_pos hf, sp_runs, outp, if_neg (by omega)]
    · rw [if_neg hf, sp_runs, outp, if_pos (by omega)]
  | n + 1, i, fr, out, h0, h1, h2, h3, h4 => by
    have hi : i < (us.length : Int) := by omega
    rw [sp_runs]
    by_cases hc : rd us i = c
    · rw [if_pos ⟨hi, hc⟩]
      by_cases hf : fr < 0
      · rw [if_pos hf]
        obtain ⟨k, hk⟩ := stretches_is c us hl n (i + 1) i out (by omega) (by omega) (fun h => by omega) (by omega) (fun _ => by omega)
        rw [outp, if_neg (by omega)] at hk
        refine ⟨k + 1, ?_⟩
        rw [quicksetref_spaceNow_stretches.l0, if_pos hi, if_pos h0, if_pos hi, if_pos hc, outp, if_pos hf]
        by_cases hp : 0 < out.length
        · have hlast := h2 hf hp
          rw [if_pos (by omega), wrap_id (n := (out.length : Int) - 1) (by omega) (by omega), if_pos (by omega), if_pos (by omega), if_neg (by omega), if_pos (by omega), wrap_id (n := i + 1) (by omega) (by omega)]
          exact hk
        · rw [if_neg (by omega), if_pos (by omega), wrap_id (n := i + 1) (by omega) (by omega)]
          exact hk
      · rw [if_neg hf]
        obtain ⟨k, hk⟩ := stretches_is c us hl n (i + 1) fr out (by omega) (by omega) (fun h => absurd h hf) (by omega) (fun _ => by omega)
        rw [outp, if_neg hf] at hk
        refine ⟨k + 1, ?_⟩
        have e1 : rd_T79 (out ++ [(⟨fr, i⟩ : S79)]) (out.length : Int) = ⟨fr, i⟩ := by simp [rd_T79]
        have e2 : (out ++ [(⟨fr, i⟩ : S79)]).set out.length ⟨fr, i + 1⟩ = out ++ [⟨fr, i + 1⟩] := by simp
        have e3 : (((out ++ [(⟨fr, i⟩ : S79)]).length : Nat) : Int) = (out.length : Int) + 1 := by simp
        rw [quicksetref_spaceNow_stretches.l0, if_pos hi, if_pos h0, if_pos hi, if_pos hc, outp, if_neg hf, e3, if_pos (by omega), show (out.length : Int) + 1 - 1 = (out.length : Int) from by omega, wrap_id (n := (out.length : Int)) (by omega) (by omega), if_pos (by omega), if_pos (by omega), e1, if_pos rfl,
          wrap_id (n := i + 1) (by omega) (by omega), Int.toNat_natCast, e2]
        exact hk
    · rw [if_neg (fun h => hc h.2)]
      by_cases hf : fr ≥ 0
      · rw [if_pos hf]
        obtain ⟨k, hk⟩ := stretches_is c us hl n (i + 1) (-1) (out ++ [⟨fr, i⟩]) (by omega) (by omega) (fun _ _ => by
          have e3 : (((out ++ [(⟨fr, i⟩ : S79)]).length : Nat) : Int) = (out.length : Int) + 1 := by simp
          have e1 : rd_T79 (out ++ [(⟨fr, i⟩ : S79)]) (out.length : Int) = ⟨fr, i⟩ := by simp [rd_T79]
          rw [e3, show (out.length : Int) + 1 - 1 = (out.length : Int) from by omega, e1]
          show i < i + 1
          omega) (by have := h4 hf; rw [List.length_append]; simp; omega) (fun h => by omega)
        rw [outp, if_pos (by omega)] at hk
        refine ⟨k + 1, ?_⟩
        rw [quicksetref_spaceNow_stretches.l0, if_pos hi, if_pos h0, if_pos hi, if_neg hc, outp, if_neg (by omega), wrap_id (n := i + 1) (by omega) (by omega)]
        exact hk
      · rw [if_neg hf]
        obtain ⟨k, hk⟩ := stretches_is c us hl n (i + 1) fr out (by omega) (by omega) (fun h h' => by have := h2 h h'; omega) (by omega) (fun h => absurd h hf)
        rw [outp, if_pos (by omega)] at hk
        refine ⟨k + 1, ?_⟩
        rw [quicksetref_spaceNow_stretches.l0, if_pos hi, if_pos h0, if_pos hi, if_neg hc, outp, if_pos (by omega), wrap_id (n := i + 1) (by omega) (by omega)]
        exact hk
theorem runs_is (c : Int) (us : List Int) (hl : us.length ≤ 4096) : ∃ k, quicksetref_spaceNow_stretches.f k us c = some (sp_runs c us (us.length + 1) 0 (-1) []) := by
  obtain ⟨k, hk⟩ := stretches_is c us hl us.length 0 (-1) [] (by omega) (by omega) (fun _ h => absurd h (Nat.lt_irrefl 0)) (by simp) (fun h => by omega)
  rw [outp, if_pos (by omega)] at hk
  exact ⟨k, by rw [quicksetref_spaceNow_stretches.f]; exact hk⟩
/-- How many units are free. -/
def zc : List Int → Int
  | [] => 0
  | u :: us => (if u = 0 then 1 else 0) + zc us
theorem zc_bd : ∀ us : List Int, 0 ≤ zc us ∧ zc us ≤ (us.length : Int)
  | [] => ⟨Int.le_refl _, Int.le_refl _⟩
  | u :: us => by
    have := zc_bd us
    rw [zc, List.length_cons]
    split <;> omega
theorem count_is (us : List Int) (h2 : us.length ≤ 4096) : ∀ (n : Nat) (i c : Int), 0 ≤ i → i + n = (us.length : Int) → 0 ≤ c → c ≤ i → ∃ k, quicksetref_spaceNow_count.l0 k 0 c us (us.length : Int) i = some (c + zc (us.drop i.toNat))
  | 0, i, c, h0, h1, _, _ => ⟨1, by rw [quicksetref_spaceNow_count.l0, if_neg (by omega), List.drop_eq_nil_of_le (by omega), zc, Int.add_zero]⟩
  | n + 1, i, c, h0, h1, h3, h4 => by
    obtain ⟨e1, _⟩ := rd_drop (0 : Int) us i h0 (by omega)
    have e1 : us.drop i.toNat = rd us i :: us.drop (i + 1).toNat := e1
    by_cases hu : rd us i = 0
    · obtain ⟨k, hk⟩ := count_is us h2 n (i + 1) (c + 1) (by omega) (by omega) (by omega) (by omega)
      refine ⟨k + 1, ?_⟩
      rw [quicksetref_spaceNow_count.l0, if_pos (by omega), if_pos h0, if_pos (by omega), if_pos hu, wrap_id (by omega) (by omega), wrap_id (by omega) (by omega), hk, e1, zc, if_pos hu, Int.add_assoc]
    · obtain ⟨k, hk⟩ := count_is us h2 n (i + 1) c (by omega) (by omega) (by omega) (by omega)
      refine ⟨k + 1, ?_⟩
      rw [quicksetref_spaceNow_count.l0, if_pos (by omega), if_pos h0, if_pos (by omega), if_neg hu, wrap_id (by omega) (by omega), hk, e1, zc, if_neg hu, Int.zero_add]
theorem put_SL {w0 w : World} {l : List Asn} {us : List Int} {uv : Value} (h : SL w0 w l) (j : Nat) (hj : l[j]? = some (rowA (Kd.int .i64) 3 uv us)) (f t c : Int) (h0 : 0 ≤ f) (hft : f ≤ t) (ht : t ≤ (us.length : Int)) (hm : us.length ≤ 4096) :
    Calls Try.prog 76 #[uv, .int .i64 f, .int .i64 t, .int .i64 c] w fun e w' => e = .returned (.tuple #[]) ∧ SL w0 w' (l.set j (rowA (Kd.int .i64) 3 uv (sp_set c (t - f).toNat us f))) := by
  obtain ⟨k, hk⟩ := put_is c (t - f).toNat us f h0 (by omega) hm
  rw [show f + ((t - f).toNat : Int) = t from by omega] at hk
  have hR := h.row j hj
  refine (quicksetref_spaceNow_put.calls k (fun k => some k = uv.ownBlock) uv us f t c _ w0 w h.1 ⟨fun k hk => hk.symm, hR.2⟩ hk).mono ?_
  rintro e w' ⟨rfl, hR', hB', hK⟩
  exact ⟨rfl, h.kept j hj hB' hK (fun T hT k hk => hT.1 k hk.symm) (fun T hT => ⟨fun k hk => .inl (hT.1 k hk), hR'.2⟩)⟩
theorem is_SL {w0 w : World} {l : List Asn} {us : List Int} {A : Option Addr} {n co : Nat} (h : SL w0 w l) (j : Nat) (hj : l[j]? = some (rowA (Kd.int .i64) 3 (.slice A n co) us)) (f t c : Int) (h0 : 0 ≤ f) (hft : f ≤ t) (ht : t ≤ (us.length : Int)) (hm : us.length ≤ 4096) :
    Calls Try.prog 77 #[.slice A n co, .int .i64 f, .int .i64 t, .int .i64 c] w fun e w' => e = .returned (.bool (sp_all c us (t - f).toNat f)) ∧ SL w0 w' l := by
  obtain ⟨k, hk⟩ := is_is c us hm (t - f).toNat f h0 (by omega)
  rw [show f + ((t - f).toNat : Int) = t from by omega] at hk
  obtain ⟨rfl, h3, h4⟩ := Kd.R_reads' (h.row j hj)
  refine (quicksetref_spaceNow_is.calls k A co us f t c _ w h4 h3 hk).mono ?_
  rintro e w' ⟨rfl, hd⟩
  exact ⟨rfl, h.ext hd.below⟩
theorem stretches_SL {w0 w : World} {l : List Asn} {us : List Int} {A : Option Addr} {n co : Nat} (h : SL w0 w l) (j : Nat) (hj : l[j]? = some (rowA (Kd.int .i64) 3 (.slice A n co) us)) (c : Int) (hm : us.length ≤ 4096) :
    Calls Try.prog 72 #[.slice A n co, .int .i64 c] w fun e w' => ∃ v0_ : Value, e = .returned v0_ ∧ SL w0 w' (rowA k79 79 v0_ (sp_runs c us (us.length + 1) 0 (-1) []) :: l) := by
  obtain ⟨k, hk⟩ := runs_is c us hm
  obtain ⟨rfl, h3, h4⟩ := Kd.R_reads' (h.row j hj)
  refine (quicksetref_spaceNow_stretches.calls k A co us c _ w h4 h3 hk).mono ?_
  rintro e w' ⟨v0_, rfl, hR, hb⟩
  exact ⟨v0_, rfl, h.newRow hb hR⟩
theorem count_SL {w0 w : World} {l : List Asn} {us : List Int} {A : Option Addr} {n co : Nat} (h : SL w0 w l) (j : Nat) (hj : l[j]? = some (rowA (Kd.int .i64) 3 (.slice A n co) us)) (hm : us.length ≤ 4096) :
    Calls Try.prog 78 #[.slice A n co, .int .i64 0] w fun e w' => e = .returned (.int .i64 (zc us)) ∧ SL w0 w' l := by
  obtain ⟨k, hk⟩ := count_is us hm us.length 0 0 (by omega) (by omega) (by omega) (by omega)
  rw [Int.zero_add] at hk
  obtain ⟨rfl, h3, h4⟩ := Kd.R_reads' (h.row j hj)
  refine (quicksetref_spaceNow_count.calls k A co us 0 _ w h4 h3 hk).mono ?_
  rintro e w' ⟨rfl, hd⟩
  exact ⟨rfl, h.ext hd.below⟩
/-- What a deed answers, and does, by the document. -/
structure RfR where
  code : Int
  fr : Int
  us : List Int
  log : List S140
def rf_first (c : Int) : List S79 → Option S79
  | [] => none
  | r :: rs => if r.f1 - r.f0 ≥ c then some r else rf_first c rs
def rf_take (size : Int) (us : List Int) (log : List S140) (c : Int) : RfR :=
  if c < 1 ∨ c > size then ⟨2, 0, us, log⟩ else match rf_first c (sp_runs 0 us (us.length + 1) 0 (-1) []) with
  | none => ⟨8, 0, us, log⟩
  | some r => ⟨0, r.f0, sp_set 1 c.toNat us r.f0, log ++ [⟨false, ⟨r.f0, r.f0 + c⟩⟩]⟩
def rf_give (size : Int) (us : List Int) (log : List S140) (d : S145) : RfR :=
  if d.f1 < 0 ∨ d.f1 ≥ size ∨ d.f2 < 1 ∨ d.f2 > size - d.f1 then ⟨2, 0, us, log⟩
  else if sp_all 1 us d.f2.toNat d.f1 = true then ⟨0, 0, sp_set 2 d.f2.toNat us d.f1, log⟩ else ⟨6, 0, us, log⟩
def rf_turn (u : Int) : Int := rd [0, 1, 3, 0] u
def rf_commit (us : List Int) (log : List S140) : RfR := ⟨0, 0, us.map rf_turn, log ++ (sp_runs 3 us (us.length + 1) 0 (-1) []).map (fun r => ⟨true, r⟩)⟩
def rf_do (size : Int) (us : List Int) (log : List S140) (d : S145) : RfR :=
  if d.f0 = 1 then rf_take size us log d.f2 else if d.f0 = 2 then rf_give size us log d else if d.f0 = 3 then rf_commit us log else ⟨3, 0, us, log⟩
def rf_play (size : Int) : List S145 → List Int → List S140 → List S147 → List S147 × List S140
  | [], _, log, out => (out, log)
  | d :: ds, us, log, out => rf_play size ds (rf_do size us log d).us (rf_do size us log d).log (out ++ [⟨(rf_do size us log d).code, (rf_do size us log d).fr, zc (rf_do size us log d).us⟩])
def quicksetref_SpacePlayed.f (_k : Nat) (a0 : Int) (l1 : List S145) : Option (List S147 × List S140 × Int) :=
  if a0 < 1 ∨ a0 > 4096 then some ([], [], 2) else if (l1.length : Int) > 300 then some ([], [], 1) else some ((rf_play a0 l1 (List.replicate a0.toNat 0) [] []).1, (rf_play a0 l1 (List.replicate a0.toNat 0) [] []).2, 0)
theorem quicksetref_SpacePlayed.mono : ∀ a0 a1 k, LeO (quicksetref_SpacePlayed.f k a0 a1) (quicksetref_SpacePlayed.f (k + 1) a0 a1) := fun _ _ _ => LeO.refl _
def okU (us : List Int) : Prop := ∀ u ∈ us, 0 ≤ u ∧ u ≤ 3
theorem okU_set (c : Int) (hc : 0 ≤ c ∧ c ≤ 3) : ∀ (n : Nat) (us : List Int) (i : Int), okU us → okU (sp_set c n us i)
  | 0, us, i, h => h
  | n + 1, us, i, h => okU_set c hc n _ _ (fun u hu => by
    rcases List.mem_or_eq_of_mem_set hu with h1 | rfl
    · exact h u h1
    · exact hc)
theorem rf_turn_bd (u : Int) (h : 0 ≤ u ∧ u ≤ 3) : 0 ≤ rf_turn u ∧ rf_turn u ≤ 3 := by
  obtain rfl | rfl | rfl | rfl : u = 0 ∨ u = 1 ∨ u = 2 ∨ u = 3 := by omega
  all_goals decide
theorem rf_do_bd (size : Int) (us : List Int) (log : List S140) (d : S145) (ho : okU us) (hm : us.length ≤ 4096) : okU (rf_do size us log d).us ∧ (rf_do size us log d).us.length = us.length ∧ (rf_do size us log d).log.length ≤ log.length + 4097 := by
  unfold rf_do
  split
  · unfold rf_take
    split
    · exact ⟨ho, rfl, by show log.length ≤ _; omega⟩
    · split
      · exact ⟨ho, rfl, by show log.length ≤ _; omega⟩
      · exact ⟨okU_set 1 (by omega) _ _ _ ho, sp_set_length _ _ _ _, by simp⟩
  · split
    · unfold rf_give
      split
      · exact ⟨ho, rfl, by show log.length ≤ _; omega⟩
      · split
        · exact ⟨okU_set 2 (by omega) _ _ _ ho, sp_set_length _ _ _ _, by show log.length ≤ _; omega⟩
        · exact ⟨ho, rfl, by show log.length ≤ _; omega⟩
    · split
      · obtain ⟨_, hll⟩ := sp_runs_bd 3 us (us.length + 1) 0 (-1) [] (by omega) (by omega) (by omega) (fun r hr => by cases hr)
        simp only [List.length_nil] at hll
        unfold rf_commit
        exact ⟨fun u hu => by obtain ⟨v, hv, rfl⟩ := List.mem_map.1 hu; exact rf_turn_bd v (ho v hv), List.length_map _, by rw [List.length_append, List.length_map]; omega⟩
      · exact ⟨ho, rfl, by show log.length ≤ _; omega⟩
set_option maxHeartbeats 4000000 in
set_option maxRecDepth 100000 in
theorem quicksetref_SpacePlayed.fine (n0 : Nat) (A1 : Option Addr) (c1 : Nat) (l1 : List S145) (w : World) (hr1 : Kd.C k145 w A1 l1.length l1) (hc1 : l1.length ≤ c1) (h0 : 1 ≤ n0) (h1 : n0 ≤ 4096) (hl : l1.length ≤ 300) :
    Calls Try.prog 39 #[.int .i64 n0, .slice A1 l1.length c1] w fun e w' => ∃ v0_ v1_ : Value, e = .returned (.tuple #[v0_, v1_, .int .i64 0]) ∧ Kd.R k147 147 w' w.heap.size (fun _ => True) v0_ (rf_play n0 l1 (List.replicate n0 0) [] []).1 ∧ Kd.R k140 140 w' w.heap.size (fun _ => True) v1_ (rf_play n0 l1 (List.replicate n0 0) [] []).2 ∧ Below w.heap.size w w' := by
  have hud := Try.underlying145
  have huf := Try.underlying147
  have hur := Try.underlying79
  have hb0 : decide ((n0 : Int) < 1) = false := decide_eq_false (by omega)
  have hb1 : decide (4096 < (n0 : Int)) = false := decide_eq_false (by omega)
  have hll2 : decide (300 < (l1.length : Int)) = false := decide_eq_false (by omega)
  have HS := Aside0.mk (SL.start w)
  have HC := Aside0.mk hr1
  clear hr1
  go_enter Try.func39, Try.ntmps39
  go_upto_region 9 with ((with_reducible refine gate_dst (N := 29) rfl ?_); (with_reducible apply Sep.make_row (d := (Kd.int .i64)) (t := 135) (e := 3) (n := (n0 : Int)) (z0 := 0)); (case hSL => exact (by repeat (first | (with_reducible first | exact HS.out | apply Sep.SL.drewN | apply Sep.SL.drew | apply Sep.SL.alloc) | exact HS.out))); (case hgd => exact rfl); (case hd => exact rfl); (case ho => exact rfl); (case hx => exact rfl); (case hy => exact rfl); (case ht => exact Try.underlying135); (case hinfo => exact info3); (case hz => exact rfl); (case hs0 => decide); (case hb0 => omega); (case hzero => exact (fun _ _ => rfl)); (case h0 => omega); (case hl => omega); intro v1_ w1_ hs_; have n1_ := Aside0.mk hs_; clear HS hs_; have HS := n1_; clear n1_; obtain ⟨go, co, e1_⟩ := Sep.SL.form HS.out 0 rfl (by simp; omega); simp only [Int.toNat_natCast, List.length_replicate] at e1_ HS; subst e1_)
  have HS := Aside0.mk (SL.nilRow (SL.nilRow HS.out k140 140) k147 147)
  clear hb0 hb1 hll2
  go_loopg [8, 9, 32] l1.length (fun kq v8 v9 v32 wr => ∃ (i : Int) (us : List Int) (log : List S140) (out : List S147), v32 = .int .i64 i ∧ 0 ≤ i ∧ i + kq = (l1.length : Int) ∧ us.length = n0 ∧ Aside0 (okU us) ∧ (log.length : Int) ≤ 4097 * i ∧ (out.length : Int) = i ∧ Aside0 (rf_play n0 (l1.drop i.toNat) us log out = rf_play n0 l1 (List.replicate n0 0) [] []) ∧ Aside0 (SL w wr [rowA k147 147 v8 out, rowA k140 140 v9 log, rowA (Kd.int .i64) 3 (.slice (some ⟨go, 0, none⟩) n0 co) us]))
  case atStart => exact ⟨0, List.replicate n0 0, [], [], rfl, by omega, by omega, by simp, ⟨fun u hu => by rw [List.eq_of_mem_replicate hu]; omega⟩, by simp, by simp, ⟨by simp⟩, by repeat (first | exact HS | exact Aside0.mk (by repeat (first | (with_reducible first | exact HS.out | apply Sep.SL.drewN | apply Sep.SL.drew | apply Sep.SL.alloc) | exact HS.out)))⟩
  case round =>
    clear HS
    obtain ⟨i, us, log, out, rfl, hi0, hik, hul, HU, hlg, hol, HI, HS⟩ := hrel
    cases gk with
    | zero =>
      have hit : decide (i < (l1.length : Int)) = false := decide_eq_false (by omega)
      have HI2 := HI.out
      rw [List.drop_eq_nil_of_le (by omega), rf_play] at HI2
      have HI := Aside0.mk HI2
      clear HI2
      go_wp2_with (fail)
      refine bodyPost_ret (v := .tuple #[u8, u9, .int .i64 0]) ?_ rfl ?_
      · simp [results, Try.results39, go_sem]
      · rw [← HI.out]
        exact ⟨_, _, rfl, HS.out.row 0 rfl, HS.out.row 1 rfl, HS.out.1⟩
    | succ g1 =>
      have hit : decide (i < (l1.length : Int)) = true := decide_eq_true (by omega)
      have q8 : i < (l1.length : Int) := by omega
      obtain ⟨ad, he, hx0, hx1, hx2⟩ := at_T145 HC.out i hi0 q8
      subst he
      have hx0 := (HS.out.1.cell (World.block_lt_of_cell? w _ hx0)).trans hx0
      have hx1 := (HS.out.1.cell (World.block_lt_of_cell? w _ hx1)).trans hx1
      have hx2 := (HS.out.1.cell (World.block_lt_of_cell? w _ hx2)).trans hx2
      have p8 := eq_true hi0
      have HI2 := HI.out
      rw [(rd_drop z145 l1 i hi0 q8).1, rf_play] at HI2
      change rf_play n0 (l1.drop (i + 1).toNat) (rf_do n0 us log (rd_T145 l1 i)).us (rf_do n0 us log (rd_T145 l1 i)).log (out ++ [⟨(rf_do n0 us log (rd_T145 l1 i)).code, (rf_do n0 us log (rd_T145 l1 i)).fr, zc (rf_do n0 us log (rd_T145 l1 i)).us⟩]) = _ at HI2
      have HI := Aside0.mk HI2
      clear HI2
      generalize rd_T145 l1 i = d at HI hx0 hx1 hx2
      replace q8 := eq_true q8
      go_upto_region 11 with ((with_reducible refine gate_dst (N := 11) rfl ?_); refine box_event ?hg (N := 11) ?hd (cs := #[.int .i64 0, .int .i64 0, .int .i64 0]) (t := 145) ?hr ?_; (case hd => exact rfl); (case hg => exact rfl); (case hr => first | (go_simp; done) | (go_simp; rfl)); intro gd hgb_ w6 hbox_ hb_; have n1_ := Aside0.mk (Sep.SL.newBlk (by repeat (first | (with_reducible first | exact HS.out | apply Sep.SL.drewN | apply Sep.SL.drew | apply Sep.SL.alloc) | exact HS.out)) hb_ hgb_ hbox_); clear HS hgb_ hbox_ hb_; have HS := n1_; clear n1_; have hz3 := HS.out.c0 0 rfl; have hz4 := HS.out.c1 0 rfl; have hz5 := HS.out.c2 0 rfl)
      have HS := Aside0.mk (((HS.out.put 0 rfl 0 (.int .i64 d.f0)).put 0 rfl 1 (.int .i64 d.f1)).put 0 rfl 2 (.int .i64 d.f2))
      clear hz3 hz4 hz5 hx0 hx1 hx2
      generalize World.setCell _ _ _ = w7 at HS ⊢
      have hd0 := HS.out.c0 0 rfl
      go_upto_block 2 with ((with_reducible refine gate_dst (N := 12) rfl ?_); refine box_event ?hg (N := 12) ?hd (cs := #[.int .i64 0, .int .i64 0, .int .i64 0]) (t := 147) ?hr ?_; (case hd => exact rfl); (case hg => exact rfl); (case hr => first | (go_simp; done) | (go_simp; rfl)); intro gb hgb_ w9 hbox_ hb_; have n1_ := Aside0.mk (Sep.SL.newBlk (by repeat (first | (with_reducible first | exact HS.out | apply Sep.SL.drewN | apply Sep.SL.drew | apply Sep.SL.alloc) | exact HS.out)) hb_ hgb_ hbox_); clear HS hgb_ hbox_ hb_; have HS := n1_; clear n1_; clear hd0; have hd0 := HS.out.c0 1 rfl)
      clear hd0
      have hok := HU.out
      clear HU
      have hdo := rf_do_bd (n0 : Int) us log d hok (by omega)
      have HU := Aside0.mk hok
      clear hok
      have HD := Aside0.mk hdo
      clear hdo
      go_cut [9] (fun v9 wx => Aside0 (SL w wx [blkA gb #[.int .i64 (rf_do n0 us log d).code, .int .i64 (rf_do n0 us log d).fr, .int .i64 0] 147, rowA k147 147 u8 out, rowA k140 140 v9 (rf_do n0 us log d).log, rowA (Kd.int .i64) 3 (.slice (some ⟨go, 0, none⟩) n0 co) (rf_do n0 us log d).us]))
      case first =>
        have hg0 := HS.out.c0 0 rfl
        have hg1 := HS.out.c1 0 rfl
        have hd1 := HS.out.c1 1 rfl
        have hd2 := HS.out.c2 1 rfl
        by_cases k1 : d.f0 = 1
        · have hb_ : (d.f0 == 1) = true := by simp [k1]
          have e : Aside0 (rf_do n0 us log d = rf_take n0 us log d.f2) := ⟨by unfold rf_do; rw [if_pos k1]⟩
          clear k1
          have HS := Aside0.mk (HS.out.put 0 rfl 0 (.int .i64 8))
          go_upto_region 16 with (fail)
          clear hg0 hg1 hd1 hd2
          generalize World.setCell _ _ _ = w13 at HS ⊢
          have hg0 := HS.out.c0 0 rfl
          have hd2 := HS.out.c2 1 rfl
          by_cases c1 : d.f2 < 1 ∨ d.f2 > (n0 : Int)
          · have e2 : Aside0 (rf_take n0 us log d.f2 = ⟨2, 0, us, log⟩) := ⟨by unfold rf_take; rw [if_pos c1]⟩
            by_cases c2 : d.f2 < 1
            · have g1_ := decide_eq_true c2
              clear c1 c2
              go_wp2_with (fail)
              have HS := Aside0.mk (HS.out.put 0 rfl 0 (.int .i64 2))
              clear hg0 hd2
              generalize World.setCell _ _ _ = w14 at HS ⊢
              go_meet
              rw [e.out, e2.out]
              exact Aside0.mk (Sep.SL.front (Sep.SL.front (Sep.SL.front (Sep.SL.front (Sep.SL.drop (Sep.SL.front HS.out 1 rfl)) 3 rfl) 3 rfl) 3 rfl) 3 rfl)
            · have g1_ := decide_eq_false c2
              have g2_ : decide ((n0 : Int) < d.f2) = true := decide_eq_true (by omega)
              clear c1 c2
              go_wp2_with (fail)
              have HS := Aside0.mk (HS.out.put 0 rfl 0 (.int .i64 2))
              clear hg0 hd2
              generalize World.setCell _ _ _ = w14 at HS ⊢
              go_meet
              rw [e.out, e2.out]
              exact Aside0.mk (Sep.SL.front (Sep.SL.front (Sep.SL.front (Sep.SL.front (Sep.SL.drop (Sep.SL.front HS.out 1 rfl)) 3 rfl) 3 rfl) 3 rfl) 3 rfl)
          · have g1_ : decide (d.f2 < 1) = false := decide_eq_false (by omega)
            have g2_ : decide ((n0 : Int) < d.f2) = false := decide_eq_false (by omega)
            have hc0 : 1 ≤ d.f2 := by omega
            have hc1_ : d.f2 ≤ (n0 : Int) := by omega
            have hst := stretches_SL HS.out 4 rfl 0 (by omega)
            have HT : Aside0 (rf_do n0 us log d = match rf_first d.f2 (sp_runs 0 us (us.length + 1) 0 (-1) []) with | none => ⟨8, 0, us, log⟩ | some r => ⟨0, r.f0, sp_set 1 d.f2.toNat us r.f0, log ++ [⟨false, ⟨r.f0, r.f0 + d.f2⟩⟩]⟩) := ⟨by rw [e.out]; exact if_neg c1⟩
            obtain ⟨hrs, hll⟩ := sp_runs_bd 0 us (us.length + 1) 0 (-1) [] (by omega) (by omega) (by omega) (fun r hr => by cases hr)
            generalize sp_runs 0 us (us.length + 1) 0 (-1) [] = l at hst HT hrs hll
            have HR := Aside0.mk hrs
            simp only [List.length_nil, Nat.zero_add] at hll
            clear hrs c1 e
            go_upto_region 19 with (go_at_call 72; refine hst.mono ?_; rintro e w10 ⟨v0_, rfl, h10⟩; obtain ⟨A2_, c2_, e2_⟩ := h10.slice 0 rfl; subst e2_; have HS := Aside0.mk h10; clear h10 hst hg0 hd2)
            go_loopg [9, 55] l.length (fun kq v9 v55 wr => ∃ j : Int, v9 = u9 ∧ v55 = .int .i64 j ∧ 0 ≤ j ∧ j + kq = (l.length : Int) ∧ Aside0 (rf_first d.f2 (l.drop j.toNat) = rf_first d.f2 l) ∧ Aside0 (SL w wr [rowA k79 79 (.slice A2_ l.length c2_) l, blkA gb #[.int .i64 8, .int .i64 0, .int .i64 0] 147, blkA gd #[.int .i64 d.f0, .int .i64 d.f1, .int .i64 d.f2] 145, rowA k147 147 u8 out, rowA k140 140 u9 log, rowA (Kd.int .i64) 3 (.slice (some ⟨go, 0, none⟩) n0 co) us]))
            case atStart => exact ⟨0, rfl, rfl, by omega, by omega, ⟨by simp⟩, by repeat (first | exact HS | exact Aside0.mk (by repeat (first | (with_reducible first | exact HS.out | apply Sep.SL.drewN | apply Sep.SL.drew | apply Sep.SL.alloc) | exact HS.out)))⟩
            case round =>
              clear HS
              obtain ⟨j, rfl, rfl, hj0, hjk, HJ, HS⟩ := hrel
              cases gk with
              | zero =>
                have hjt : decide (j < (l.length : Int)) = false := decide_eq_false (by omega)
                have HJ2 := HJ.out
                rw [List.drop_eq_nil_of_le (by omega), rf_first] at HJ2
                have HT2 := HT.out
                rw [← HJ2] at HT2
                have HT := Aside0.mk HT2
                clear HJ HJ2 HT2
                go_wp2_with (fail)
                go_meet
                rw [HT.out]
                exact Aside0.mk (Sep.SL.front (Sep.SL.front (Sep.SL.front (Sep.SL.front (Sep.SL.drop (Sep.SL.front (Sep.SL.drop (Sep.SL.front HS.out 2 rfl)) 0 rfl)) 3 rfl) 3 rfl) 3 rfl) 3 rfl)
              | succ g2 =>
                have hjt : decide (j < (l.length : Int)) = true := decide_eq_true (by omega)
                have q9 : j < (l.length : Int) := by omega
                obtain ⟨ad2, he2, hx0, hx1⟩ := at_T79 (HS.out.C 0 rfl) j hj0 q9
                subst he2
                have p9 := eq_true hj0
                obtain ⟨hd1, hd2⟩ := rd_drop z79 l j hj0 q9
                obtain ⟨b0, b1, b2⟩ := HR.out _ hd2
                have HJ2 := HJ.out
                rw [hd1, rf_first] at HJ2
                clear hd1 hd2
                change 0 ≤ (rd_T79 l j).f0 at b0
                change (rd_T79 l j).f0 ≤ (rd_T79 l j).f1 at b1
                change (rd_T79 l j).f1 ≤ _ at b2
                change (if (rd_T79 l j).f1 - (rd_T79 l j).f0 ≥ d.f2 then some (rd_T79 l j) else rf_first d.f2 (l.drop (j + 1).toNat)) = _ at HJ2
                have HJ := Aside0.mk HJ2
                clear HJ2
                generalize rd_T79 l j = x at HJ hx0 hx1 b0 b1 b2
                replace q9 := eq_true q9
                go_upto_region 21 with ((with_reducible refine gate_dst (N := 14) rfl ?_); refine box_event ?hg (N := 14) ?hd (cs := #[.int .i64 0, .int .i64 0]) (t := 79) ?hr ?_; (case hd => exact rfl); (case hg => exact rfl); (case hr => first | (go_simp; done) | (go_simp; rfl)); intro gr hgb_ w6_ hbox_ hb_; have n1_ := Aside0.mk (Sep.SL.newBlk (by repeat (first | (with_reducible first | exact HS.out | apply Sep.SL.drewN | apply Sep.SL.drew | apply Sep.SL.alloc) | exact HS.out)) hb_ hgb_ hbox_); clear HS hgb_ hbox_ hb_; have HS := n1_; clear n1_; have hz3 := HS.out.c0 0 rfl; have hz4 := HS.out.c1 0 rfl)
                have HS := Aside0.mk ((HS.out.put 0 rfl 0 (.int .i64 x.f0)).put 0 rfl 1 (.int .i64 x.f1))
                clear hz3 hz4 hx0 hx1
                generalize World.setCell _ _ _ = w14 at HS ⊢
                have hz3 := HS.out.c0 0 rfl
                have hz4 := HS.out.c1 0 rfl
                have hd2 := HS.out.c2 3 rfl
                have hw1_ : wrap64 (x.f1 - x.f0) = x.f1 - x.f0 := by unfold wrap64; omega
                by_cases hx : x.f1 - x.f0 ≥ d.f2
                · have hb3_ : decide (d.f2 ≤ x.f1 - x.f0) = true := decide_eq_true hx
                  have HJ2 := HJ.out
                  rw [if_pos hx] at HJ2
                  have HT2 := HT.out
                  rw [← HJ2] at HT2
                  have HT := Aside0.mk HT2
                  have hg0 := HS.out.c0 2 rfl
                  have hle : x.f0 + d.f2 ≤ (us.length : Int) := by omega
                  have hw2_ : wrap64 (x.f0 + d.f2) = x.f0 + d.f2 := by unfold wrap64; omega
                  clear HJ HJ2 HT2 hx
                  go_upto_region 23 with (fail)
                  have HS := Aside0.mk (HS.out.put 2 rfl 0 (.int .i64 0))
                  clear hz3 hz4 hd2 hg0
                  generalize World.setCell _ _ _ = w15 at HS ⊢
                  have hz3 := HS.out.c0 0 rfl
                  have hg1 := HS.out.c1 2 rfl
                  go_upto_region 24 with (fail)
                  have HS := Aside0.mk (HS.out.put 2 rfl 1 (.int .i64 x.f0))
                  clear hz3 hg1
                  generalize World.setCell _ _ _ = w16 at HS ⊢
                  have hz3 := HS.out.c0 0 rfl
                  have hd2 := HS.out.c2 3 rfl
                  have hput := put_SL HS.out 6 rfl x.f0 (x.f0 + d.f2) 1 b0 (by omega) hle (by omega)
                  rw [show (x.f0 + d.f2 - x.f0).toNat = d.f2.toNat from by omega] at hput
                  go_upto_region 25 with (go_at_call 76; refine hput.mono ?_; rintro e w17 ⟨rfl, h17⟩; have HS := Aside0.mk h17; clear hput h17 hz3 hd2; have hz3 := HS.out.c0 0 rfl; have hd2 := HS.out.c2 3 rfl)
                  go_wp2_with ((with_reducible refine gate_builtin (b := .append) (xs := #[.tmp 80, .tmp 90]) rfl ?_); at_builtin; (first | with_reducible apply Sep.append_row (d := k140) (t := 63) (e := 140) (s := .tmp 80) (x := .tmp 90) (p := (⟨false, ⟨x.f0, x.f0 + d.f2⟩⟩ : S140)) (cs := [.bool false, .int .i64 x.f0, .int .i64 (x.f0 + d.f2)])); (case hSL => exact (Sep.SL.plain (Sep.SL.front (by repeat (first | (with_reducible first | exact HS.out | apply Sep.SL.drewN | apply Sep.SL.drew | apply Sep.SL.alloc) | exact HS.out)) 5 rfl) _ _ (fun _ _ => k140_mkM _ _ _ _)).swap); (case hgd => exact rfl); (case ho => exact rfl); (case ht => exact Try.underlying63); (case hinfo => exact info140); (case hz => exact rfl); (case hs0 => decide); (case hb0 => omega); (case hs => exact rfl); (case hx => exact rfl); (case hl => omega); intro v1_ w1_ hs_; have n1_ := Aside0.mk hs_; clear HS hs_; have HS := n1_; clear n1_; obtain ⟨a1_, c1_, e1_⟩ := Sep.SL.slice HS.out 0 rfl; rw [List.length_append, List.length_singleton] at e1_; subst e1_; clear hz3 hd2)
                  go_meet
                  rw [HT.out]
                  exact Aside0.mk (Sep.SL.front (Sep.SL.front (Sep.SL.front (Sep.SL.front (Sep.SL.drop (Sep.SL.front (Sep.SL.drop (Sep.SL.front (Sep.SL.drop (Sep.SL.front (by repeat (first | (with_reducible first | exact HS.out | apply Sep.SL.drewN | apply Sep.SL.drew | apply Sep.SL.alloc) | exact HS.out)) 4 rfl)) 2 rfl)) 1 rfl)) 3 rfl) 1 rfl) 3 rfl) 3 rfl)
                · have hb3_ : decide (d.f2 ≤ x.f1 - x.f0) = false := decide_eq_false hx
                  have HJ2 := HJ.out
                  rw [if_neg hx] at HJ2
                  have HJ := Aside0.mk HJ2
                  have hw2_ : wrap64 (j + 1) = j + 1 := by unfold wrap64; omega
                  clear HJ2 hx
                  go_wp2_with (fail)
                  go_roundg g2
                  case measure => omega
                  case rel => exact ⟨j + 1, rfl, by first | rfl | (simp; done) | (simp [*]; done), by omega, by omega, HJ, Aside0.mk (Sep.SL.front (Sep.SL.front (Sep.SL.front (Sep.SL.front (Sep.SL.front (Sep.SL.front (Sep.SL.drop (Sep.SL.front (by repeat (first | (with_reducible first | exact HS.out | apply Sep.SL.drewN | apply Sep.SL.drew | apply Sep.SL.alloc) | exact HS.out)) 0 rfl)) 5 rfl) 5 rfl) 5 rfl) 5 rfl) 5 rfl) 5 rfl)⟩
        · have hb_ : (d.f0 == 1) = false := by simp [k1]
          by_cases k2 : d.f0 = 2
          · have hb2_ : (d.f0 == 2) = true := by simp [k2]
            have e : Aside0 (rf_do n0 us log d = rf_give n0 us log d) := ⟨by unfold rf_do; rw [if_neg k1, if_pos k2]⟩
            clear k1 k2
            by_cases cb : d.f1 < 0 ∨ d.f1 ≥ (n0 : Int) ∨ d.f2 < 1 ∨ d.f2 > (n0 : Int) - d.f1
            · have e2 : Aside0 (rf_give n0 us log d = ⟨2, 0, us, log⟩) := ⟨by unfold rf_give; rw [if_pos cb]⟩
              by_cases c1 : d.f1 < 0
              · have g1_ := decide_eq_true c1
                clear cb c1
                go_wp2_with (fail)
                have HS := Aside0.mk (HS.out.put 0 rfl 0 (.int .i64 2))
                clear hg0 hg1 hd1 hd2
                generalize World.setCell _ _ _ = w14 at HS ⊢
                go_meet
                rw [e.out, e2.out]
                exact Aside0.mk (Sep.SL.front (Sep.SL.front (Sep.SL.front (Sep.SL.front (Sep.SL.drop (Sep.SL.front HS.out 1 rfl)) 3 rfl) 3 rfl) 3 rfl) 3 rfl)
              · have g1_ := decide_eq_false c1
                by_cases c2 : d.f1 ≥ (n0 : Int)
                · have g2_ : decide ((n0 : Int) ≤ d.f1) = true := decide_eq_true c2
                  clear c2
                  clear cb c1
                  go_wp2_with (fail)
                  have HS := Aside0.mk (HS.out.put 0 rfl 0 (.int .i64 2))
                  clear hg0 hg1 hd1 hd2
                  generalize World.setCell _ _ _ = w14 at HS ⊢
                  go_meet
                  rw [e.out, e2.out]
                  exact Aside0.mk (Sep.SL.front (Sep.SL.front (Sep.SL.front (Sep.SL.front (Sep.SL.drop (Sep.SL.front HS.out 1 rfl)) 3 rfl) 3 rfl) 3 rfl) 3 rfl)
                · have g2_ : decide ((n0 : Int) ≤ d.f1) = false := decide_eq_false c2
                  by_cases c3 : d.f2 < 1
                  · have g3_ := decide_eq_true c3
                    clear c2 c3
                    clear cb c1
                    go_wp2_with (fail)
                    have HS := Aside0.mk (HS.out.put 0 rfl 0 (.int .i64 2))
                    clear hg0 hg1 hd1 hd2
                    generalize World.setCell _ _ _ = w14 at HS ⊢
                    go_meet
                    rw [e.out, e2.out]
                    exact Aside0.mk (Sep.SL.front (Sep.SL.front (Sep.SL.front (Sep.SL.front (Sep.SL.drop (Sep.SL.front HS.out 1 rfl)) 3 rfl) 3 rfl) 3 rfl) 3 rfl)
                  · have g3_ := decide_eq_false c3
                    have hw_ : wrap64 ((n0 : Int) - d.f1) = (n0 : Int) - d.f1 := by unfold wrap64; omega
                    have g4_ : decide ((n0 : Int) - d.f1 < d.f2) = true := decide_eq_true (by omega)
                    clear c2 c3
                    clear cb c1
                    go_wp2_with (fail)
                    have HS := Aside0.mk (HS.out.put 0 rfl 0 (.int .i64 2))
                    clear hg0 hg1 hd1 hd2
                    generalize World.setCell _ _ _ = w14 at HS ⊢
                    go_meet
                    rw [e.out, e2.out]
                    exact Aside0.mk (Sep.SL.front (Sep.SL.front (Sep.SL.front (Sep.SL.front (Sep.SL.drop (Sep.SL.front HS.out 1 rfl)) 3 rfl) 3 rfl) 3 rfl) 3 rfl)
            · have g1_ : decide (d.f1 < 0) = false := decide_eq_false (by omega)
              have g2_ : decide ((n0 : Int) ≤ d.f1) = false := decide_eq_false (by omega)
              have g3_ : decide (d.f2 < 1) = false := decide_eq_false (by omega)
              have hw_ : wrap64 ((n0 : Int) - d.f1) = (n0 : Int) - d.f1 := by unfold wrap64; omega
              have hw2_ : wrap64 (d.f1 + d.f2) = d.f1 + d.f2 := by unfold wrap64; omega
              have g4_ : decide ((n0 : Int) - d.f1 < d.f2) = false := decide_eq_false (by omega)
              have hle : d.f1 + d.f2 ≤ (us.length : Int) := by omega
              have his := is_SL HS.out 4 rfl d.f1 (d.f1 + d.f2) 1 (by omega) (by omega) hle (by omega)
              rw [show (d.f1 + d.f2 - d.f1).toNat = d.f2.toNat from by omega] at his
              have hf0 : 0 ≤ d.f1 := by omega
              have hc0 : 1 ≤ d.f2 := by omega
              cases ha : sp_all 1 us d.f2.toNat d.f1 with
              | false =>
                rw [ha] at his
                have e2 : Aside0 (rf_give n0 us log d = ⟨6, 0, us, log⟩) := ⟨by unfold rf_give; rw [if_neg cb, ha]; rfl⟩
                clear ha cb
                go_wp2_with (go_at_call 77; refine his.mono ?_; rintro e w10 ⟨rfl, h10⟩; have HS := Aside0.mk h10; clear his h10 hg0 hg1 hd1 hd2; have hg0 := HS.out.c0 0 rfl)
                have HS := Aside0.mk (HS.out.put 0 rfl 0 (.int .i64 6))
                clear hg0
                generalize World.setCell _ _ _ = w14 at HS ⊢
                go_meet
                rw [e.out, e2.out]
                exact Aside0.mk (Sep.SL.front (Sep.SL.front (Sep.SL.front (Sep.SL.front (Sep.SL.drop (Sep.SL.front HS.out 1 rfl)) 3 rfl) 3 rfl) 3 rfl) 3 rfl)
              | true =>
                rw [ha] at his
                have e2 : Aside0 (rf_give n0 us log d = ⟨0, 0, sp_set 2 d.f2.toNat us d.f1, log⟩) := ⟨by unfold rf_give; rw [if_neg cb, ha]; rfl⟩
                clear ha cb
                go_upto_region 32 with (go_at_call 77; refine his.mono ?_; rintro e w10 ⟨rfl, h10⟩; have HS := Aside0.mk h10; clear his h10 hg0 hg1 hd1 hd2; have hd1 := HS.out.c1 1 rfl; have hd2 := HS.out.c2 1 rfl)
                have hput := put_SL HS.out 4 rfl d.f1 (d.f1 + d.f2) 2 hf0 (by omega) hle (by omega)
                rw [show (d.f1 + d.f2 - d.f1).toNat = d.f2.toNat from by omega] at hput
                go_wp2_with (go_at_call 76; refine hput.mono ?_; rintro e w17 ⟨rfl, h17⟩; have HS := Aside0.mk h17; clear hput h17 hd1 hd2)
                go_meet
                rw [e.out, e2.out]
                exact Aside0.mk (Sep.SL.front (Sep.SL.front (Sep.SL.front (Sep.SL.front (Sep.SL.drop (Sep.SL.front HS.out 1 rfl)) 3 rfl) 3 rfl) 3 rfl) 3 rfl)
          · have hb2_ : (d.f0 == 2) = false := by simp [k2]
            by_cases k3 : d.f0 = 3
            · have hb3_ : (d.f0 == 3) = true := by simp [k3]
              have e : Aside0 (rf_do n0 us log d = rf_commit us log) := ⟨by unfold rf_do; rw [if_neg k1, if_neg k2, if_pos k3]⟩
              clear k1 k2 k3
              have hst := stretches_SL HS.out 4 rfl 3 (by omega)
              have HT : Aside0 (rf_do n0 us log d = ⟨0, 0, us.map rf_turn, log ++ (sp_runs 3 us (us.length + 1) 0 (-1) []).map (fun r => (⟨true, r⟩ : S140))⟩) := ⟨by rw [e.out]; rfl⟩
              obtain ⟨_, hll⟩ := sp_runs_bd 3 us (us.length + 1) 0 (-1) [] (by omega) (by omega) (by omega) (fun r hr => by cases hr)
              generalize sp_runs 3 us (us.length + 1) 0 (-1) [] = l at hst HT hll
              simp only [List.length_nil, Nat.zero_add] at hll
              clear e
              go_upto_region 35 with (go_at_call 72; refine hst.mono ?_; rintro e w10 ⟨v0_, rfl, h10⟩; obtain ⟨A2_, c2_, e2_⟩ := h10.slice 0 rfl; subst e2_; have HS := Aside0.mk h10; clear h10 hst hg0 hg1 hd1 hd2)
              go_loopg [9, 144] l.length (fun kq v9 v144 wr => ∃ (j : Int) (lg : List S140), v144 = .int .i64 j ∧ 0 ≤ j ∧ j + kq = (l.length : Int) ∧ (lg.length : Int) = log.length + j ∧ Aside0 (lg ++ (l.drop j.toNat).map (fun r => (⟨true, r⟩ : S140)) = log ++ l.map (fun r => (⟨true, r⟩ : S140))) ∧ Aside0 (SL w wr [rowA k79 79 (.slice A2_ l.length c2_) l, blkA gb #[.int .i64 0, .int .i64 0, .int .i64 0] 147, rowA k147 147 u8 out, rowA k140 140 v9 lg, rowA (Kd.int .i64) 3 (.slice (some ⟨go, 0, none⟩) n0 co) us]))
              case atStart => exact ⟨0, log, rfl, by omega, by omega, by omega, ⟨by simp⟩, Aside0.mk (Sep.SL.front (Sep.SL.front (Sep.SL.front (Sep.SL.front (Sep.SL.front (Sep.SL.drop (Sep.SL.front (by repeat (first | (with_reducible first | exact HS.out | apply Sep.SL.drewN | apply Sep.SL.drew | apply Sep.SL.alloc) | exact HS.out)) 2 rfl)) 4 rfl) 4 rfl) 4 rfl) 4 rfl) 4 rfl)⟩
              case round =>
                clear HS
                obtain ⟨j, lg, rfl, hj0, hjk, hlg2, HJ, HS⟩ := hrel
                cases gk with
                | zero =>
                  have hjt : decide (j < (l.length : Int)) = false := decide_eq_false (by omega)
                  have HJ2 := HJ.out
                  rw [List.drop_eq_nil_of_le (by omega), List.map_nil, List.append_nil] at HJ2
                  have HT2 := HT.out
                  rw [← HJ2] at HT2
                  have HT := Aside0.mk HT2
                  have HS := Aside0.mk HS.out.drop
                  clear HJ HJ2 HT2 hlg2
                  go_upto_region 40 with (fail)
                  obtain ⟨wo, hwo⟩ : ∃ wo, wo = wr := ⟨_, rfl⟩
                  subst hwo
                  go_loopg [156] n0 (fun kq v156 wr => ∃ j : Int, v156 = .int .i64 j ∧ 0 ≤ j ∧ j + kq = (n0 : Int) ∧ Aside0 (SL w wr [blkA gb #[.int .i64 0, .int .i64 0, .int .i64 0] 147, rowA k147 147 u8 out, rowA k140 140 u9 lg, rowA (Kd.int .i64) 3 (.slice (some ⟨go, 0, none⟩) n0 co) ((us.take j.toNat).map rf_turn ++ us.drop j.toNat)]))
                  case atStart => exact ⟨0, rfl, by omega, by omega, by simpa using HS⟩
                  case round =>
                    clear HS
                    obtain ⟨j2, rfl, hk0, hkk, HS⟩ := hrel
                    have hzl : ((us.take j2.toNat).map rf_turn ++ us.drop j2.toNat).length = us.length := by rw [List.length_append, List.length_map, List.length_take, List.length_drop]; omega
                    have hz := HS.out.int 3 rfl
                    rw [hzl] at hz
                    cases gk with
                    | zero =>
                      have hjt : decide (j2 < (n0 : Int)) = false := decide_eq_false (by omega)
                      rw [List.take_of_length_le (by omega), List.drop_eq_nil_of_le (by omega), List.append_nil] at HS
                      clear hzl hz
                      go_wp2_with (fail)
                      go_meet
                      rw [HT.out]
                      exact HS
                    | succ g2 =>
                      have hjt : decide (j2 < (n0 : Int)) = true := decide_eq_true (by omega)
                      have q8_ : j2 < (us.length : Int) := by omega
                      obtain ⟨hx, hxf⟩ := hz j2 hk0 q8_
                      clear hz
                      rw [mid_get _ us j2 hk0 q8_] at hx
                      clear hzl
                      have p8_ := eq_true hk0
                      have q9_ := eq_true (show j2 < (n0 : Int) by omega)
                      have hgo := World.block_lt_of_cell? _ _ hx
                      have hw1_ : wrap64 (j2 + 1) = j2 + 1 := by unfold wrap64; omega
                      have hub := HU.out (rd us j2) (rd_drop (0 : Int) us j2 hk0 q8_).2
                      have HM := Aside0.mk (mid_set rf_turn us j2 hk0 q8_)
                      clear q8_
                      generalize rd us j2 = u at hx hub HM
                      obtain hu | hu | hu | hu : u = 0 ∨ u = 1 ∨ u = 2 ∨ u = 3 := by omega
                      all_goals
                        subst hu
                        clear hub
                        go_wp2_with (fail)
                        go_roundg g2
                        case measure => omega
                        case rel => exact ⟨j2 + 1, by first | rfl | (simp; done) | (simp [*]; done), by omega, by omega, by rw [← HM.out]; exact Aside0.mk ((HS.out.intPut 3 rfl j2 _).alloc _)⟩
                | succ g2 =>
                  have hjt : decide (j < (l.length : Int)) = true := decide_eq_true (by omega)
                  have q9 : j < (l.length : Int) := by omega
                  obtain ⟨ad2, he2, hx0, hx1⟩ := at_T79 (HS.out.C 0 rfl) j hj0 q9
                  subst he2
                  have p9 := eq_true hj0
                  obtain ⟨hd1, _⟩ := rd_drop z79 l j hj0 q9
                  have HJ2 := HJ.out
                  rw [hd1, List.map_cons] at HJ2
                  clear hd1
                  change lg ++ ((⟨true, rd_T79 l j⟩ : S140) :: _) = _ at HJ2
                  rw [← List.singleton_append, ← List.append_assoc] at HJ2
                  have HJ := Aside0.mk HJ2
                  clear HJ2
                  generalize rd_T79 l j = x at HJ hx0 hx1
                  replace q9 := eq_true q9
                  go_upto_region 37 with ((with_reducible refine gate_dst (N := 16) rfl ?_); refine box_event ?hg (N := 16) ?hd (cs := #[.int .i64 0, .int .i64 0]) (t := 79) ?hr ?_; (case hd => exact rfl); (case hg => exact rfl); (case hr => first | (go_simp; done) | (go_simp; rfl)); intro gr hgb_ w6_ hbox_ hb_; have n1_ := Aside0.mk (Sep.SL.newBlk (by repeat (first | (with_reducible first | exact HS.out | apply Sep.SL.drewN | apply Sep.SL.drew | apply Sep.SL.alloc) | exact HS.out)) hb_ hgb_ hbox_); clear HS hgb_ hbox_ hb_; have HS := n1_; clear n1_; have hz3 := HS.out.c0 0 rfl; have hz4 := HS.out.c1 0 rfl)
                  have HS := Aside0.mk ((HS.out.put 0 rfl 0 (.int .i64 x.f0)).put 0 rfl 1 (.int .i64 x.f1))
                  clear hz3 hz4 hx0 hx1
                  generalize World.setCell _ _ _ = w14 at HS ⊢
                  have hz3 := HS.out.c0 0 rfl
                  have hz4 := HS.out.c1 0 rfl
                  have hw2_ : wrap64 (j + 1) = j + 1 := by unfold wrap64; omega
                  go_wp2_with ((with_reducible refine gate_builtin (b := .append) (xs := #[.tmp 148, .tmp 151]) rfl ?_); at_builtin; (first | with_reducible apply Sep.append_row (d := k140) (t := 63) (e := 140) (s := .tmp 148) (x := .tmp 151) (p := (⟨true, x⟩ : S140)) (cs := [.bool true, .int .i64 x.f0, .int .i64 x.f1])); (case hSL => exact (Sep.SL.plain (Sep.SL.front (by repeat (first | (with_reducible first | exact HS.out | apply Sep.SL.drewN | apply Sep.SL.drew | apply Sep.SL.alloc) | exact HS.out)) 4 rfl) _ _ (fun _ _ => k140_mkM _ _ _ _)).swap); (case hgd => exact rfl); (case ho => exact rfl); (case ht => exact Try.underlying63); (case hinfo => exact info140); (case hz => exact rfl); (case hs0 => decide); (case hb0 => omega); (case hs => exact rfl); (case hx => exact rfl); (case hl => omega); intro v1_ w1_ hs_; have n1_ := Aside0.mk hs_; clear HS hs_; have HS := n1_; clear n1_; obtain ⟨a1_, c1_, e1_⟩ := Sep.SL.slice HS.out 0 rfl; rw [List.length_append, List.length_singleton] at e1_; subst e1_; clear hz3 hz4)
                  go_roundg g2
                  case measure => omega
                  case rel => exact ⟨j + 1, lg ++ [(⟨true, x⟩ : S140)], by first | rfl | (simp; done) | (simp [*]; done), by omega, by omega, by rw [List.length_append, List.length_singleton]; omega, HJ, Aside0.mk (Sep.SL.front (Sep.SL.front (Sep.SL.front (Sep.SL.front (Sep.SL.front (Sep.SL.drop (Sep.SL.front (by repeat (first | (with_reducible first | exact HS.out | apply Sep.SL.drewN | apply Sep.SL.drew | apply Sep.SL.alloc) | exact HS.out)) 1 rfl)) 4 rfl) 1 rfl) 4 rfl) 4 rfl) 4 rfl)⟩
            · have hb3_ : (d.f0 == 3) = false := by simp [k3]
              have e : Aside0 (rf_do n0 us log d = ⟨3, 0, us, log⟩) := ⟨by unfold rf_do; rw [if_neg k1, if_neg k2, if_neg k3]⟩
              clear k1 k2 k3
              go_wp2_with (fail)
              have HS := Aside0.mk (HS.out.put 0 rfl 0 (.int .i64 3))
              clear hg0 hg1 hd1 hd2
              generalize World.setCell _ _ _ = w13 at HS ⊢
              go_meet
              rw [e.out]
              exact Aside0.mk (Sep.SL.front (Sep.SL.front (Sep.SL.front (Sep.SL.front (Sep.SL.drop (Sep.SL.front HS.out 1 rfl)) 3 rfl) 3 rfl) 3 rfl) 3 rfl)
      case rest =>
        have HS := hcut
        clear hcut
        obtain ⟨b1, b2, b3⟩ := HD.out
        generalize rf_do n0 us log d = r at HI HS b1 b2 b3
        have HU2 := Aside0.mk b1
        clear b1
        have hcount := count_SL HS.out 3 rfl (by omega)
        have hg2 := HS.out.c2 0 rfl
        go_upto_region 45 with (go_at_call 78; refine hcount.mono ?_; rintro e w10 ⟨rfl, h10⟩; have HS := Aside0.mk h10; clear hcount h10 hg2; have hg2 := HS.out.c2 0 rfl)
        have HS := Aside0.mk (HS.out.put 0 rfl 2 (.int .i64 (zc r.us)))
        clear hg2
        generalize World.setCell _ _ _ = w11 at HS ⊢
        have hg0 := HS.out.c0 0 rfl
        have hg1 := HS.out.c1 0 rfl
        have hg2 := HS.out.c2 0 rfl
        have hw3_ : wrap64 (i + 1) = i + 1 := by unfold wrap64; omega
        go_wp2_with ((with_reducible refine gate_builtin (b := .append) (xs := #[.tmp 172, .tmp 174]) rfl ?_); at_builtin; (first | with_reducible apply Sep.append_row (d := k147) (t := 73) (e := 147) (s := .tmp 172) (x := .tmp 174) (p := (⟨r.code, r.fr, zc r.us⟩ : S147)) (cs := [.int .i64 r.code, .int .i64 r.fr, .int .i64 (zc r.us)])); (case hSL => exact (Sep.SL.plain (Sep.SL.front (by repeat (first | (with_reducible first | exact HS.out | apply Sep.SL.drewN | apply Sep.SL.drew | apply Sep.SL.alloc) | exact HS.out)) 1 rfl) _ _ (fun _ _ => k147_mkM _ _ _ _)).swap); (case hgd => exact rfl); (case ho => exact rfl); (case ht => exact Try.underlying73); (case hinfo => exact info147); (case hz => exact rfl); (case hs0 => decide); (case hb0 => omega); (case hs => exact rfl); (case hx => exact rfl); (case hl => omega); intro v1_ w1_ hs_; have n1_ := Aside0.mk hs_; clear HS hs_; have HS := n1_; clear n1_; obtain ⟨a1_, c1_, e1_⟩ := Sep.SL.slice HS.out 0 rfl; rw [List.length_append, List.length_singleton] at e1_; subst e1_; clear hg0 hg1 hg2)
        go_roundg g1
        case measure => omega
        case rel => exact ⟨i + 1, r.us, r.log, out ++ [(⟨r.code, r.fr, zc r.us⟩ : S147)], by first | rfl | (simp; done) | (simp [*]; done), by omega, by omega, by rw [b2]; exact hul, HU2, by omega, by rw [List.length_append, List.length_singleton]; omega, HI, Aside0.mk (Sep.SL.front (Sep.SL.front (Sep.SL.front (Sep.SL.drop (Sep.SL.front (by repeat (first | (with_reducible first | exact HS.out | apply Sep.SL.drewN | apply Sep.SL.drew | apply Sep.SL.alloc) | exact HS.out)) 1 rfl)) 2 rfl) 2 rfl) 2 rfl)⟩
set_option maxHeartbeats 4000000 in
set_option maxRecDepth 100000 in
theorem quicksetref_SpacePlayed.calls (k : Nat) (a0 : Int) (A1 : Option Addr) (c1 : Nat) (l1 : List (S145)) (r1 : List (S147)) (r2 : List (S140)) (r3 : Int) (w : World) (hr1 : Kd.C k145 w A1 l1.length l1) (hc1 : l1.length ≤ c1) (h : quicksetref_SpacePlayed.f k a0 l1 = some (r1, r2, r3)) :
    Calls Try.prog 39 #[.int .i64 a0, .slice A1 l1.length c1] w fun e w' => ∃ v0_ v1_ : Value, e = .returned (.tuple #[v0_, v1_, .int .i64 r3]) ∧ Kd.R k147 147 w' w.heap.size (fun _ => True) v0_ r1 ∧ Kd.R k140 140 w' w.heap.size (fun _ => True) v1_ r2 ∧ Below w.heap.size w w' := by
  unfold quicksetref_SpacePlayed.f at h
  by_cases h0 : a0 < 1 ∨ a0 > 4096
  · rw [if_pos h0] at h
    simp only [Option.some.injEq, Prod.mk.injEq] at h
    obtain ⟨rfl, rfl, rfl⟩ := h
    have HB := Aside0.mk (Below.refl w.heap.size w)
    by_cases c1 : a0 < 1
    · have g1_ := decide_eq_true c1
      clear h0 c1
      go_enter Try.func39, Try.ntmps39
      go_wp2_with (fail)
      refine bodyPost_ret (v := .tuple #[.slice none 0 0, .slice none 0 0, .int .i64 2]) ?_ rfl ?_
      · simp [results, Try.results39, go_sem]
      · exact ⟨_, _, rfl, Kd.R_nil _ _ _ _ _, Kd.R_nil _ _ _ _ _, (by repeat (first | (with_reducible first | exact HB.out | apply below_alloc | apply pw_below_drewN | apply below_drew1) | exact HB.out))⟩
    · have g1_ := decide_eq_false c1
      have g2_ : decide (4096 < a0) = true := decide_eq_true (by omega)
      clear h0 c1
      go_enter Try.func39, Try.ntmps39
      go_wp2_with (fail)
      refine bodyPost_ret (v := .tuple #[.slice none 0 0, .slice none 0 0, .int .i64 2]) ?_ rfl ?_
      · simp [results, Try.results39, go_sem]
      · exact ⟨_, _, rfl, Kd.R_nil _ _ _ _ _, Kd.R_nil _ _ _ _ _, (by repeat (first | (with_reducible first | exact HB.out | apply below_alloc | apply pw_below_drewN | apply below_drew1) | exact HB.out))⟩
  · rw [if_neg h0] at h
    by_cases hl : (l1.length : Int) > 300
    · rw [if_pos hl] at h
      simp only [Option.some.injEq, Prod.mk.injEq] at h
      obtain ⟨rfl, rfl, rfl⟩ := h
      have HB := Aside0.mk (Below.refl w.heap.size w)
      have g1_ : decide (a0 < 1) = false := decide_eq_false (by omega)
      have g2_ : decide (4096 < a0) = false := decide_eq_false (by omega)
      have hb2 : decide (300 < (l1.length : Int)) = true := decide_eq_true (by omega)
      clear h0
      go_enter Try.func39, Try.ntmps39
      go_wp2_with (fail)
      refine bodyPost_ret (v := .tuple #[.slice none 0 0, .slice none 0 0, .int .i64 1]) ?_ rfl ?_
      · simp [results, Try.results39, go_sem]
      · exact ⟨_, _, rfl, Kd.R_nil _ _ _ _ _, Kd.R_nil _ _ _ _ _, (by repeat (first | (with_reducible first | exact HB.out | apply below_alloc | apply pw_below_drewN | apply below_drew1) | exact HB.out))⟩
    · rw [if_neg hl] at h
      simp only [Option.some.injEq, Prod.mk.injEq] at h
      obtain ⟨rfl, rfl, rfl⟩ := h
      obtain ⟨n0, rfl⟩ : ∃ n : Nat, a0 = (n : Int) := ⟨a0.toNat, by omega⟩
      rw [Int.toNat_natCast]
      exact quicksetref_SpacePlayed.fine n0 A1 c1 l1 w hr1 hc1 (by omega) (by omega) (by omega)
theorem rf_stop : True := trivial

/-! ### quicksetlaw_sameFounds: function 40 -/
def quicksetlaw_sameFounds.l0 : Nat → List (S147) → List (S147) → Int → Option (Bool)
  | 0, _, _, _ => none
  | k + 1, x0, x1, x5 => if x5 < (x0.length : Int) then (if 0 ≤ x5 then (if x5 < (x1.length : Int) then (if (!(((rd_T147 x0 x5).f0) == ((rd_T147 x1 x5).f0)) || (!(((rd_T147 x0 x5).f1) == ((rd_T147 x1 x5).f1)) || (!(((rd_T147 x0 x5).f2) == ((rd_T147 x1 x5).f2))))) = true then (some false) else (quicksetlaw_sameFounds.l0 k x0 x1 (wrap64 (x5 + 1)))) else (none)) else (none)) else (some true)
def quicksetlaw_sameFounds.f (k : Nat) (l0 : List (S147)) (l1 : List (S147)) : Option (Bool) := if (l0.length : Int) = (l1.length : Int) then (quicksetlaw_sameFounds.l0 k l0 l1 0) else (some false)
theorem quicksetlaw_sameFounds.mono_l : ∀ k, (∀ y0 y1 y2, LeO (quicksetlaw_sameFounds.l0 k y0 y1 y2) (quicksetlaw_sameFounds.l0 (k + 1) y0 y1 y2))
  | 0 => fun _ _ _ r h => by simp [quicksetlaw_sameFounds.l0] at h
  | k + 1 => by
    have ih0 := quicksetlaw_sameFounds.mono_l k
    · intro y0 y1 y2
      unfold quicksetlaw_sameFounds.l0
      repeat' first
      | (with_reducible exact ih0 _ _ _)
      | (with_reducible exact LeO.refl _)
      | (with_reducible exact LeO.none _)
      | (with_reducible refine LeO.ite ?_ ?_)
      | (with_reducible refine LeO.bind ?_ (fun _ => ?_))
      | exact ih0 _ _ _
      | exact LeO.none _
      | refine LeO.ite ?_ ?_
      | refine LeO.bind ?_ (fun _ => ?_)
theorem quicksetlaw_sameFounds.mono : ∀ a0 a1 k, LeO (quicksetlaw_sameFounds.f k a0 a1) (quicksetlaw_sameFounds.f (k + 1) a0 a1) := by
  intro a0 a1 k
  have ih0 := quicksetlaw_sameFounds.mono_l k
  unfold quicksetlaw_sameFounds.f
  repeat' first
      | (with_reducible exact ih0 _ _ _)
      | (with_reducible exact LeO.refl _)
      | (with_reducible exact LeO.none _)
      | (with_reducible refine LeO.ite ?_ ?_)
      | (with_reducible refine LeO.bind ?_ (fun _ => ?_))
      | exact ih0 _ _ _
      | exact LeO.none _
      | refine LeO.ite ?_ ?_
      | refine LeO.bind ?_ (fun _ => ?_)
set_option maxHeartbeats 8000000 in
set_option maxRecDepth 100000 in
theorem quicksetlaw_sameFounds.calls (k : Nat) (A0 : Option Addr) (c0 : Nat) (l0 : List (S147)) (A1 : Option Addr) (c1 : Nat) (l1 : List (S147)) (r : Bool) (w : World) (hr0 : Kd.C k147 w A0 l0.length l0) (hc0 : l0.length ≤ c0) (hr1 : Kd.C k147 w A1 l1.length l1) (hc1 : l1.length ≤ c1) (h : quicksetlaw_sameFounds.f k l0 l1 = some r) :
    Calls Try.prog 40 #[.slice A0 l0.length c0, .slice A1 l1.length c1] w fun e w' => e = .returned (.bool r) ∧ Drawn0 w w' := by
  have hu147 := Try.underlying147
  have HR0 := Aside0.mk hr0
  have HC0 := Aside0.mk hc0
  clear hr0 hc0
  have HR1 := Aside0.mk hr1
  have HC1 := Aside0.mk hc1
  clear hr1 hc1
  have H : (if (l0.length : Int) = (l1.length : Int) then (quicksetlaw_sameFounds.l0 k l0 l1 0) else (some false)) = some r := h
  clear h
  by_cases c3 : (l0.length : Int) = (l1.length : Int)
  · rw [if_pos c3] at H
    have c3b0 : ((l0.length : Int) == (l1.length : Int)) = true := beq_iff_eq.mpr c3
    have c3b1 : ((l0.length : Int) != (l1.length : Int)) = false := bne_eq_false_iff_eq.mpr c3
    have c3b2 : (l0.length == l1.length) = true := by first | simpa using c3 | (simp at c3 ⊢; omega)
    clear c3
    have H' := Aside0.mk H
    clear H
    go_enter Try.func40, Try.ntmps40
    go_wp2
    repeat (go_quiet (fail); try go_wp2)
    go_loopg [5] k (fun kq v5 w' => ∃ (x5_1 : Int), v5 = .int .i64 x5_1 ∧ Aside0 (quicksetlaw_sameFounds.l0 kq l0 l1 x5_1 = some r) ∧ Aside0 (kq ≤ k) ∧ Drawn0 w w')
    case atStart => exact ⟨(0), (by first | rfl | (simp; done) | (simp [*]; done)), H', ⟨Nat.le_refl _⟩, by repeat (first | exact Drawn0.refl _ | apply Drawn0.step)⟩
    case round =>
      clear H'
      try clear c1
      try clear p2
      try clear c3
      try clear c3b0
      try clear c3b1
      try clear c3b2
      obtain ⟨x5_1, rfl, HA, HK1, ⟨m1, rfl⟩⟩ := hrel
      cases gk with
      | zero => exact absurd HA.out (by simp [quicksetlaw_sameFounds.l0])
      | succ k1 =>
        have H := HA.out
        clear HA
        simp only [quicksetlaw_sameFounds.l0] at H
        by_cases c4 : x5_1 < (l0.length : Int)
        · rw [if_pos c4] at H
          have c4b0 : decide (x5_1 < (l0.length : Int)) = true := decide_eq_true c4
          clear c4
          by_cases c5 : 0 ≤ x5_1
          · rw [if_pos c5] at H
            have c5b0 : decide (0 ≤ x5_1) = true := decide_eq_true c5
            clear c5
            by_cases c6 : x5_1 < (l1.length : Int)
            · rw [if_pos c6] at H
              have c6b0 : decide (x5_1 < (l1.length : Int)) = true := decide_eq_true c6
              clear c6
              by_cases c7 : (!(((rd_T147 l0 x5_1).f0) == ((rd_T147 l1 x5_1).f0)) || (!(((rd_T147 l0 x5_1).f1) == ((rd_T147 l1 x5_1).f1)) || (!(((rd_T147 l0 x5_1).f2) == ((rd_T147 l1 x5_1).f2))))) = true
              · rw [if_pos c7] at H
                have c7b0 : (!(((rd_T147 l0 x5_1).f0) == ((rd_T147 l1 x5_1).f0)) || (!(((rd_T147 l0 x5_1).f1) == ((rd_T147 l1 x5_1).f1)) || (!(((rd_T147 l0 x5_1).f2) == ((rd_T147 l1 x5_1).f2))))) = true := c7
                clear c7
                obtain rfl := Option.some.inj H
                have p154 : 0 ≤ (x5_1 : Int) := of_decide_eq_true (by first | (with_reducible assumption) | assumption)
                have q154 : x5_1 < (l0.length : Int) := of_decide_eq_true (by first | (with_reducible assumption) | assumption)
                obtain ⟨ad154, e154, hx154_0, hx154_1, hx154_2⟩ := at_T147 HR0.out x5_1 p154 q154
                cases e154
                replace p154 := eq_true p154
                replace q154 := eq_true q154
                have p155 : 0 ≤ (x5_1 : Int) := of_decide_eq_true (by first | (with_reducible assumption) | assumption)
                have q155 : x5_1 < (l1.length : Int) := of_decide_eq_true (by first | (with_reducible assumption) | assumption)
                obtain ⟨ad155, e155, hx155_0, hx155_1, hx155_2⟩ := at_T147 HR1.out x5_1 p155 q155
                cases e155
                replace p155 := eq_true p155
                replace q155 := eq_true q155
                go_wp2
                repeat (go_quiet (fail); try go_wp2)
                go_ret
                exact ⟨by first | rfl | (simp; done) | (simp [*]; done), by repeat (first | exact Drawn0.refl _ | apply Drawn0.step)⟩
              · rw [if_neg c7] at H
                have c7b0 : (!(((rd_T147 l0 x5_1).f0) == ((rd_T147 l1 x5_1).f0)) || (!(((rd_T147 l0 x5_1).f1) == ((rd_T147 l1 x5_1).f1)) || (!(((rd_T147 l0 x5_1).f2) == ((rd_T147 l1 x5_1).f2))))) = false := by simpa using c7
                clear c7
                have H' := Aside0.mk H
                clear H
                have p154 : 0 ≤ (x5_1 : Int) := of_decide_eq_true (by first | (with_reducible assumption) | assumption)
                have q154 : x5_1 < (l0.length : Int) := of_decide_eq_true (by first | (with_reducible assumption) | assumption)
                obtain ⟨ad154, e154, hx154_0, hx154_1, hx154_2⟩ := at_T147 HR0.out x5_1 p154 q154
                cases e154
                replace p154 := eq_true p154
                replace q154 := eq_true q154
                have p155 : 0 ≤ (x5_1 : Int) := of_decide_eq_true (by first | (with_reducible assumption) | assumption)
                have q155 : x5_1 < (l1.length : Int) := of_decide_eq_true (by first | (with_reducible assumption) | assumption)
                obtain ⟨ad155, e155, hx155_0, hx155_1, hx155_2⟩ := at_T147 HR1.out x5_1 p155 q155
                cases e155
                replace p155 := eq_true p155
                replace q155 := eq_true q155
                go_wp2
                repeat (go_quiet (fail); try go_wp2)
                go_roundg k1
                case measure => have := HK1.out; omega
                case rel => exact ⟨(wrap64 (x5_1 + 1)), (by first | rfl | (simp; done) | (simp [*]; done)), H', ⟨by have := HK1.out; omega⟩, by repeat (first | exact Drawn0.refl _ | apply Drawn0.step)⟩
            · rw [if_neg c6] at H
              exact absurd H (by simp)
          · rw [if_neg c5] at H
            exact absurd H (by simp)
        · rw [if_neg c4] at H
          have c4b0 : decide (x5_1 < (l0.length : Int)) = false := decide_eq_false c4
          clear c4
          obtain rfl := Option.some.inj H
          go_wp2
          repeat (go_quiet (fail); try go_wp2)
          go_ret
          exact ⟨by first | rfl | (simp; done) | (simp [*]; done), by repeat (first | exact Drawn0.refl _ | apply Drawn0.step)⟩
  · rw [if_neg c3] at H
    have c3b0 : ((l0.length : Int) == (l1.length : Int)) = false := beq_eq_false_iff_ne.mpr c3
    have c3b1 : ((l0.length : Int) != (l1.length : Int)) = true := bne_iff_ne.mpr c3
    have c3b2 : (l0.length == l1.length) = false := by first | simpa using c3 | (simp at c3 ⊢; omega)
    obtain rfl := Option.some.inj H
    go_enter Try.func40, Try.ntmps40
    go_wp2
    repeat (go_quiet (fail); try go_wp2)
    go_ret
    exact ⟨by first | rfl | (simp; done) | (simp [*]; done), by repeat (first | exact Drawn0.refl _ | apply Drawn0.step)⟩

/-! ### quicksetlaw_SpacePlays: function 11 -/
def quicksetlaw_SpacePlays.f (k : Nat) (a0 : Int) (l1 : List (S145)) : Option (Bool) := (space_Play.f k a0 l1).bind fun bt156 => ((quicksetref_SpacePlayed.f k a0 l1).bind fun bt163 => ((quicksetlaw_sameFounds.f k bt156.1 bt163.1).bind fun t170 => (if t170 = true then ((quicksetlaw_sameRecords.f k bt156.2.1 bt163.2.1).bind fun t171 => (if t171 = true then (some (bt156.2.2 == bt163.2.2)) else (some false))) else (some false))))
theorem quicksetlaw_SpacePlays.mono : ∀ a0 a1 k, LeO (quicksetlaw_SpacePlays.f k a0 a1) (quicksetlaw_SpacePlays.f (k + 1) a0 a1) := by
  intro a0 a1 k
  unfold quicksetlaw_SpacePlays.f
  repeat' first
      | (with_reducible exact quicksetlaw_sameFounds.mono _ _ _)
      | (with_reducible exact quicksetlaw_sameRecords.mono _ _ _)
      | (with_reducible exact quicksetref_SpacePlayed.mono _ _ _)
      | (with_reducible exact space_Play.mono _ _ _)
      | (with_reducible exact LeO.refl _)
      | (with_reducible exact LeO.none _)
      | (with_reducible refine LeO.ite ?_ ?_)
      | (with_reducible refine LeO.bind ?_ (fun _ => ?_))
      | exact quicksetlaw_sameFounds.mono _ _ _
      | exact quicksetlaw_sameRecords.mono _ _ _
      | exact quicksetref_SpacePlayed.mono _ _ _
      | exact space_Play.mono _ _ _
      | exact LeO.none _
      | refine LeO.ite ?_ ?_
      | refine LeO.bind ?_ (fun _ => ?_)
set_option maxHeartbeats 8000000 in
set_option maxRecDepth 100000 in
theorem quicksetlaw_SpacePlays.calls (k : Nat) (a0 : Int) (A1 : Option Addr) (c1 : Nat) (l1 : List (S145)) (r : Bool) (w : World) (hr1 : Kd.C k145 w A1 l1.length l1) (hc1 : l1.length ≤ c1) (h : quicksetlaw_SpacePlays.f k a0 l1 = some r) :
    Calls Try.prog 11 #[.int .i64 a0, .slice A1 l1.length c1] w fun e w' => e = .returned (.bool r) ∧ Below w.heap.size w w' := by
  have HR1 := Aside0.mk hr1
  have HC1 := Aside0.mk hc1
  clear hr1 hc1
  have HB := Aside0.mk (Below.refl w.heap.size w)
  have H : ((space_Play.f k a0 l1).bind fun bt156 => ((quicksetref_SpacePlayed.f k a0 l1).bind fun bt163 => ((quicksetlaw_sameFounds.f k bt156.1 bt163.1).bind fun t170 => (if t170 = true then ((quicksetlaw_sameRecords.f k bt156.2.1 bt163.2.1).bind fun t171 => (if t171 = true then (some (bt156.2.2 == bt163.2.2)) else (some false))) else (some false))))) = some r := h
  clear h
  replace H := Option.bind_eq_some_iff.mp H
  obtain ⟨⟨t156, t157, t158⟩, A30, H⟩ := H
  replace H : ((quicksetref_SpacePlayed.f k a0 l1).bind fun bt163 => ((quicksetlaw_sameFounds.f k t156 bt163.1).bind fun t170 => (if t170 = true then ((quicksetlaw_sameRecords.f k t157 bt163.2.1).bind fun t171 => (if t171 = true then (some (t158 == bt163.2.2)) else (some false))) else (some false)))) = some r := H
  have A3 := Aside0.mk A30
  clear A30
  replace H := Option.bind_eq_some_iff.mp H
  obtain ⟨⟨t163, t164, t165⟩, A40, H⟩ := H
  replace H : ((quicksetlaw_sameFounds.f k t156 t163).bind fun t170 => (if t170 = true then ((quicksetlaw_sameRecords.f k t157 t164).bind fun t171 => (if t171 = true then (some (t158 == t165)) else (some false))) else (some false))) = some r := H
  have A4 := Aside0.mk A40
  clear A40
  replace H := Option.bind_eq_some_iff.mp H
  obtain ⟨t170, A50, H⟩ := H
  replace H : (if t170 = true then ((quicksetlaw_sameRecords.f k t157 t164).bind fun t171 => (if t171 = true then (some (t158 == t165)) else (some false))) else (some false)) = some r := H
  have A5 := Aside0.mk A50
  clear A50
  by_cases c6 : t170 = true
  · subst c6
    have H1 : ((quicksetlaw_sameRecords.f k t157 t164).bind fun t171 => (if t171 = true then (some (t158 == t165)) else (some false))) = some r := by rw [if_pos rfl] at H; exact H
    clear H
    have H := H1
    clear H1
    replace H := Option.bind_eq_some_iff.mp H
    obtain ⟨t171, A70, H⟩ := H
    replace H : (if t171 = true then (some (t158 == t165)) else (some false)) = some r := H
    have A7 := Aside0.mk A70
    clear A70
    by_cases c8 : t171 = true
    · subst c8
      have H1 : (some (t158 == t165)) = some r := by rw [if_pos rfl] at H; exact H
      clear H
      have H := H1
      clear H1
      obtain rfl := Option.some.inj H
      go_enter Try.func11, Try.ntmps11
      go_wp2_with (first | ((with_reducible refine gate_callee (f := 38) rfl ?_); refine goesL_ (some 14) rfl rfl Try.func38 (by kernel_rfl) rfl #[.int .i64 a0, .slice A1 l1.length c1] rfl (by (try simp only [List.map_toArray, List.map_cons, List.map_nil]); first | done | rfl | (simp only [List.length_drop, List.length_take]; rfl)) ?_; (with_reducible refine (space_Play.calls k a0 _ _ l1 t156 t157 t158 _ ?side1 ?side2 A3.out).mono ?_); (case side1 => repeat (first | exact HR1.out | (with_reducible refine Kd.C_alloc ?_ _) | (with_reducible refine Kd.C_drewN ?_ _) | (with_reducible refine Kd.C_drew ?_))); (case side2 => exact HC1.out); rintro e w9 ⟨v159, v161, rfl, ho0, ho1, hb⟩; refine ⟨_, rfl, ?_⟩; have n0_ := Aside0.mk (Kd.R_lower ho0 (below_size (by repeat (first | (with_reducible first | exact HB.out | apply below_alloc | apply pw_below_drewN | apply below_drew1) | exact HB.out)))); have n1_ := Aside0.mk (Kd.R_lower ho1 (below_size (by repeat (first | (with_reducible first | exact HB.out | apply below_alloc | apply pw_below_drewN | apply below_drew1) | exact HB.out)))); have n2_ := Aside0.mk (below_step (by repeat (first | (with_reducible first | exact HB.out | apply below_alloc | apply pw_below_drewN | apply below_drew1) | exact HB.out)) hb); clear HB; have HO160 := n0_; have HO162 := n1_; have HB := n2_; clear n0_ n1_ n2_; (try clear hb); (try clear hb2); (try clear hk); (try clear hi); (try clear ho0); (try clear ho1)) | ((with_reducible refine gate_callee (f := 39) rfl ?_); refine goesL_ (some 21) rfl rfl Try.func39 (by kernel_rfl) rfl #[.int .i64 a0, .slice A1 l1.length c1] rfl (by (try simp only [List.map_toArray, List.map_cons, List.map_nil]); first | done | rfl | (simp only [List.length_drop, List.length_take]; rfl)) ?_; (with_reducible refine (quicksetref_SpacePlayed.calls k a0 _ _ l1 t163 t164 t165 _ ?side1 ?side2 A4.out).mono ?_); (case side1 => repeat (first | exact (Kd.C_below HR1.out HB.out) | (with_reducible refine Kd.C_alloc ?_ _) | (with_reducible refine Kd.C_drewN ?_ _) | (with_reducible refine Kd.C_drew ?_))); (case side2 => exact HC1.out); rintro e w10 ⟨v166, v168, rfl, ho0, ho1, hb⟩; refine ⟨_, rfl, ?_⟩; have n0_ := Aside0.mk (Kd.R_elder' (by (with_reducible repeat (first | apply Kd.R_alloc | apply Kd.R_drewN | apply Kd.R_drew)); exact HO160.out) (Kd.R_base ho0) hb); have n1_ := Aside0.mk (Kd.R_elder' (by (with_reducible repeat (first | apply Kd.R_alloc | apply Kd.R_drewN | apply Kd.R_drew)); exact HO162.out) (Kd.R_base ho1) hb); have n2_ := Aside0.mk (Kd.R_lower (Kd.R_new' ho0 (Kd.R_lt (by (with_reducible repeat (first | apply Kd.R_alloc | apply Kd.R_drewN | apply Kd.R_drew)); exact HO160.out))) (below_size (by repeat (first | (with_reducible first | exact HB.out | apply below_alloc | apply pw_below_drewN | apply below_drew1) | exact HB.out)))); have n3_ := Aside0.mk (Kd.R_lower (Kd.R_new' ho1 (Kd.R_lt (by (with_reducible repeat (first | apply Kd.R_alloc | apply Kd.R_drewN | apply Kd.R_drew)); exact HO162.out))) (below_size (by repeat (first | (with_reducible first | exact HB.out | apply below_alloc | apply pw_below_drewN | apply below_drew1) | exact HB.out)))); have n4_ := Aside0.mk (below_step (by repeat (first | (with_reducible first | exact HB.out | apply below_alloc | apply pw_below_drewN | apply below_drew1) | exact HB.out)) hb); clear HO160; clear HO162; clear HB; have HO160 := n0_; have HO162 := n1_; have HO167 := n2_; have HO169 := n3_; have HB := n4_; clear n0_ n1_ n2_ n3_ n4_; (try clear hb); (try clear hb2); (try clear hk); (try clear hi); (try clear ho0); (try clear ho1); obtain ⟨Ao11, co11, eo11⟩ := Kd.R_slice HO160.out; subst eo11; obtain ⟨Ao12, co12, eo12⟩ := Kd.R_slice HO167.out; subst eo12) | ((with_reducible refine gate_callee (f := 40) rfl ?_); refine goesL_ (some 27) rfl rfl Try.func40 (by kernel_rfl) rfl #[.slice Ao11 t156.length co11, .slice Ao12 t163.length co12] rfl (by (try simp only [List.map_toArray, List.map_cons, List.map_nil]); first | done | rfl | (simp only [List.length_drop, List.length_take]; rfl)) ?_; (with_reducible refine (quicksetlaw_sameFounds.calls k _ _ t156 _ _ t163 true _ ?side1 ?side2 ?side3 ?side4 A5.out).mono ?_); (case side1 => repeat (first | exact (Kd.R_reads' HO160.out).2.2 | (with_reducible refine Kd.C_alloc ?_ _) | (with_reducible refine Kd.C_drewN ?_ _) | (with_reducible refine Kd.C_drew ?_))); (case side2 => exact (Kd.R_reads' HO160.out).2.1); (case side3 => repeat (first | exact (Kd.R_reads' HO167.out).2.2 | (with_reducible refine Kd.C_alloc ?_ _) | (with_reducible refine Kd.C_drewN ?_ _) | (with_reducible refine Kd.C_drew ?_))); (case side4 => exact (Kd.R_reads' HO167.out).2.1); rintro e w' ⟨rfl, ⟨nd, rfl⟩⟩; refine ⟨_, rfl, ?_⟩; obtain ⟨Ao13, co13, eo13⟩ := Kd.R_slice HO162.out; subst eo13; obtain ⟨Ao14, co14, eo14⟩ := Kd.R_slice HO169.out; subst eo14) | (go_at_call 37; (with_reducible refine (quicksetlaw_sameRecords.calls k _ _ t157 _ _ t164 true _ ?side1 ?side2 ?side3 ?side4 A7.out).mono ?_); (case side1 => repeat (first | exact (Kd.R_reads' HO162.out).2.2 | (with_reducible refine Kd.C_alloc ?_ _) | (with_reducible refine Kd.C_drewN ?_ _) | (with_reducible refine Kd.C_drew ?_))); (case side2 => exact (Kd.R_reads' HO162.out).2.1); (case side3 => repeat (first | exact (Kd.R_reads' HO169.out).2.2 | (with_reducible refine Kd.C_alloc ?_ _) | (with_reducible refine Kd.C_drewN ?_ _) | (with_reducible refine Kd.C_drew ?_))); (case side4 => exact (Kd.R_reads' HO169.out).2.1); rintro e w' ⟨rfl, ⟨nd, rfl⟩⟩))
      go_ret
      exact ⟨by first | rfl | (simp [errW_none, errW_some] <;> rfl) | (simp [*, errW_none, errW_some] <;> rfl), by repeat (first | (with_reducible first | exact HB.out | apply below_alloc | apply pw_below_drewN | apply below_drew1) | exact HB.out)⟩
    · replace c8 := Bool.eq_false_iff.mpr c8
      subst c8
      have H1 : (some false) = some r := by rw [if_neg (show ¬ (false = true) by decide)] at H; exact H
      clear H
      have H := H1
      clear H1
      obtain rfl := Option.some.inj H
      go_enter Try.func11, Try.ntmps11
      go_wp2_with (first | ((with_reducible refine gate_callee (f := 38) rfl ?_); refine goesL_ (some 14) rfl rfl Try.func38 (by kernel_rfl) rfl #[.int .i64 a0, .slice A1 l1.length c1] rfl (by (try simp only [List.map_toArray, List.map_cons, List.map_nil]); first | done | rfl | (simp only [List.length_drop, List.length_take]; rfl)) ?_; (with_reducible refine (space_Play.calls k a0 _ _ l1 t156 t157 t158 _ ?side1 ?side2 A3.out).mono ?_); (case side1 => repeat (first | exact HR1.out | (with_reducible refine Kd.C_alloc ?_ _) | (with_reducible refine Kd.C_drewN ?_ _) | (with_reducible refine Kd.C_drew ?_))); (case side2 => exact HC1.out); rintro e w15 ⟨v159, v161, rfl, ho0, ho1, hb⟩; refine ⟨_, rfl, ?_⟩; have n0_ := Aside0.mk (Kd.R_lower ho0 (below_size (by repeat (first | (with_reducible first | exact HB.out | apply below_alloc | apply pw_below_drewN | apply below_drew1) | exact HB.out)))); have n1_ := Aside0.mk (Kd.R_lower ho1 (below_size (by repeat (first | (with_reducible first | exact HB.out | apply below_alloc | apply pw_below_drewN | apply below_drew1) | exact HB.out)))); have n2_ := Aside0.mk (below_step (by repeat (first | (with_reducible first | exact HB.out | apply below_alloc | apply pw_below_drewN | apply below_drew1) | exact HB.out)) hb); clear HB; have HO160 := n0_; have HO162 := n1_; have HB := n2_; clear n0_ n1_ n2_; (try clear hb); (try clear hb2); (try clear hk); (try clear hi); (try clear ho0); (try clear ho1)) | ((with_reducible refine gate_callee (f := 39) rfl ?_); refine goesL_ (some 21) rfl rfl Try.func39 (by kernel_rfl) rfl #[.int .i64 a0, .slice A1 l1.length c1] rfl (by (try simp only [List.map_toArray, List.map_cons, List.map_nil]); first | done | rfl | (simp only [List.length_drop, List.length_take]; rfl)) ?_; (with_reducible refine (quicksetref_SpacePlayed.calls k a0 _ _ l1 t163 t164 t165 _ ?side1 ?side2 A4.out).mono ?_); (case side1 => repeat (first | exact (Kd.C_below HR1.out HB.out) | (with_reducible refine Kd.C_alloc ?_ _) | (with_reducible refine Kd.C_drewN ?_ _) | (with_reducible refine Kd.C_drew ?_))); (case side2 => exact HC1.out); rintro e w16 ⟨v166, v168, rfl, ho0, ho1, hb⟩; refine ⟨_, rfl, ?_⟩; have n0_ := Aside0.mk (Kd.R_elder' (by (with_reducible repeat (first | apply Kd.R_alloc | apply Kd.R_drewN | apply Kd.R_drew)); exact HO160.out) (Kd.R_base ho0) hb); have n1_ := Aside0.mk (Kd.R_elder' (by (with_reducible repeat (first | apply Kd.R_alloc | apply Kd.R_drewN | apply Kd.R_drew)); exact HO162.out) (Kd.R_base ho1) hb); have n2_ := Aside0.mk (Kd.R_lower (Kd.R_new' ho0 (Kd.R_lt (by (with_reducible repeat (first | apply Kd.R_alloc | apply Kd.R_drewN | apply Kd.R_drew)); exact HO160.out))) (below_size (by repeat (first | (with_reducible first | exact HB.out | apply below_alloc | apply pw_below_drewN | apply below_drew1) | exact HB.out)))); have n3_ := Aside0.mk (Kd.R_lower (Kd.R_new' ho1 (Kd.R_lt (by (with_reducible repeat (first | apply Kd.R_alloc | apply Kd.R_drewN | apply Kd.R_drew)); exact HO162.out))) (below_size (by repeat (first | (with_reducible first | exact HB.out | apply below_alloc | apply pw_below_drewN | apply below_drew1) | exact HB.out)))); have n4_ := Aside0.mk (below_step (by repeat (first | (with_reducible first | exact HB.out | apply below_alloc | apply pw_below_drewN | apply below_drew1) | exact HB.out)) hb); clear HO160; clear HO162; clear HB; have HO160 := n0_; have HO162 := n1_; have HO167 := n2_; have HO169 := n3_; have HB := n4_; clear n0_ n1_ n2_ n3_ n4_; (try clear hb); (try clear hb2); (try clear hk); (try clear hi); (try clear ho0); (try clear ho1); obtain ⟨Ao17, co17, eo17⟩ := Kd.R_slice HO160.out; subst eo17; obtain ⟨Ao18, co18, eo18⟩ := Kd.R_slice HO167.out; subst eo18) | ((with_reducible refine gate_callee (f := 40) rfl ?_); refine goesL_ (some 27) rfl rfl Try.func40 (by kernel_rfl) rfl #[.slice Ao17 t156.length co17, .slice Ao18 t163.length co18] rfl (by (try simp only [List.map_toArray, List.map_cons, List.map_nil]); first | done | rfl | (simp only [List.length_drop, List.length_take]; rfl)) ?_; (with_reducible refine (quicksetlaw_sameFounds.calls k _ _ t156 _ _ t163 true _ ?side1 ?side2 ?side3 ?side4 A5.out).mono ?_); (case side1 => repeat (first | exact (Kd.R_reads' HO160.out).2.2 | (with_reducible refine Kd.C_alloc ?_ _) | (with_reducible refine Kd.C_drewN ?_ _) | (with_reducible refine Kd.C_drew ?_))); (case side2 => exact (Kd.R_reads' HO160.out).2.1); (case side3 => repeat (first | exact (Kd.R_reads' HO167.out).2.2 | (with_reducible refine Kd.C_alloc ?_ _) | (with_reducible refine Kd.C_drewN ?_ _) | (with_reducible refine Kd.C_drew ?_))); (case side4 => exact (Kd.R_reads' HO167.out).2.1); rintro e w' ⟨rfl, ⟨nd, rfl⟩⟩; refine ⟨_, rfl, ?_⟩; obtain ⟨Ao19, co19, eo19⟩ := Kd.R_slice HO162.out; subst eo19; obtain ⟨Ao20, co20, eo20⟩ := Kd.R_slice HO169.out; subst eo20) | (go_at_call 37; (with_reducible refine (quicksetlaw_sameRecords.calls k _ _ t157 _ _ t164 false _ ?side1 ?side2 ?side3 ?side4 A7.out).mono ?_); (case side1 => repeat (first | exact (Kd.R_reads' HO162.out).2.2 | (with_reducible refine Kd.C_alloc ?_ _) | (with_reducible refine Kd.C_drewN ?_ _) | (with_reducible refine Kd.C_drew ?_))); (case side2 => exact (Kd.R_reads' HO162.out).2.1); (case side3 => repeat (first | exact (Kd.R_reads' HO169.out).2.2 | (with_reducible refine Kd.C_alloc ?_ _) | (with_reducible refine Kd.C_drewN ?_ _) | (with_reducible refine Kd.C_drew ?_))); (case side4 => exact (Kd.R_reads' HO169.out).2.1); rintro e w' ⟨rfl, ⟨nd, rfl⟩⟩))
      go_ret
      exact ⟨by first | rfl | (simp [errW_none, errW_some] <;> rfl) | (simp [*, errW_none, errW_some] <;> rfl), by repeat (first | (with_reducible first | exact HB.out | apply below_alloc | apply pw_below_drewN | apply below_drew1) | exact HB.out)⟩
  · replace c6 := Bool.eq_false_iff.mpr c6
    subst c6
    have H1 : (some false) = some r := by rw [if_neg (show ¬ (false = true) by decide)] at H; exact H
    clear H
    have H := H1
    clear H1
    obtain rfl := Option.some.inj H
    go_enter Try.func11, Try.ntmps11
    go_wp2_with (first | ((with_reducible refine gate_callee (f := 38) rfl ?_); refine goesL_ (some 14) rfl rfl Try.func38 (by kernel_rfl) rfl #[.int .i64 a0, .slice A1 l1.length c1] rfl (by (try simp only [List.map_toArray, List.map_cons, List.map_nil]); first | done | rfl | (simp only [List.length_drop, List.length_take]; rfl)) ?_; (with_reducible refine (space_Play.calls k a0 _ _ l1 t156 t157 t158 _ ?side1 ?side2 A3.out).mono ?_); (case side1 => repeat (first | exact HR1.out | (with_reducible refine Kd.C_alloc ?_ _) | (with_reducible refine Kd.C_drewN ?_ _) | (with_reducible refine Kd.C_drew ?_))); (case side2 => exact HC1.out); rintro e w21 ⟨v159, v161, rfl, ho0, ho1, hb⟩; refine ⟨_, rfl, ?_⟩; have n0_ := Aside0.mk (Kd.R_lower ho0 (below_size (by repeat (first | (with_reducible first | exact HB.out | apply below_alloc | apply pw_below_drewN | apply below_drew1) | exact HB.out)))); have n1_ := Aside0.mk (Kd.R_lower ho1 (below_size (by repeat (first | (with_reducible first | exact HB.out | apply below_alloc | apply pw_below_drewN | apply below_drew1) | exact HB.out)))); have n2_ := Aside0.mk (below_step (by repeat (first | (with_reducible first | exact HB.out | apply below_alloc | apply pw_below_drewN | apply below_drew1) | exact HB.out)) hb); clear HB; have HO160 := n0_; have HO162 := n1_; have HB := n2_; clear n0_ n1_ n2_; (try clear hb); (try clear hb2); (try clear hk); (try clear hi); (try clear ho0); (try clear ho1)) | ((with_reducible refine gate_callee (f := 39) rfl ?_); refine goesL_ (some 21) rfl rfl Try.func39 (by kernel_rfl) rfl #[.int .i64 a0, .slice A1 l1.length c1] rfl (by (try simp only [List.map_toArray, List.map_cons, List.map_nil]); first | done | rfl | (simp only [List.length_drop, List.length_take]; rfl)) ?_; (with_reducible refine (quicksetref_SpacePlayed.calls k a0 _ _ l1 t163 t164 t165 _ ?side1 ?side2 A4.out).mono ?_); (case side1 => repeat (first | exact (Kd.C_below HR1.out HB.out) | (with_reducible refine Kd.C_alloc ?_ _) | (with_reducible refine Kd.C_drewN ?_ _) | (with_reducible refine Kd.C_drew ?_))); (case side2 => exact HC1.out); rintro e w22 ⟨v166, v168, rfl, ho0, ho1, hb⟩; refine ⟨_, rfl, ?_⟩; have n0_ := Aside0.mk (Kd.R_elder' (by (with_reducible repeat (first | apply Kd.R_alloc | apply Kd.R_drewN | apply Kd.R_drew)); exact HO160.out) (Kd.R_base ho0) hb); have n1_ := Aside0.mk (Kd.R_elder' (by (with_reducible repeat (first | apply Kd.R_alloc | apply Kd.R_drewN | apply Kd.R_drew)); exact HO162.out) (Kd.R_base ho1) hb); have n2_ := Aside0.mk (Kd.R_lower (Kd.R_new' ho0 (Kd.R_lt (by (with_reducible repeat (first | apply Kd.R_alloc | apply Kd.R_drewN | apply Kd.R_drew)); exact HO160.out))) (below_size (by repeat (first | (with_reducible first | exact HB.out | apply below_alloc | apply pw_below_drewN | apply below_drew1) | exact HB.out)))); have n3_ := Aside0.mk (Kd.R_lower (Kd.R_new' ho1 (Kd.R_lt (by (with_reducible repeat (first | apply Kd.R_alloc | apply Kd.R_drewN | apply Kd.R_drew)); exact HO162.out))) (below_size (by repeat (first | (with_reducible first | exact HB.out | apply below_alloc | apply pw_below_drewN | apply below_drew1) | exact HB.out)))); have n4_ := Aside0.mk (below_step (by repeat (first | (with_reducible first | exact HB.out | apply below_alloc | apply pw_below_drewN | apply below_drew1) | exact HB.out)) hb); clear HO160; clear HO162; clear HB; have HO160 := n0_; have HO162 := n1_; have HO167 := n2_; have HO169 := n3_; have HB := n4_; clear n0_ n1_ n2_ n3_ n4_; (try clear hb); (try clear hb2); (try clear hk); (try clear hi); (try clear ho0); (try clear ho1); obtain ⟨Ao23, co23, eo23⟩ := Kd.R_slice HO160.out; subst eo23; obtain ⟨Ao24, co24, eo24⟩ := Kd.R_slice HO167.out; subst eo24) | ((with_reducible refine gate_callee (f := 40) rfl ?_); refine goesL_ (some 27) rfl rfl Try.func40 (by kernel_rfl) rfl #[.slice Ao23 t156.length co23, .slice Ao24 t163.length co24] rfl (by (try simp only [List.map_toArray, List.map_cons, List.map_nil]); first | done | rfl | (simp only [List.length_drop, List.length_take]; rfl)) ?_; (with_reducible refine (quicksetlaw_sameFounds.calls k _ _ t156 _ _ t163 false _ ?side1 ?side2 ?side3 ?side4 A5.out).mono ?_); (case side1 => repeat (first | exact (Kd.R_reads' HO160.out).2.2 | (with_reducible refine Kd.C_alloc ?_ _) | (with_reducible refine Kd.C_drewN ?_ _) | (with_reducible refine Kd.C_drew ?_))); (case side2 => exact (Kd.R_reads' HO160.out).2.1); (case side3 => repeat (first | exact (Kd.R_reads' HO167.out).2.2 | (with_reducible refine Kd.C_alloc ?_ _) | (with_reducible refine Kd.C_drewN ?_ _) | (with_reducible refine Kd.C_drew ?_))); (case side4 => exact (Kd.R_reads' HO167.out).2.1); rintro e w' ⟨rfl, ⟨nd, rfl⟩⟩; refine ⟨_, rfl, ?_⟩))
    go_ret
    exact ⟨by first | rfl | (simp [errW_none, errW_some] <;> rfl) | (simp [*, errW_none, errW_some] <;> rfl), by repeat (first | (with_reducible first | exact HB.out | apply below_alloc | apply pw_below_drewN | apply below_drew1) | exact HB.out)⟩

end Go.Proofs.Ythnchojddoefiaa.QSpacePlays
