/- Printed from a stub by wip/stub.py with the kit's print.py, then turned by hand. -/
import Derived.Test.YthnchojddoefiaaSep
import Derived.Deep.RegionLaw
import Derived.StillTailTactics
import Derived.Test.YthnchojddoefiaaQSpacePlaysx0
import Derived.Test.YthnchojddoefiaaQSpacePlaysx1
namespace Go.Proofs.Ythnchojddoefiaa.QSpacePlays
open Go.RowKit Go.Proofs.YthnchojddoefiaaW.PrintWords Go.Proofs.YthnchojddoefiaaW.PrintLast Go.Proofs.YthnchojddoefiaaW.PrintMore
attribute [local go_sem] max2_int min2_int max_two min_two max_three min_three max_four min_four   -- for this text's walks alone
set_option linter.unusedVariables false
set_option linter.unusedSimpArgs false

attribute [local go_sem high] eqA140
/-! ### quicksetlaw_sameRecords: function 37 -/
def quicksetlaw_sameRecords.l0 : Nat → List (S140) → List (S140) → Int → Option (Bool)
  | 0, _, _, _ => none
  | k + 1, x0, x1, x5 => if x5 < (x0.length : Int) then (if 0 ≤ x5 then (if x5 < (x1.length : Int) then (if (!(((rd_T140 x0 x5).f0) == ((rd_T140 x1 x5).f0)) || ((!(((rd_T140 x0 x5).f1.f0) == ((rd_T140 x1 x5).f1.f0)) || (!(((rd_T140 x0 x5).f1.f1) == ((rd_T140 x1 x5).f1.f1)))))) = true then (some false) else (quicksetlaw_sameRecords.l0 k x0 x1 (wrap64 (x5 + 1)))) else (none)) else (none)) else (some true)
def quicksetlaw_sameRecords.f (k : Nat) (l0 : List (S140)) (l1 : List (S140)) : Option (Bool) := if (l0.length : Int) = (l1.length : Int) then (quicksetlaw_sameRecords.l0 k l0 l1 0) else (some false)
theorem quicksetlaw_sameRecords.mono_l : ∀ k, (∀ y0 y1 y2, LeO (quicksetlaw_sameRecords.l0 k y0 y1 y2) (quicksetlaw_sameRecords.l0 (k + 1) y0 y1 y2))
  | 0 => fun _ _ _ r h => by simp [quicksetlaw_sameRecords.l0] at h
  | k + 1 => by
    have ih0 := quicksetlaw_sameRecords.mono_l k
    · intro y0 y1 y2
      unfold quicksetlaw_sameRecords.l0
      repeat' first
      | (with_reducible exact ih0 _ _ _)
      | (with_reducible exact LeO.refl _)
      | (with_reducible exact LeO.none _)
      | (with_reducible refine LeO.ite ?_ ?_)
      | (with_reducible refine LeO.bind ?_ (fun _ => ?_))
      | exact ih0 _ _ _
      | exact LeO.none _
      | refine LeO.ite ?_ ?_
      | refine LeO.bind ?_ (fun _ => ?_)
theorem quicksetlaw_sameRecords.mono : ∀ a0 a1 k, LeO (quicksetlaw_sameRecords.f k a0 a1) (quicksetlaw_sameRecords.f (k + 1) a0 a1) := by
  intro a0 a1 k
  have ih0 := quicksetlaw_sameRecords.mono_l k
  unfold quicksetlaw_sameRecords.f
  repeat' first
      | (with_reducible exact ih0 _ _ _)
      | (with_reducible exact LeO.refl _)
      | (with_reducible exact LeO.none _)
      | (with_reducible refine LeO.ite ?_ ?_)
      | (with_reducible refine LeO.bind ?_ (fun _ => ?_))
      | exact ih0 _ _ _
      | exact LeO.none _
      | refine LeO.ite ?_ ?_
      | refine LeO.bind ?_ (fun _ => ?_)
set_option maxHeartbeats 8000000 in
set_option maxRecDepth 100000 in
theorem quicksetlaw_sameRecords.calls (k : Nat) (A0 : Option Addr) (c0 : Nat) (l0 : List (S140)) (A1 : Option Addr) (c1 : Nat) (l1 : List (S140)) (r : Bool) (w : World) (hr0 : Kd.C k140 w A0 l0.length l0) (hc0 : l0.length ≤ c0) (hr1 : Kd.C k140 w A1 l1.length l1) (hc1 : l1.length ≤ c1) (h : quicksetlaw_sameRecords.f k l0 l1 = some r) :
    Calls Try.prog 37 #[.slice A0 l0.length c0, .slice A1 l1.length c1] w fun e w' => e = .returned (.bool r) ∧ Drawn0 w w' := by
  have hu140 := Try.underlying140
  have HR0 := Aside0.mk hr0
  have HC0 := Aside0.mk hc0
  clear hr0 hc0
  have HR1 := Aside0.mk hr1
  have HC1 := Aside0.mk hc1
  clear hr1 hc1
  have H : (if (l0.length : Int) = (l1.length : Int) then (quicksetlaw_sameRecords.l0 k l0 l1 0) else (some false)) = some r := h
  clear h
  by_cases c3 : (l0.length : Int) = (l1.length : Int)
  · rw [if_pos c3] at H
    have c3b0 : ((l0.length : Int) == (l1.length : Int)) = true := beq_iff_eq.mpr c3
    have c3b1 : ((l0.length : Int) != (l1.length : Int)) = false := bne_eq_false_iff_eq.mpr c3
    have c3b2 : (l0.length == l1.length) = true := by first | simpa using c3 | (simp at c3 ⊢; omega)
    clear c3
    have H' := Aside0.mk H
    clear H
    go_enter Try.func37, Try.ntmps37
    go_wp2
    repeat (go_quiet (fail); try go_wp2)
    go_loopg [5] k (fun kq v5 w' => ∃ (x5_1 : Int), v5 = .int .i64 x5_1 ∧ Aside0 (quicksetlaw_sameRecords.l0 kq l0 l1 x5_1 = some r) ∧ Aside0 (kq ≤ k) ∧ Drawn0 w w')
    case atStart => exact ⟨(0), (by first | rfl | (simp; done) | (simp [*]; done)), H', ⟨Nat.le_refl _⟩, by repeat (first | exact Drawn0.refl _ | apply Drawn0.step)⟩
    case round =>
      clear H'
      try clear c1
      try clear p2
      try clear c3
      try clear c3b0
      try clear c3b1
      try clear c3b2
      obtain ⟨x5_1, rfl, HA, HK1, ⟨m1, rfl⟩⟩ := hrel
      cases gk with
      | zero => exact absurd HA.out (by simp [quicksetlaw_sameRecords.l0])
      | succ k1 =>
        have H := HA.out
        clear HA
        simp only [quicksetlaw_sameRecords.l0] at H
        by_cases c4 : x5_1 < (l0.length : Int)
        · rw [if_pos c4] at H
          have c4b0 : decide (x5_1 < (l0.length : Int)) = true := decide_eq_true c4
          clear c4
          by_cases c5 : 0 ≤ x5_1
          · rw [if_pos c5] at H
            have c5b0 : decide (0 ≤ x5_1) = true := decide_eq_true c5
            clear c5
            by_cases c6 : x5_1 < (l1.length : Int)
            · rw [if_pos c6] at H
              have c6b0 : decide (x5_1 < (l1.length : Int)) = true := decide_eq_true c6
              clear c6
              by_cases c7 : (!(((rd_T140 l0 x5_1).f0) == ((rd_T140 l1 x5_1).f0)) || ((!(((rd_T140 l0 x5_1).f1.f0) == ((rd_T140 l1 x5_1).f1.f0)) || (!(((rd_T140 l0 x5_1).f1.f1) == ((rd_T140 l1 x5_1).f1.f1)))))) = true
              · rw [if_pos c7] at H
                have c7b0 : (!(((rd_T140 l0 x5_1).f0) == ((rd_T140 l1 x5_1).f0)) || ((!(((rd_T140 l0 x5_1).f1.f0) == ((rd_T140 l1 x5_1).f1.f0)) || (!(((rd_T140 l0 x5_1).f1.f1) == ((rd_T140 l1 x5_1).f1.f1)))))) = true := c7
                clear c7
                obtain rfl := Option.some.inj H
                have p101 : 0 ≤ (x5_1 : Int) := of_decide_eq_true (by first | (with_reducible assumption) | assumption)
                have q101 : x5_1 < (l0.length : Int) := of_decide_eq_true (by first | (with_reducible assumption) | assumption)
                obtain ⟨ad101, e101, hx101_0, hx101_1, hx101_2⟩ := at_T140 HR0.out x5_1 p101 q101
                cases e101
                replace p101 := eq_true p101
                replace q101 := eq_true q101
                have p102 : 0 ≤ (x5_1 : Int) := of_decide_eq_true (by first | (with_reducible assumption) | assumption)
                have q102 : x5_1 < (l1.length : Int) := of_decide_eq_true (by first | (with_reducible assumption) | assumption)
                obtain ⟨ad102, e102, hx102_0, hx102_1, hx102_2⟩ := at_T140 HR1.out x5_1 p102 q102
                cases e102
                replace p102 := eq_true p102
                replace q102 := eq_true q102
                go_wp2
                repeat (go_quiet (fail); try go_wp2)
                go_ret
                exact ⟨by first | rfl | (simp; done) | (simp [*]; done), by repeat (first | exact Drawn0.refl _ | apply Drawn0.step)⟩
              · rw [if_neg c7] at H
                have c7b0 : (!(((rd_T140 l0 x5_1).f0) == ((rd_T140 l1 x5_1).f0)) || ((!(((rd_T140 l0 x5_1).f1.f0) == ((rd_T140 l1 x5_1).f1.f0)) || (!(((rd_T140 l0 x5_1).f1.f1) == ((rd_T140 l1 x5_1).f1.f1)))))) = false := by simpa using c7
                clear c7
                have H' := Aside0.mk H
                clear H
                have p101 : 0 ≤ (x5_1 : Int) := of_decide_eq_true (by first | (with_reducible assumption) | assumption)
                have q101 : x5_1 < (l0.length : Int) := of_decide_eq_true (by first | (with_reducible assumption) | assumption)
                obtain ⟨ad101, e101, hx101_0, hx101_1, hx101_2⟩ := at_T140 HR0.out x5_1 p101 q101
                cases e101
                replace p101 := eq_true p101
                replace q101 := eq_true q101
                have p102 : 0 ≤ (x5_1 : Int) := of_decide_eq_true (by first | (with_reducible assumption) | assumption)
                have q102 : x5_1 < (l1.length : Int) := of_decide_eq_true (by first | (with_reducible assumption) | assumption)
                obtain ⟨ad102, e102, hx102_0, hx102_1, hx102_2⟩ := at_T140 HR1.out x5_1 p102 q102
                cases e102
                replace p102 := eq_true p102
                replace q102 := eq_true q102
                go_wp2
                repeat (go_quiet (fail); try go_wp2)
                go_roundg k1
                case measure => have := HK1.out; omega
                case rel => exact ⟨(wrap64 (x5_1 + 1)), (by first | rfl | (simp; done) | (simp [*]; done)), H', ⟨by have := HK1.out; omega⟩, by repeat (first | exact Drawn0.refl _ | apply Drawn0.step)⟩
            · rw [if_neg c6] at H
              exact absurd H (by simp)
          · rw [if_neg c5] at H
            exact absurd H (by simp)
        · rw [if_neg c4] at H
          have c4b0 : decide (x5_1 < (l0.length : Int)) = false := decide_eq_false c4
          clear c4
          obtain rfl := Option.some.inj H
          go_wp2
          repeat (go_quiet (fail); try go_wp2)
          go_ret
          exact ⟨by first | rfl | (simp; done) | (simp [*]; done), by repeat (first | exact Drawn0.refl _ | apply Drawn0.step)⟩
  · rw [if_neg c3] at H
    have c3b0 : ((l0.length : Int) == (l1.length : Int)) = false := beq_eq_false_iff_ne.mpr c3
    have c3b1 : ((l0.length : Int) != (l1.length : Int)) = true := bne_iff_ne.mpr c3
    have c3b2 : (l0.length == l1.length) = false := by first | simpa using c3 | (simp at c3 ⊢; omega)
    obtain rfl := Option.some.inj H
    go_enter Try.func37, Try.ntmps37
    go_wp2
    repeat (go_quiet (fail); try go_wp2)
    go_ret
    exact ⟨by first | rfl | (simp; done) | (simp [*]; done), by repeat (first | exact Drawn0.refl _ | apply Drawn0.step)⟩

/-! ### space_sized: function 74 -/
def space_sized.f (a0 : Int) : Option (Bool) := if a0 ≥ 1 then (some (decide (a0 ≤ 4096))) else (some false)
set_option maxHeartbeats 8000000 in
set_option maxRecDepth 100000 in
theorem space_sized.calls (a0 : Int) (r : Bool) (w : World) (h : space_sized.f a0 = some r) :
    Calls Try.prog 74 #[.int .i64 a0] w fun e w' => e = .returned (.bool r) ∧ Drawn0 w w' := by
  have H : (if a0 ≥ 1 then (some (decide (a0 ≤ 4096))) else (some false)) = some r := h
  clear h
  by_cases c2 : a0 ≥ 1
  · rw [if_pos c2] at H
    have c2b0 : decide (1 ≤ a0) = true := decide_eq_true c2
    clear c2
    obtain rfl := Option.some.inj H
    go_enter Try.func74, Try.ntmps74
    go_wp2
    go_ret
    exact ⟨by first | rfl | (simp; done) | (simp [*]; done), by repeat (first | exact Drawn0.refl _ | apply Drawn0.step)⟩
  · rw [if_neg c2] at H
    have c2b0 : decide (1 ≤ a0) = false := decide_eq_false c2
    clear c2
    obtain rfl := Option.some.inj H
    go_enter Try.func74, Try.ntmps74
    go_wp2
    go_ret
    exact ⟨by first | rfl | (simp; done) | (simp [*]; done), by repeat (first | exact Drawn0.refl _ | apply Drawn0.step)⟩

-- NOT PRINTED: function 111 (space_space_set)

-- NOT PRINTED: function 113 (space_space_take)

-- NOT PRINTED: function 110 (space_space_all)

-- NOT PRINTED: function 114 (space_space_give)

-- NOT PRINTED: function 69 (space_space_runs)

-- NOT PRINTED: function 115 (space_space_commit)

-- NOT PRINTED: function 75 (space_space_do)

/-! ### space_Play: function 38 -/
/-- The units, from i on n of them set. -/
def sp_set (c : Int) : Nat → List Int → Int → List Int
  | 0, us, _ => us
  | n + 1, us, i => sp_set c n (us.set i.toNat c) (i + 1)
theorem sp_set_length (c : Int) : ∀ (n : Nat) (us : List Int) (i : Int), (sp_set c n us i).length = us.length
  | 0, _, _ => rfl
  | n + 1, us, i => by rw [sp_set, sp_set_length c n, List.length_set]
/-- Are n units from i on so? -/
def sp_all (c : Int) (us : List Int) : Nat → Int → Bool
  | 0, _ => true
  | n + 1, i => if rd us i = c then sp_all c us n (i + 1) else false
/-- The units behind n records from i on. -/
def sp_rep (size : Int) (l : List S140) : Nat → List Int → Int → Option (List Int)
  | 0, us, _ => some us
  | n + 1, us, i => if (rd_T140 l i).f1.f0 < 0 then none else (if (rd_T140 l i).f1.f0 ≥ (rd_T140 l i).f1.f1 then none else (if (rd_T140 l i).f1.f1 > size then none else
    (if sp_all (if (rd_T140 l i).f0 = true then 1 else 0) us ((rd_T140 l i).f1.f1 - (rd_T140 l i).f1.f0).toNat (rd_T140 l i).f1.f0 = true then
      sp_rep size l n (sp_set (if (rd_T140 l i).f0 = true then 0 else 1) ((rd_T140 l i).f1.f1 - (rd_T140 l i).f1.f0).toNat us (rd_T140 l i).f1.f0) (i + 1) else none)))
/-- The runs of units that are so: n places from i on. -/
def sp_runs (c : Int) (us : List Int) : Nat → Int → Int → List S79 → List S79
  | 0, _, _, out => out
  | n + 1, i, fr, out => if i < (us.length : Int) ∧ rd us i = c then (if fr < 0 then sp_runs c us n (i + 1) i out else sp_runs c us n (i + 1) fr out)
    else (if fr ≥ 0 then sp_runs c us n (i + 1) (-1) (out ++ [⟨fr, i⟩]) else sp_runs c us n (i + 1) fr out)
set_option maxHeartbeats 1000000 in
theorem space_set.calls (gp : Nat) (uv lv : Value) (left f t c : Int) (us : List Int) (P0_ : Nat → Prop) (w0 w : World) (hB : Below w0.heap.size w0 w) (hg : w0.heap.size ≤ gp)
    (hS : w.heap[gp]? = some (.cells #[uv, .int .i64 left, lv] 143 (0, 0))) (ho : Kd.R (Kd.int .u8) 5 w w0.heap.size P0_ uv us) (hP : ¬ P0_ gp) (h0 : 0 ≤ f) (hft : f ≤ t) (ht : t ≤ (us.length : Int)) (hm : us.length ≤ 4096) :
    Calls Try.prog 111 #[.pointer (some ⟨gp, 0, none⟩), .agg #[.int .i64 f, .int .i64 t], .int .u8 c] w fun e w' => e = .returned (.tuple #[]) ∧ Kd.R (Kd.int .u8) 5 w' w0.heap.size (fun k_ => P0_ k_ ∨ w.heap.size ≤ k_) uv (sp_set c (t - f).toNat us f) ∧ Below w0.heap.size w0 w' ∧ Kept w w' P0_ := by
  have hug := Try.underlying143
  have hur := Try.underlying79
  have HO := Aside0.mk (show Kd.R (Kd.int .u8) 5 w w0.heap.size (fun k_ => P0_ k_ ∨ w.heap.size ≤ k_) uv us from Kd.R_mono ho (fun k_ hk => .inl hk))
  have HK := Aside0.mk (Kept.refl w P0_)
  have HB := Aside0.mk hB
  have HS := Aside0.mk hS
  clear hB hS ho
  go_enter Try.func111, Try.ntmps111
  go_wp2_with ((with_reducible refine gate_dst (N := 4) rfl ?_); refine box_event ?hg (N := 4) ?hd (cs := #[.int .i64 f, .int .i64 t]) (t := 79) ?hr ?_; (case hd => rfl); (case hg => rfl); (case hr => first | (go_simp; done) | (go_simp; rfl)); intro gb hgb w1 hbox hb; have n1_ := Aside0.mk (Kd.R_below (by (with_reducible repeat (first | apply Kd.R_alloc | apply Kd.R_drewN | apply Kd.R_drew)); exact HO.out) hb); have n2_ := Aside0.mk (below_step (by repeat (first | (with_reducible first | exact HB.out | apply below_alloc | apply pw_below_drewN | apply below_drew1) | exact HB.out)) hb); have n3_ := Aside0.mk ((by (repeat (first | exact HK.out | apply Kept.alloc | apply Kept.drewN | apply Kept.drew)) : Kept w _ P0_).then_ (Kept.of_below hb P0_) (fun _ h_ => .inl h_)); have BK := Aside0.mk hbox; clear HO HB HK; have HO := n1_; have HB := n2_; have HK := n3_; clear n1_ n2_ n3_; have hgb1 := Aside0.mk (show w.heap.size ≤ gb from by rw [hgb]; exact Nat.le_refl _); clear hb hbox hgb; have hz0 : w1.cell? ⟨gb, 0, none⟩ = some (.int .i64 f) := (blk_cell BK.out 0).trans rfl)
  clear hz0
  go_loopg [6] (t - f).toNat (fun kq v6 wr => ∃ (ys : List Int) (i : Int), v6 = .int .i64 i ∧ f ≤ i ∧ i + kq = t ∧ ys.length = us.length ∧ Aside0 (sp_set c kq ys i = sp_set c (t - f).toNat us f) ∧ Aside0 (Kd.R (Kd.int .u8) 5 wr w0.heap.size (fun k_ => P0_ k_ ∨ w.heap.size ≤ k_) uv ys) ∧ Aside0 (wr.heap[gb]? = some (.cells #[.int .i64 f, .int .i64 t] 79 (0, 0))) ∧ Aside0 (Below w0.heap.size w0 wr) ∧ Aside0 (Kept w wr P0_))
  case atStart => exact ⟨us, f, rfl, by omega, by omega, rfl, ⟨rfl⟩, HO, BK, HB, HK⟩
  case round =>
    clear HO BK HB HK
    obtain ⟨ys, i, rfl, hi0, hik, hyl, HI, HO, BK, HB, HK⟩ := hrel
    have hz1 : wr.cell? ⟨gb, 1, none⟩ = some (.int .i64 t) := (blk_cell BK.out 1).trans rfl
    have HS1 := blk_kept HS.out HK.out hP
    cases gk with
    | zero =>
      have hit : decide (i < t) = false := decide_eq_false (by omega)
      have HI2 := HI.out
      rw [sp_set] at HI2
      subst HI2
      go_wp2_with (fail)
      first | go_end0 | ((try simp only [Exit.inBlock, Exit.then]); refine bodyPost_ret (results_none rfl _ _ _) rfl ?_)
      exact ⟨rfl, by (with_reducible repeat (first | apply Kd.R_alloc | apply Kd.R_drewN | apply Kd.R_drew)); exact HO.out, (by repeat (first | (with_reducible first | exact HB.out | apply below_alloc | apply pw_below_drewN | apply below_drew1) | exact HB.out)), by repeat (first | exact HK.out | apply Kept.alloc | apply Kept.drewN | apply Kept.drew)⟩
    | succ g1 =>
      have hit : decide (i < t) = true := decide_eq_true (by omega)
      have HI2 := HI.out
      rw [sp_set] at HI2
      have p8 : (0 : Int) ≤ i := by omega
      have q8 : i < (ys.length : Int) := by omega
      obtain ⟨go, co, eo, gb8, gl8, cl8, HG8⟩ := Kd.R_form HO.out (by omega)
      subst eo
      have GB8 := Aside0.mk gb8
      have GG8 := Aside0.mk HG8
      have hne : gb ≠ go := blk_ne BK.out HG8 (by decide)
      clear gb8 gl8 HG8
      have hs0 : wr.cell? ⟨gp, 0, none⟩ = some (.slice (some ⟨go, 0, none⟩) ys.length co) := (blk_cell HS1 0).trans rfl
      obtain ⟨hx8, hf8⟩ := Kd.R_celln 0 HO.out i p8 q8
      have HP9 := Kd.R_putg HO.out i c
      have p9 := decide_eq_true p8
      have q9 := decide_eq_true q8
      replace p8 := eq_true p8
      replace q8 := eq_true q8
      go_wp2_with ((with_reducible refine gate_store (t := 5) (p := 21) rfl ?_); refine store_event (t := 5) (p := 21) (v := ?vo_w10) (w1 := (wr.setCell ⟨go, i.toNat, none⟩ (.int .u8 c))) ?hg ?ho ?hn ?hr ?_; (case ho => rfl); (case hg => rfl); (case hn => rfl); (case hr => first | (go_simp; done) | (go_simp; rfl)); intro w10 hw; have hg_ : wr.grownBy w10 (some go) := (by rw [hw]; exact HP9.2); have n0_ := Aside0.mk (show Kd.R (Kd.int .u8) 5 w10 w0.heap.size (fun k_ => P0_ k_ ∨ w.heap.size ≤ k_) (.slice (some ⟨go, 0, none⟩) ys.length co) (ys.set i.toNat c) from by rw [hw]; exact HP9.1); have n1_ := Aside0.mk ((by rw [hw]; exact below_set HB.out GB8.out : Below w0.heap.size w0 w10)); have n2_ := Aside0.mk (Kept.of_grown (S := P0_) hg_ HK.out (fun k_ e_ => HO.out.1 k_ e_)); have n3_ : Aside0 (w10.heap[gb]? = some (.cells #[.int .i64 f, .int .i64 t] 79 (0, 0))) := Aside0.mk (by rw [hw]; exact blk_far BK.out hne _); clear HO HB HK BK HP9; have HO := n0_; have HB := n1_; have HK := n2_; have BK := n3_; clear n0_ n1_ n2_ n3_; clear hg_ hw)
      go_roundg g1
      case measure => omega
      case rel => exact ⟨ys.set i.toNat c, i + 1, by first | rfl | (simp; done) | (simp [*]; done) | (rw [wrap_id (by omega) (by omega)]), by omega, by omega, by rw [List.length_set]; exact hyl, ⟨HI2⟩, HO, BK, HB, HK⟩
set_option maxHeartbeats 1000000 in
set_option maxRecDepth 100000 in
theorem space_all.calls (gp : Nat) (uv lv : Value) (left f t c : Int) (us : List Int) (P0_ : Nat → Prop) (w0 w : World) (hB : Below w0.heap.size w0 w) 
    (hS : w.heap[gp]? = some (.cells #[uv, .int .i64 left, lv] 143 (0, 0))) (ho : Kd.R (Kd.int .u8) 5 w w0.heap.size P0_ uv us) (h0 : 0 ≤ f) (hft : f < t) (ht : t ≤ (us.length : Int)) (hm : us.length ≤ 4096) :
    Calls Try.prog 110 #[.pointer (some ⟨gp, 0, none⟩), .agg #[.int .i64 f, .int .i64 t], .int .u8 c] w fun e w' => e = .returned (.bool (sp_all c us (t - f).toNat f)) ∧ Below w.heap.size w w' := by
  have hug := Try.underlying143
  have hur := Try.underlying79
  obtain ⟨go, co, eo, gb8, gl8, cl8, HG8⟩ := Kd.R_form ho (by omega)
  subst eo
  obtain ⟨hn, hco, hC⟩ := Kd.R_reads' ho
  have HC := Aside0.mk hC
  have HS := Aside0.mk hS
  have HB := Aside0.mk (Below.refl w.heap.size w)
  have HX : Aside0 (∀ x : Int, 0 ≤ x → x < (us.length : Int) → w.cell? ⟨go, x.toNat, none⟩ = some (.int .u8 (rd us x))) := Aside0.mk (fun x a b => (Kd.R_celln 0 ho x a b).1)
  clear hB hS hC gb8 gl8 HG8 ho hn
  go_enter Try.func110, Try.ntmps110
  go_wp2_with ((with_reducible refine gate_dst (N := 4) rfl ?_); refine box_event ?hg (N := 4) ?hd (cs := #[.int .i64 f, .int .i64 t]) (t := 79) ?hr ?_; (case hd => rfl); (case hg => rfl); (case hr => first | (go_simp; done) | (go_simp; rfl)); intro gb hgb w1 hbox hb; have n2_ := Aside0.mk (below_step (by repeat (first | (with_reducible first | exact HB.out | apply below_alloc | apply pw_below_drewN | apply below_drew1) | exact HB.out)) hb); have BK := Aside0.mk hbox; clear HB; have HB := n2_; clear n2_; clear hb hbox hgb)
  have HS1 := HB.out.block gp (blk_lt HS.out) |>.trans HS.out
  have hs0 : w1.cell? ⟨gp, 0, none⟩ = some (.slice (some ⟨go, 0, none⟩) us.length co) := (blk_cell HS1 0).trans rfl
  have hz0 : w1.cell? ⟨gb, 0, none⟩ = some (.int .i64 f) := (blk_cell BK.out 0).trans rfl
  have hz1 : w1.cell? ⟨gb, 1, none⟩ = some (.int .i64 t) := (blk_cell BK.out 1).trans rfl
  have p0 := decide_eq_true h0
  have p1 := decide_eq_true (show f ≤ t by omega)
  have p2 := decide_eq_true (show t ≤ (co : Int) by omega)
  have q0 := eq_true h0
  have q1 := eq_true (show f ≤ t by omega)
  have q2 := eq_true (show t ≤ (co : Int) by omega)
  go_quiet (fail)
  clear hs0 hz0 hz1 p0 p1 p2 q0 q1 q2
  have HB2 := Aside0.mk (pw_below_drewN HB.out nq)
  clear HB
  go_wp2_with (fail)
  go_loopg [8, 19] (t.toNat - f.toNat) (fun kq v8 v19 wr => ∃ i : Nat, v19 = .int .i64 (i : Int) ∧ i + kq = t.toNat - f.toNat ∧ Aside0 (sp_all c us kq (f + i) = sp_all c us (t - f).toNat f) ∧ Aside0 (Below w.heap.size w wr))
  case atStart => exact ⟨0, rfl, by omega, ⟨by rw [show (t - f).toNat = t.toNat - f.toNat from by omega, show f + ((0 : Nat) : Int) = f from by omega]⟩, HB2⟩
  case round =>
    clear HB2
    obtain ⟨i, rfl, hik, HI, HB⟩ := hrel
    cases gk with
    | zero =>
      have hit : decide ((i : Int) < ((t.toNat - f.toNat : Nat) : Int)) = false := decide_eq_false (by omega)
      have HI2 := HI.out
      rw [sp_all] at HI2
      go_wp2_with (fail)
      go_ret
      exact ⟨by rw [← HI2]; rfl, (by repeat (first | (with_reducible first | exact HB.out | apply below_alloc | apply pw_below_drewN | apply below_drew1) | exact HB.out))⟩
    | succ g1 =>
      have hit : decide ((i : Int) < ((t.toNat - f.toNat : Nat) : Int)) = true := decide_eq_true (by omega)
      have HI2 := HI.out
      rw [sp_all] at HI2
      have hx := HX.out (f + i) (by omega) (by omega)
      rw [show (f + (i : Int)).toNat = f.toNat + i from by omega] at hx
      have hx := (HB.out.cell (World.block_lt_of_cell? w _ hx)).trans hx
      have p8 := eq_true (show (0 : Int) ≤ (i : Int) by omega)
      have q8 := eq_true (show (i : Int) < ((t.toNat - f.toNat : Nat) : Int) by omega)
      by_cases hc : rd us (f + i) = c
      · rw [if_pos hc] at HI2
        have hcb : (rd us (f + i) != c) = false := by simp [hc]
        go_wp2_with (fail)
        go_roundg g1
        case measure => omega
        case rel => exact ⟨i + 1, by first | rfl | (simp; done) | (simp [*]; done), by omega, ⟨by rw [← HI2, show f + ((i + 1 : Nat) : Int) = f + (i : Int) + 1 from by omega]⟩, ⟨(by repeat (first | (with_reducible first | exact HB.out | apply below_alloc | apply pw_below_drewN | apply below_drew1) | exact HB.out))⟩⟩
      · rw [if_neg hc] at HI2
        have hcb : (rd us (f + i) != c) = true := bne_iff_ne.mpr hc
        have hcb2 : (rd us (f + i) == c) = false := beq_eq_false_iff_ne.mpr hc
        have HI3 := Aside0.mk HI2
        clear HI2 HI
        go_wp2_with (fail)
        go_ret
        exact ⟨by rw [← HI3.out]; rfl, (by repeat (first | (with_reducible first | exact HB.out | apply below_alloc | apply pw_below_drewN | apply below_drew1) | exact HB.out))⟩
theorem space_Play.clo (u : Int) (w : World) : Calls Try.prog 134 #[.int .u8 u] w fun e w' => e = .returned (.bool (u == 3)) ∧ Drawn0 w w' := by
  go_enter Try.func134, Try.ntmps134
  go_wp2_with (fail)
  go_ret
  exact ⟨rfl, by repeat (first | exact Drawn0.refl _ | exact ⟨_, rfl⟩)⟩
set_option maxHeartbeats 2000000 in
set_option maxRecDepth 100000 in
theorem space_Play.runs (gp : Nat) (uv lv : Value) (left : Int) (us : List Int) (P0_ : Nat → Prop) (w0 w : World)
    (hS : w.heap[gp]? = some (.cells #[uv, .int .i64 left, lv] 143 (0, 0))) (ho : Kd.R (Kd.int .u8) 5 w w0.heap.size P0_ uv us) (hp : 0 < us.length) (hm : us.length ≤ 4096) :
    Calls Try.prog 69 #[.pointer (some ⟨gp, 0, none⟩), .func (.func 134) #[] #[]] w fun e w' => ∃ v0_ : Value, e = .returned v0_ ∧ Kd.R k79 79 w' w.heap.size (fun _ => True) v0_ (sp_runs 3 us (us.length + 1) 0 (-1) []) ∧ Below w.heap.size w w' := by
  have hug := Try.underlying143
  have hur := Try.underlying79
  obtain ⟨go, co, eo, gb8, gl8, cl8, HG8⟩ := Kd.R_form ho (by omega)
  subst eo
  obtain ⟨hn, hco, hC⟩ := Kd.R_reads' ho
  have HX : Aside0 (∀ x : Int, 0 ≤ x → x < (us.length : Int) → w.cell? ⟨go, x.toNat, none⟩ = some (.int .u8 (rd us x))) := Aside0.mk (fun x a b => (Kd.R_celln 0 ho x a b).1)
  have HS0 : w.cell? ⟨gp, 0, none⟩ = some (.slice (some ⟨go, 0, none⟩) us.length co) := (blk_cell hS 0).trans rfl
  have HS := Aside0.mk HS0
  have HB := Aside0.mk (Below.refl w.heap.size w)
  clear hS hC gb8 gl8 HG8 ho hn HS0
  go_enter Try.func69, Try.ntmps69
  go_wp2_with (fail)
  go_loopg [5, 6, 7] (us.length + 1) (fun kq v5 v6 v7 wr => ∃ (out : List S79) (fr i : Int), v6 = .int .i64 fr ∧ v7 = .int .i64 i ∧ 0 ≤ i ∧ i + kq = (us.length : Int) + 1 ∧ (out.length : Int) ≤ i ∧ Aside0 (sp_runs 3 us kq i fr out = sp_runs 3 us (us.length + 1) 0 (-1) []) ∧ Aside0 (Kd.R k79 79 wr w.heap.size (fun _ => True) v5 out) ∧ Aside0 (Below w.heap.size w wr))
  case atStart => exact ⟨[], -1, 0, rfl, rfl, by omega, by omega, by simp, ⟨rfl⟩, ⟨Kd.R_nil _ _ _ _ _⟩, HB⟩
  case round =>
    clear HB
    obtain ⟨out, fr, i, rfl, rfl, hi0, hik, hol, HI, HO, HB⟩ := hrel
    have hs0 := (HB.out.cell (World.block_lt_of_cell? w _ HS.out)).trans HS.out
    cases gk with
    | zero =>
      have hit : decide (i ≤ (us.length : Int)) = false := decide_eq_false (by omega)
      have HI2 := HI.out
      rw [sp_runs] at HI2
      subst HI2
      go_wp2_with (fail)
      go_ret
      exact ⟨_, rfl, by (with_reducible repeat (first | apply Kd.R_alloc | apply Kd.R_drewN | apply Kd.R_drew)); exact HO.out, (by repeat (first | (with_reducible first | exact HB.out | apply below_alloc | apply pw_below_drewN | apply below_drew1) | exact HB.out))⟩
    | succ g1 =>
      have hit : decide (i ≤ (us.length : Int)) = true := decide_eq_true (by omega)
      have HI2 := HI.out
      rw [sp_runs] at HI2
      by_cases hlt : i < (us.length : Int)
      · have hlb := decide_eq_true hlt
        have hx := HX.out i hi0 hlt
        have hx := (HB.out.cell (World.block_lt_of_cell? w _ hx)).trans hx
        have p8 := eq_true hi0
        have q8 := eq_true hlt
        have hcl := fun W => space_Play.clo (rd us i) W
        by_cases hc : rd us i = 3
        · rw [if_pos ⟨hlt, hc⟩] at HI2
          rw [beq_iff_eq.mpr hc] at hcl
          clear hc
          by_cases hf : fr < 0
          · rw [if_pos hf] at HI2
            have hfb : decide (fr < 0) = true := decide_eq_true hf
            have hfc : decide (0 ≤ fr) = false := decide_eq_false (by omega)
            have HI3 := Aside0.mk HI2
            clear HI2 HI
            go_wp2_with (go_at_call 134; refine (hcl _).mono ?_; rintro e w1 ⟨rfl, ⟨nd, rfl⟩⟩)
            go_roundg g1
            case measure => omega
            case rel => exact ⟨out, i, i + 1, rfl, by first | rfl | (simp; done) | (simp [*]; done) | (rw [wrap_id (by omega) (by omega)]), by omega, by omega, by omega, HI3, ⟨by (with_reducible repeat (first | apply Kd.R_alloc | apply Kd.R_drewN | apply Kd.R_drew)); exact HO.out⟩, ⟨(by repeat (first | (with_reducible first | exact HB.out | apply below_alloc | apply pw_below_drewN | apply below_drew1) | exact HB.out))⟩⟩
          · rw [if_neg hf] at HI2
            have hfb : decide (fr < 0) = false := decide_eq_false hf
            have hfc : decide (0 ≤ fr) = true := decide_eq_true (by omega)
            have HI3 := Aside0.mk HI2
            clear HI2 HI
            go_wp2_with (go_at_call 134; refine (hcl _).mono ?_; rintro e w1 ⟨rfl, ⟨nd, rfl⟩⟩)
            go_roundg g1
            case measure => omega
            case rel => exact ⟨out, fr, i + 1, rfl, by first | rfl | (simp; done) | (simp [*]; done) | (rw [wrap_id (by omega) (by omega)]), by omega, by omega, by omega, HI3, ⟨by (with_reducible repeat (first | apply Kd.R_alloc | apply Kd.R_drewN | apply Kd.R_drew)); exact HO.out⟩, ⟨(by repeat (first | (with_reducible first | exact HB.out | apply below_alloc | apply pw_below_drewN | apply below_drew1) | exact HB.out))⟩⟩
        · rw [if_neg (fun h_ => hc h_.2)] at HI2
          rw [beq_eq_false_iff_ne.mpr hc] at hcl
          by_cases hf : fr ≥ 0
          · rw [if_pos hf] at HI2
            have hfb : decide (fr < 0) = false := decide_eq_false (by omega)
            have hfc : decide (0 ≤ fr) = true := decide_eq_true hf
            have HI3 := Aside0.mk HI2
            clear HI2 HI
            go_wp2_with (first | (go_at_call 134; refine (hcl _).mono ?_; rintro e w1 ⟨rfl, ⟨nd, rfl⟩⟩) | ((with_reducible refine gate_builtin (b := .append) (xs := #[.tmp 50, .tmp 54]) rfl ?_); at_builtin; refine Kd.R_append k79 (w0 := w) w.heap.size rfl (.tmp 50) (.tmp 54) 64 79 (.agg #[(.int .i64 0), (.int .i64 0)]) 16 rfl Try.underlying64 info79 rfl (by decide) (by omega) _ out ⟨fr, i⟩ [.int .i64 fr, .int .i64 i] (fun _ => True) (fun _ => False) rfl (by first | (go_simp; done) | (go_simp; rfl)) ?aP (fun _ hk => hk.elim) ?aF ?aO ?aB ?aS ?aL ?_; (case aP => exact k79_mkM _ _ _ _); (case aB => exact (by repeat (first | (with_reducible first | exact HB.out | apply below_alloc | apply pw_below_drewN | apply below_drew1) | exact HB.out))); (case aF => exact (fun _ _ => trivial)); (case aO => exact (by (with_reducible repeat (first | apply Kd.R_alloc | apply Kd.R_drewN | apply Kd.R_drew)); exact HO.out)); (case aS => exact (below_size (by repeat (first | (with_reducible first | exact HB.out | apply below_alloc | apply pw_below_drewN | apply below_drew1) | exact HB.out)))); (case aL => omega); intro v1_ w1_ ho_ hb_ hg_ hat_; have n0_ := Aside0.mk ho_; have n1_ := Aside0.mk hb_; clear ho_ hb_ hg_ hat_ HO HB; have HO := n0_; have HB := n1_; clear n0_ n1_))
            go_roundg g1
            case measure => omega
            case rel => exact ⟨out ++ [⟨fr, i⟩], -1, i + 1, rfl, by first | rfl | (simp; done) | (simp [*]; done) | (rw [wrap_id (by omega) (by omega)]), by omega, by omega, by rw [List.length_append]; simp; omega, HI3, ⟨by (with_reducible repeat (first | apply Kd.R_alloc | apply Kd.R_drewN | apply Kd.R_drew)); exact HO.out⟩, ⟨(by repeat (first | (with_reducible first | exact HB.out | apply below_alloc | apply pw_below_drewN | apply below_drew1) | exact HB.out))⟩⟩
          · rw [if_neg hf] at HI2
            have hfb : decide (fr < 0) = true := decide_eq_true (by omega)
            have hfc : decide (0 ≤ fr) = false := decide_eq_false hf
            have HI3 := Aside0.mk HI2
            clear HI2 HI
            go_wp2_with (go_at_call 134; refine (hcl _).mono ?_; rintro e w1 ⟨rfl, ⟨nd, rfl⟩⟩)
            go_roundg g1
            case measure => omega
            case rel => exact ⟨out, fr, i + 1, rfl, by first | rfl | (simp; done) | (simp [*]; done) | (rw [wrap_id (by omega) (by omega)]), by omega, by omega, by omega, HI3, ⟨by (with_reducible repeat (first | apply Kd.R_alloc | apply Kd.R_drewN | apply Kd.R_drew)); exact HO.out⟩, ⟨(by repeat (first | (with_reducible first | exact HB.out | apply below_alloc | apply pw_below_drewN | apply below_drew1) | exact HB.out))⟩⟩
      · have hlb := decide_eq_false hlt
        rw [if_neg (fun h_ => hlt h_.1)] at HI2
        by_cases hf : fr ≥ 0
        · rw [if_pos hf] at HI2
          have hfb : decide (fr < 0) = false := decide_eq_false (by omega)
          have hfc : decide (0 ≤ fr) = true := decide_eq_true hf
          have HI3 := Aside0.mk HI2
          clear HI2 HI
          go_wp2_with (first | (go_at_call 134; refine (hcl _).mono ?_; rintro e w1 ⟨rfl, ⟨nd, rfl⟩⟩) | ((with_reducible refine gate_builtin (b := .append) (xs := #[.tmp 50, .tmp 54]) rfl ?_); at_builtin; refine Kd.R_append k79 (w0 := w) w.heap.size rfl (.tmp 50) (.tmp 54) 64 79 (.agg #[(.int .i64 0), (.int .i64 0)]) 16 rfl Try.underlying64 info79 rfl (by decide) (by omega) _ out ⟨fr, i⟩ [.int .i64 fr, .int .i64 i] (fun _ => True) (fun _ => False) rfl (by first | (go_simp; done) | (go_simp; rfl)) ?aP (fun _ hk => hk.elim) ?aF ?aO ?aB ?aS ?aL ?_; (case aP => exact k79_mkM _ _ _ _); (case aB => exact (by repeat (first | (with_reducible first | exact HB.out | apply below_alloc | apply pw_below_drewN | apply below_drew1) | exact HB.out))); (case aF => exact (fun _ _ => trivial)); (case aO => exact (by (with_reducible repeat (first | apply Kd.R_alloc | apply Kd.R_drewN | apply Kd.R_drew)); exact HO.out)); (case aS => exact (below_size (by repeat (first | (with_reducible first | exact HB.out | apply below_alloc | apply pw_below_drewN | apply below_drew1) | exact HB.out)))); (case aL => omega); intro v1_ w1_ ho_ hb_ hg_ hat_; have n0_ := Aside0.mk ho_; have n1_ := Aside0.mk hb_; clear ho_ hb_ hg_ hat_ HO HB; have HO := n0_; have HB := n1_; clear n0_ n1_))
          go_roundg g1
          case measure => omega
          case rel => exact ⟨out ++ [⟨fr, i⟩], -1, i + 1, rfl, by first | rfl | (simp; done) | (simp [*]; done) | (rw [wrap_id (by omega) (by omega)]), by omega, by omega, by rw [List.length_append]; simp; omega, HI3, ⟨by (with_reducible repeat (first | apply Kd.R_alloc | apply Kd.R_drewN | apply Kd.R_drew)); exact HO.out⟩, ⟨(by repeat (first | (with_reducible first | exact HB.out | apply below_alloc | apply pw_below_drewN | apply below_drew1) | exact HB.out))⟩⟩
        · rw [if_neg hf] at HI2
          have hfb : decide (fr < 0) = true := decide_eq_true (by omega)
          have hfc : decide (0 ≤ fr) = false := decide_eq_false hf
          have HI3 := Aside0.mk HI2
          clear HI2 HI
          go_wp2_with (go_at_call 134; refine (hcl _).mono ?_; rintro e w1 ⟨rfl, ⟨nd, rfl⟩⟩)
          go_roundg g1
          case measure => omega
          case rel => exact ⟨out, fr, i + 1, rfl, by first | rfl | (simp; done) | (simp [*]; done) | (rw [wrap_id (by omega) (by omega)]), by omega, by omega, by omega, HI3, ⟨by (with_reducible repeat (first | apply Kd.R_alloc | apply Kd.R_drewN | apply Kd.R_drew)); exact HO.out⟩, ⟨(by repeat (first | (with_reducible first | exact HB.out | apply below_alloc | apply pw_below_drewN | apply below_drew1) | exact HB.out))⟩⟩
/-- A space behind a pointer: its units, how many are left, its log; all its blocks are so (P). -/
def sp_st (B gp : Nat) (P : Nat → Prop) (us : List Int) (left : Int) (log : List S140) (w : World) : Prop := B ≤ gp ∧ P gp ∧ ∃ uv lv, w.heap[gp]? = some (.cells #[uv, .int .i64 left, lv] 143 (0, 0)) ∧ Kd.R (Kd.int .u8) 5 w B (fun k_ => P k_ ∧ k_ ≠ gp) uv us ∧ Kd.R k140 140 w B (fun k_ => P k_ ∧ k_ ≠ gp) lv log
theorem sp_st.mono {B gp : Nat} {P Q : Nat → Prop} {us : List Int} {left : Int} {log : List S140} {w : World} (h : sp_st B gp P us left log w) (hq : ∀ k, P k → Q k) : sp_st B gp Q us left log w := by
  obtain ⟨h0, h1, uv, lv, h2, h3, h4⟩ := h
  exact ⟨h0, hq _ h1, uv, lv, h2, Kd.R_mono h3 (fun k hk => ⟨hq k hk.1, hk.2⟩), Kd.R_mono h4 (fun k hk => ⟨hq k hk.1, hk.2⟩)⟩
theorem sp_st.bound {B gp : Nat} {P : Nat → Prop} {us : List Int} {left : Int} {log : List S140} {w : World} (h : sp_st B gp P us left log w) : sp_st B gp (fun k => P k ∧ k < w.heap.size) us left log w := by
  obtain ⟨h0, h1, uv, lv, h2, h3, h4⟩ := h
  exact ⟨h0, ⟨h1, blk_lt h2⟩, uv, lv, h2, Kd.R_mono (Kd.R_bound h3) (fun k hk => ⟨⟨hk.1.1, hk.2.2.1⟩, hk.1.2⟩), Kd.R_mono (Kd.R_bound h4) (fun k hk => ⟨⟨hk.1.1, hk.2.2.1⟩, hk.1.2⟩)⟩
theorem sp_st.below {B gp : Nat} {P : Nat → Prop} {us : List Int} {left : Int} {log : List S140} {w w' : World} (h : sp_st B gp P us left log w) (hb : Below w.heap.size w w') : sp_st B gp P us left log w' := by
  obtain ⟨h0, h1, uv, lv, h2, h3, h4⟩ := h
  exact ⟨h0, h1, uv, lv, blk_below h2 hb, Kd.R_below h3 hb, Kd.R_below h4 hb⟩
theorem sp_st.kept {B gp : Nat} {P S : Nat → Prop} {us : List Int} {left : Int} {log : List S140} {w w' : World} (h : sp_st B gp P us left log w) (hk : Kept w w' S) (hn : ∀ k, P k → ¬ S k) : sp_st B gp P us left log w' := by
  obtain ⟨h0, h1, uv, lv, h2, h3, h4⟩ := h
  exact ⟨h0, h1, uv, lv, blk_kept h2 hk (hn _ h1), Kd.R_kept h3 hk (fun k h_ => hn k h_.1), Kd.R_kept h4 hk (fun k h_ => hn k h_.1)⟩
/-- Another block is written. -/
theorem sp_st.far {B gp : Nat} {P : Nat → Prop} {us : List Int} {left : Int} {log : List S140} {w : World} (h : sp_st B gp P us left log w) {g : Nat} (hg : ¬ P g) (i : Nat) (v : Value) : sp_st B gp P us left log (w.setCell ⟨g, i, none⟩ v) :=
  h.kept (S := fun k => k = g) (Kept.setCell (S := fun k => k = g) (p := ⟨g, i, none⟩) (Kept.refl w _) (.inl rfl) v) (fun k hk e => hg (e ▸ hk))
/-- How many are left is written. -/
theorem sp_st.left {B gp : Nat} {P : Nat → Prop} {us : List Int} {left : Int} {log : List S140} {w : World} (h : sp_st B gp P us left log w) (n : Int) : sp_st B gp P us n log (w.setCell ⟨gp, 1, none⟩ (.int .i64 n)) := by
  obtain ⟨h0, h1, uv, lv, h2, h3, h4⟩ := h
  exact ⟨h0, h1, uv, lv, blk_put h2 1 _ rfl, Kd.R_far (p := ⟨gp, 1, none⟩) h3 (fun _ hk => hk.2) _, Kd.R_far (p := ⟨gp, 1, none⟩) h4 (fun _ hk => hk.2) _⟩
set_option maxHeartbeats 400000 in
theorem sp_st.set_calls (gp : Nat) (P : Nat → Prop) (left f t c : Int) (us : List Int) (log : List S140) (w0 w : World) (hB : Below w0.heap.size w0 w) (h : sp_st w0.heap.size gp P us left log w) (h0 : 0 ≤ f) (hft : f ≤ t) (ht : t ≤ (us.length : Int)) (hm : us.length ≤ 4096) :
    Calls Try.prog 111 #[.pointer (some ⟨gp, 0, none⟩), .agg #[.int .i64 f, .int .i64 t], .int .u8 c] w fun e w' => e = .returned (.tuple #[]) ∧ sp_st w0.heap.size gp P (sp_set c (t - f).toNat us f) left log w' ∧ Below w0.heap.size w0 w' ∧ Kept w w' P := by
  obtain ⟨hg, hP, uv, lv, h2, h3, h4⟩ := h
  refine (space_set.calls gp uv lv left f t c us (fun k => some k = uv.ownBlock) w0 w hB hg h2 ⟨fun k hk => hk.symm, h3.2⟩ (fun e => (h3.1 gp e.symm).2 rfl) h0 hft ht hm).mono ?_
  rintro e w' ⟨rfl, hR, hB', hK⟩
  refine ⟨rfl, ⟨hg, hP, uv, lv, blk_kept h2 hK (fun e => (h3.1 gp e.symm).2 rfl), ⟨fun k hk => h3.1 k hk, hR.2⟩, ?_⟩, hB', hK.mono (fun k hk => (h3.1 k hk.symm).1)⟩
  exact Kd.R_drop (Kd.R_kept (Kd.R_apartR h4 h3 (by decide)) hK (fun k hk => hk.2))
theorem sp_st.all_calls (gp : Nat) (P : Nat → Prop) (left f t c : Int) (us : List Int) (log : List S140) (w0 w : World) (hB : Below w0.heap.size w0 w) (h : sp_st w0.heap.size gp P us left log w) (h0 : 0 ≤ f) (hft : f < t) (ht : t ≤ (us.length : Int)) (hm : us.length ≤ 4096) :
    Calls Try.prog 110 #[.pointer (some ⟨gp, 0, none⟩), .agg #[.int .i64 f, .int .i64 t], .int .u8 c] w fun e w' => e = .returned (.bool (sp_all c us (t - f).toNat f)) ∧ Below w.heap.size w w' := by
  obtain ⟨hg, hP, uv, lv, h2, h3, h4⟩ := h
  exact space_all.calls gp uv lv left f t c us _ w0 w hB h2 h3 h0 hft ht hm
/-- What the units' slice is. -/
theorem sp_st.units {B gp : Nat} {P : Nat → Prop} {us : List Int} {left : Int} {log : List S140} {w : World} (h : sp_st B gp P us left log w) (hp : 0 < us.length) : ∃ go co, w.cell? ⟨gp, 0, none⟩ = some (.slice (some ⟨go, 0, none⟩) us.length co) ∧ w.cell? ⟨gp, 1, none⟩ = some (.int .i64 left) ∧ gp < w.heap.size ∧ ∀ x : Int, 0 ≤ x → x < (us.length : Int) → w.cell? ⟨go, x.toNat, none⟩ = some (.int .u8 (rd us x)) := by
  obtain ⟨h0, h1, uv, lv, h2, h3, h4⟩ := h
  obtain ⟨go, co, eo, _, _, _, _⟩ := Kd.R_form h3 hp
  subst eo
  exact ⟨go, co, (blk_cell h2 0).trans rfl, (blk_cell h2 1).trans rfl, blk_lt h2, fun x a b => (Kd.R_celln 0 h3 x a b).1⟩
/-- What a give answers, and does. -/
def sp_give (us : List Int) (d : S145) : Int × List Int :=
  if d.f1 < 0 ∨ d.f2 < 1 ∨ d.f2 > (us.length : Int) ∨ d.f1 > (us.length : Int) - d.f2 then (2, us)
  else if sp_all 1 us d.f2.toNat d.f1 = true then (0, sp_set 2 d.f2.toNat us d.f1) else (6, us)
set_option maxHeartbeats 2000000 in
set_option maxRecDepth 100000 in
theorem space_give.calls (gp : Nat) (P : Nat → Prop) (left : Int) (d : S145) (us : List Int) (log : List S140) (w0 w : World) (hB : Below w0.heap.size w0 w) (h : sp_st w0.heap.size gp P us left log w) (hp : 0 < us.length) (hm : us.length ≤ 4096) :
    Calls Try.prog 114 #[.pointer (some ⟨gp, 0, none⟩), .agg #[.int .i64 d.f0, .int .i64 d.f1, .int .i64 d.f2]] w fun e w' => e = .returned (.int .i64 (sp_give us d).1) ∧ sp_st w0.heap.size gp P (sp_give us d).2 left log w' ∧ Below w0.heap.size w0 w' ∧ Kept w w' P := by
  have hug := Try.underlying143
  have hur := Try.underlying79
  have hud := Try.underlying145
  obtain ⟨go, co, hs0, hs1, hgl, hx⟩ := h.units hp
  clear hs1 hx
  have HST := Aside0.mk h
  have HS0 := Aside0.mk hs0
  have HB := Aside0.mk hB
  have HK := Aside0.mk (Kept.refl w P)
  clear h hs0 hB
  go_enter Try.func114, Try.ntmps114
  go_wp2_with ((with_reducible refine gate_dst (N := 3) rfl ?_); refine box_event ?hg (N := 3) ?hd (cs := #[.int .i64 d.f0, .int .i64 d.f1, .int .i64 d.f2]) (t := 145) ?hr ?_; (case hd => rfl); (case hg => rfl); (case hr => first | (go_simp; done) | (go_simp; rfl)); intro gb hgb w1 hbox hb; have n1_ := Aside0.mk (HST.out.below hb); have n2_ := Aside0.mk (below_step (by repeat (first | (with_reducible first | exact HB.out | apply below_alloc | apply pw_below_drewN | apply below_drew1) | exact HB.out)) hb); have n3_ := Aside0.mk (HK.out.below hb); have BK := Aside0.mk hbox; have n4_ := Aside0.mk ((hb.cell (World.block_lt_of_cell? w _ HS0.out)).trans HS0.out); clear HB HST HK HS0; have HB := n2_; have HST := n1_; have HK := n3_; have HS0 := n4_; clear n1_ n2_ n3_ n4_ hb hbox hgb)
  have hs0 := HS0.out
  have hz1 : w1.cell? ⟨gb, 1, none⟩ = some (.int .i64 d.f1) := (blk_cell BK.out 1).trans rfl
  have hz2 : w1.cell? ⟨gb, 2, none⟩ = some (.int .i64 d.f2) := (blk_cell BK.out 2).trans rfl
  by_cases c1 : d.f1 < 0
  · have g1_ := decide_eq_true c1
    go_quiet (fail)
    have n1_ := HST.out.below (pw_below_drewN (Below.refl _ _) nq)
    have n2_ := Aside0.mk (pw_below_drewN HB.out nq)
    have n3_ := Aside0.mk (Kept.drewN HK.out nq)
    have hgv : Aside0 (sp_give us d = (2, us)) := Aside0.mk (by unfold sp_give; rw [if_pos (by first | exact .inl c1 | exact .inr (.inl c2) | exact .inr (.inr (.inl c3)) | exact .inr (.inr (.inr c4)))])
    have HST := Aside0.mk n1_
    clear n1_
    go_wp2_with (fail)
    go_ret
    rw [hgv.out]
    exact ⟨rfl, HST.out, n2_.out, n3_.out⟩
  · have g1_ := decide_eq_false c1
    by_cases c2 : d.f2 < 1
    · have g2_ := decide_eq_true c2
      go_quiet (fail)
      have n1_ := HST.out.below (pw_below_drewN (Below.refl _ _) nq)
      have n2_ := Aside0.mk (pw_below_drewN HB.out nq)
      have n3_ := Aside0.mk (Kept.drewN HK.out nq)
      have hgv : Aside0 (sp_give us d = (2, us)) := Aside0.mk (by unfold sp_give; rw [if_pos (by first | exact .inl c1 | exact .inr (.inl c2) | exact .inr (.inr (.inl c3)) | exact .inr (.inr (.inr c4)))])
      have HST := Aside0.mk n1_
      clear n1_
      go_wp2_with (fail)
      go_ret
      rw [hgv.out]
      exact ⟨rfl, HST.out, n2_.out, n3_.out⟩
    · have g2_ := decide_eq_false c2
      by_cases c3 : d.f2 > (us.length : Int)
      · have g3_ : decide ((us.length : Int) < d.f2) = true := decide_eq_true c3
        go_quiet (fail)
        have n1_ := HST.out.below (pw_below_drewN (Below.refl _ _) nq)
        have n2_ := Aside0.mk (pw_below_drewN HB.out nq)
        have n3_ := Aside0.mk (Kept.drewN HK.out nq)
        have hgv : Aside0 (sp_give us d = (2, us)) := Aside0.mk (by unfold sp_give; rw [if_pos (by first | exact .inl c1 | exact .inr (.inl c2) | exact .inr (.inr (.inl c3)) | exact .inr (.inr (.inr c4)))])
        have HST := Aside0.mk n1_
        clear n1_
        go_wp2_with (fail)
        go_ret
        rw [hgv.out]
        exact ⟨rfl, HST.out, n2_.out, n3_.out⟩
      · have g3_ : decide ((us.length : Int) < d.f2) = false := decide_eq_false c3
        have hw_ : wrap64 ((us.length : Int) - d.f2) = (us.length : Int) - d.f2 := by unfold wrap64; omega
        by_cases c4 : d.f1 > (us.length : Int) - d.f2
        · have g4_ : decide ((us.length : Int) - d.f2 < d.f1) = true := decide_eq_true c4
          go_quiet (fail)
          have n1_ := HST.out.below (pw_below_drewN (Below.refl _ _) nq)
          have n2_ := Aside0.mk (pw_below_drewN HB.out nq)
          have n3_ := Aside0.mk (Kept.drewN HK.out nq)
          have hgv : Aside0 (sp_give us d = (2, us)) := Aside0.mk (by unfold sp_give; rw [if_pos (by first | exact .inl c1 | exact .inr (.inl c2) | exact .inr (.inr (.inl c3)) | exact .inr (.inr (.inr c4)))])
          have HST := Aside0.mk n1_
          clear n1_
          go_wp2_with (fail)
          go_ret
          rw [hgv.out]
          exact ⟨rfl, HST.out, n2_.out, n3_.out⟩
        · have g4_ : decide ((us.length : Int) - d.f2 < d.f1) = false := decide_eq_false c4
          have hw2_ : wrap64 (d.f1 + d.f2) = d.f1 + d.f2 := by unfold wrap64; omega
          go_quiet (fail)
          have n1_ := HST.out.below (pw_below_drewN (Below.refl _ _) nq)
          have n2_ := Aside0.mk (pw_below_drewN HB.out nq)
          have n3_ := Aside0.mk (Kept.drewN HK.out nq)
          have n4_ : Aside0 ((w1.drewN nq).heap[gb]? = some (.cells #[.int .i64 d.f0, .int .i64 d.f1, .int .i64 d.f2] 145 (0, 0))) := Aside0.mk (blk_drewN BK.out nq)
          have HST := Aside0.mk n1_
          clear n1_ HB HK BK hz1 hz2 hs0 HS0
          have HB := n2_
          have HK := n3_
          have BK := n4_
          clear n2_ n3_ n4_
          generalize w1.drewN nq = w2 at HST HB HK BK ⊢
          have hz1 : w2.cell? ⟨gb, 1, none⟩ = some (.int .i64 d.f1) := (blk_cell BK.out 1).trans rfl
          have hz2 : w2.cell? ⟨gb, 2, none⟩ = some (.int .i64 d.f2) := (blk_cell BK.out 2).trans rfl
          go_upto_region 4 with ((with_reducible refine gate_dst (N := 5) rfl ?_); refine box_event ?hg (N := 5) ?hd (cs := #[.int .i64 0, .int .i64 0]) (t := 79) ?hr ?_; (case hd => rfl); (case hg => rfl); (case hr => first | (go_simp; done) | (go_simp; rfl)); intro gr hgr w6 hbox hb; have n1_ := Aside0.mk (show sp_st w0.heap.size gp (fun k => P k ∧ k ≠ gr) us left log w6 from (HST.out.bound.mono (fun k hk => ⟨hk.1, fun e => by have := hk.2; omega⟩)).below hb); have n2_ := Aside0.mk (below_step (by repeat (first | (with_reducible first | exact HB.out | apply below_alloc | apply pw_below_drewN | apply below_drew1) | exact HB.out)) hb); have n3_ := Aside0.mk (HK.out.below hb); have BR := Aside0.mk hbox; have GR := Aside0.mk (show w0.heap.size ≤ gr from by rw [hgr]; exact below_size (by repeat (first | (with_reducible first | exact HB.out | apply below_alloc | apply pw_below_drewN | apply below_drew1) | exact HB.out))); have GW := Aside0.mk (show w.heap.size ≤ gr from by rw [hgr]; exact HK.out.1); clear HB HST HK; have HB := n2_; have HST := n1_; have HK := n3_; clear n1_ n2_ n3_ hb hbox hgr; have hz3 : w6.cell? ⟨gr, 0, none⟩ = some (.int .i64 0) := (blk_cell BR.out 0).trans rfl; have hz4 : w6.cell? ⟨gr, 1, none⟩ = some (.int .i64 0) := (blk_cell BR.out 1).trans rfl; have hf0 := blk_frozen BR.out 0; have hf1 := blk_frozen BR.out 1)
          obtain ⟨w7, hw7⟩ : ∃ W_, W_ = ((w6.setCell ⟨gr, 0, none⟩ (.int .i64 d.f1)).setCell ⟨gr, 1, none⟩ (.int .i64 (d.f1 + d.f2))) := ⟨_, rfl⟩
          rw [← hw7]
          have n1_ : Aside0 (sp_st w0.heap.size gp P us left log w7) := Aside0.mk (by rw [hw7]; exact ((HST.out.far (fun h_ => h_.2 rfl) 0 _).far (fun h_ => h_.2 rfl) 1 _).mono (fun k hk => hk.1))
          have n2_ : Aside0 (Below w0.heap.size w0 w7) := Aside0.mk (by rw [hw7]; exact below_set (below_set HB.out GR.out) GR.out)
          have n3_ : Aside0 (Kept w w7 P) := Aside0.mk (by rw [hw7]; exact Kept.setCell (Kept.setCell HK.out (.inr GW.out) _) (.inr GW.out) _)
          have n4_ : Aside0 (w7.heap[gr]? = some (.cells #[.int .i64 d.f1, .int .i64 (d.f1 + d.f2)] 79 (0, 0))) := Aside0.mk (by rw [hw7]; exact blk_put (cs := #[.int .i64 d.f1, .int .i64 0]) (blk_put (cs := #[.int .i64 0, .int .i64 0]) BR.out 0 _ rfl) 1 _ rfl)
          clear hw7 HST HB HK BR hz3 hz4 hf0 hf1 hz1 hz2 BK
          have HST := n1_
          have HB := n2_
          have HK := n3_
          have BR := n4_
          clear n1_ n2_ n3_ n4_
          have hz3 : w7.cell? ⟨gr, 0, none⟩ = some (.int .i64 d.f1) := (blk_cell BR.out 0).trans rfl
          have hz4 : w7.cell? ⟨gr, 1, none⟩ = some (.int .i64 (d.f1 + d.f2)) := (blk_cell BR.out 1).trans rfl
          have hall := sp_st.all_calls gp P left d.f1 (d.f1 + d.f2) 1 us log w0 w7 HB.out HST.out (by omega) (by omega) (by omega) hm
          rw [show (d.f1 + d.f2 - d.f1).toNat = d.f2.toNat from by omega] at hall
          cases hb_ : sp_all 1 us d.f2.toNat d.f1 with
          | false =>
            rw [hb_] at hall
            have hgv : Aside0 (sp_give us d = (6, us)) := Aside0.mk (by unfold sp_give; rw [if_neg (by omega), hb_]; rfl)
            clear hb_
            go_wp2_with (go_at_call 110; refine hall.mono ?_; rintro e w8 ⟨rfl, hb8⟩)
            go_ret
            rw [hgv.out]
            exact ⟨rfl, HST.out.below hb8, below_step HB.out hb8, HK.out.below hb8⟩
          | true =>
            rw [hb_] at hall
            have hgv : Aside0 (sp_give us d = (0, sp_set 2 d.f2.toNat us d.f1)) := Aside0.mk (by unfold sp_give; rw [if_neg (by omega), hb_]; rfl)
            clear hb_
            go_wp2_with (first | (go_at_call 110; refine hall.mono ?_; rintro e w8 ⟨rfl, hb8⟩; have n1_ := Aside0.mk (HST.out.below hb8); have n2_ := Aside0.mk (below_step HB.out hb8); have n3_ := Aside0.mk (HK.out.below hb8); have n4_ := Aside0.mk (blk_below BR.out hb8); clear HST HB HK BR hz3 hz4 hall; have HST := n1_; have HB := n2_; have HK := n3_; have BR := n4_; clear n1_ n2_ n3_ n4_ hb8; have hz3 : w8.cell? ⟨gr, 0, none⟩ = some (.int .i64 d.f1) := (blk_cell BR.out 0).trans rfl; have hz4 : w8.cell? ⟨gr, 1, none⟩ = some (.int .i64 (d.f1 + d.f2)) := (blk_cell BR.out 1).trans rfl; have hset := sp_st.set_calls gp P left d.f1 (d.f1 + d.f2) 2 us log w0 w8 HB.out HST.out (by omega) (by omega) (by omega) hm; rw [show (d.f1 + d.f2 - d.f1).toNat = d.f2.toNat from by omega] at hset) | (go_at_call 111; refine hset.mono ?_; rintro e w9 ⟨rfl, hS9, hB9, hK9⟩))
            go_ret
            rw [hgv.out]
            exact ⟨rfl, hS9, hB9, HK.out.then_ hK9 (fun k hk => .inl hk)⟩
/-- The place at which so many in a row are free: the last of them. -/
def sp_scan (us : List Int) (count : Int) : Nat → Int → Int → Option Int
  | 0, _, _ => none
  | n + 1, i, row => if (if rd us i = 0 then row + 1 else 0) = count then some i else sp_scan us count n (i + 1) (if rd us i = 0 then row + 1 else 0)
/-- What a deed answers, and the units, how many are left, the log behind it. -/
structure SpR where
  found : S147
  us : List Int
  left : Int
  log : List S140
def sp_take (us : List Int) (left : Int) (log : List S140) (count : Int) : SpR :=
  if count < 1 ∨ count > (us.length : Int) then ⟨⟨2, 0, 0⟩, us, left, log⟩ else match sp_scan us count us.length 0 0 with
  | none => ⟨⟨8, 0, 0⟩, us, left, log⟩
  | some i => ⟨⟨0, i + 1 - count, 0⟩, sp_set 1 count.toNat us (i + 1 - count), left - count, log ++ [⟨false, ⟨i + 1 - count, i + 1⟩⟩]⟩
def sp_free : List S79 → List Int → Int → List S140 → List Int × Int × List S140
  | [], us, left, log => (us, left, log)
  | r :: rs, us, left, log => sp_free rs (sp_set 0 (r.f1 - r.f0).toNat us r.f0) (left + (r.f1 - r.f0)) (log ++ [⟨true, r⟩])
def sp_commit (us : List Int) (left : Int) (log : List S140) : SpR :=
  ⟨⟨0, 0, 0⟩, (sp_free (sp_runs 3 us (us.length + 1) 0 (-1) []) us left log).1.map (fun u => if u = 2 then 3 else u), (sp_free (sp_runs 3 us (us.length + 1) 0 (-1) []) us left log).2.1, (sp_free (sp_runs 3 us (us.length + 1) 0 (-1) []) us left log).2.2⟩
def sp_do (us : List Int) (left : Int) (log : List S140) (d : S145) : SpR :=
  if d.f0 = 1 then sp_take us left log d.f2 else if d.f0 = 2 then ⟨⟨(sp_give us d).1, 0, 0⟩, (sp_give us d).2, left, log⟩ else if d.f0 = 3 then sp_commit us left log else ⟨⟨3, 0, 0⟩, us, left, log⟩
def sp_play : List S145 → List Int → Int → List S140 → List S147 → List S147 × List S140
  | [], _, _, log, out => (out, log)
  | d :: ds, us, left, log, out => sp_play ds (sp_do us left log d).us (sp_do us left log d).left (sp_do us left log d).log (out ++ [⟨(sp_do us left log d).found.f0, (sp_do us left log d).found.f1, (sp_do us left log d).left⟩])
/-- A found is written into a block beside the space. -/
theorem sp_put3 {gp gb : Nat} {P : Nat → Prop} {us : List Int} {left : Int} {log : List S140} {w0 w1 w : World} {a b c : Int} {tt : Nat} (h : sp_st w0.heap.size gp (fun k => P k ∧ k ≠ gb) us left log w) (hB : Below w0.heap.size w0 w) (hK : Kept w1 w P) (hg : w0.heap.size ≤ gb) (hw : w1.heap.size ≤ gb)
    (BK : w.heap[gb]? = some (.cells #[.int .i64 a, .int .i64 b, .int .i64 c] tt (0, 0))) (x y z : Int) (w2 : World) (e : w2 = ((w.setCell ⟨gb, 0, none⟩ (.int .i64 x)).setCell ⟨gb, 1, none⟩ (.int .i64 y)).setCell ⟨gb, 2, none⟩ (.int .i64 z)) :
    sp_st w0.heap.size gp P us left log w2 ∧ Below w0.heap.size w0 w2 ∧ Kept w1 w2 P ∧ w2.heap[gb]? = some (.cells #[.int .i64 x, .int .i64 y, .int .i64 z] tt (0, 0)) := by
  subst e
  exact ⟨(((h.far (fun h_ => h_.2 rfl) 0 _).far (fun h_ => h_.2 rfl) 1 _).far (fun h_ => h_.2 rfl) 2 _).mono (fun k hk => hk.1), below_set (below_set (below_set hB hg) hg) hg, Kept.setCell (Kept.setCell (Kept.setCell hK (.inr hw) _) (.inr hw) _) (.inr hw) _,
    blk_put (cs := #[.int .i64 x, .int .i64 y, .int .i64 c]) (blk_put (cs := #[.int .i64 x, .int .i64 b, .int .i64 c]) (blk_put BK 0 _ rfl) 1 _ rfl) 2 _ rfl⟩
set_option maxHeartbeats 2000000 in
set_option maxRecDepth 100000 in
theorem space_take.range (gp : Nat) (P : Nat → Prop) (left count : Int) (us : List Int) (log : List S140) (w0 w : World) (hB : Below w0.heap.size w0 w) (h : sp_st w0.heap.size gp P us left log w) (hp : 0 < us.length) (hm : us.length ≤ 4096) (hc : count < 1 ∨ count > (us.length : Int)) :
    Calls Try.prog 113 #[.pointer (some ⟨gp, 0, none⟩), .int .i64 count] w fun e w' => e = .returned (.agg #[.int .i64 2, .int .i64 0, .int .i64 0]) ∧ sp_st w0.heap.size gp P us left log w' ∧ Below w0.heap.size w0 w' ∧ Kept w w' P := by
  have hug := Try.underlying143
  have huf := Try.underlying147
  obtain ⟨go, co, hs0, hs1, hgl, hx⟩ := h.units hp
  clear hs1 hx
  have HST := Aside0.mk h
  have HS0 := Aside0.mk hs0
  have HB := Aside0.mk hB
  have HK := Aside0.mk (Kept.refl w P)
  clear h hs0 hB
  go_enter Try.func113, Try.ntmps113
  go_upto_region 1 with ((with_reducible refine gate_dst (N := 4) rfl ?_); refine box_event ?hg (N := 4) ?hd (cs := #[.int .i64 0, .int .i64 0, .int .i64 0]) (t := 147) ?hr ?_; (case hd => rfl); (case hg => rfl); (case hr => first | (go_simp; done) | (go_simp; rfl)); intro gb hgb w1 hbox hb; have n1_ := Aside0.mk (show sp_st w0.heap.size gp (fun k => P k ∧ k ≠ gb) us left log w1 from (HST.out.bound.mono (fun k hk => ⟨hk.1, fun e => by have := hk.2; omega⟩)).below hb); have n2_ := Aside0.mk (below_step (by repeat (first | (with_reducible first | exact HB.out | apply below_alloc | apply pw_below_drewN | apply below_drew1) | exact HB.out)) hb); have n3_ := Aside0.mk (HK.out.below hb); have BK := Aside0.mk hbox; have GB := Aside0.mk (show w0.heap.size ≤ gb from by rw [hgb]; exact below_size (by repeat (first | (with_reducible first | exact HB.out | apply below_alloc | apply pw_below_drewN | apply below_drew1) | exact HB.out))); have GW := Aside0.mk (show w.heap.size ≤ gb from by rw [hgb]; exact HK.out.1); have n4_ := Aside0.mk ((hb.cell (World.block_lt_of_cell? w _ HS0.out)).trans HS0.out); clear HB HST HK HS0; have HB := n2_; have HST := n1_; have HK := n3_; have HS0 := n4_; clear n1_ n2_ n3_ n4_ hb hbox hgb)
  have hs0 := HS0.out
  have hz0 : w1.cell? ⟨gb, 0, none⟩ = some (.int .i64 0) := (blk_cell BK.out 0).trans rfl
  have hz1 : w1.cell? ⟨gb, 1, none⟩ = some (.int .i64 0) := (blk_cell BK.out 1).trans rfl
  have hz2 : w1.cell? ⟨gb, 2, none⟩ = some (.int .i64 0) := (blk_cell BK.out 2).trans rfl
  have hf0 := blk_frozen BK.out 0
  have hf1 := blk_frozen BK.out 1
  have hf2 := blk_frozen BK.out 2
  by_cases c1 : count < 1
  · have g1_ := decide_eq_true c1
    go_wp2_with (fail)
    obtain ⟨w5, hw5⟩ : ∃ W_, W_ = ((w1.setCell ⟨gb, 0, none⟩ (.int .i64 2)).setCell ⟨gb, 1, none⟩ (.int .i64 0)).setCell ⟨gb, 2, none⟩ (.int .i64 0) := ⟨_, rfl⟩
    rw [← hw5]
    obtain ⟨k1, k2, k3, k4⟩ := sp_put3 HST.out HB.out HK.out GB.out GW.out BK.out 2 0 0 w5 hw5
    have r0 : w5.cell? ⟨gb, 0, none⟩ = some (.int .i64 2) := (blk_cell k4 0).trans rfl
    have r1 : w5.cell? ⟨gb, 1, none⟩ = some (.int .i64 0) := (blk_cell k4 1).trans rfl
    have r2 : w5.cell? ⟨gb, 2, none⟩ = some (.int .i64 0) := (blk_cell k4 2).trans rfl
    refine bodyPost_ret (v := .agg #[.int .i64 2, .int .i64 0, .int .i64 0]) ?_ rfl ⟨rfl, k1, k2, k3⟩
    simp [results, Try.results113, go_sem, r0, r1, r2]
  · have c2 : count > (us.length : Int) := by omega
    have g1_ := decide_eq_false c1
    have g2_ : decide ((us.length : Int) < count) = true := decide_eq_true c2
    go_wp2_with (fail)
    obtain ⟨w5, hw5⟩ : ∃ W_, W_ = ((w1.setCell ⟨gb, 0, none⟩ (.int .i64 2)).setCell ⟨gb, 1, none⟩ (.int .i64 0)).setCell ⟨gb, 2, none⟩ (.int .i64 0) := ⟨_, rfl⟩
    rw [← hw5]
    obtain ⟨k1, k2, k3, k4⟩ := sp_put3 HST.out HB.out HK.out GB.out GW.out BK.out 2 0 0 w5 hw5
    have r0 : w5.cell? ⟨gb, 0, none⟩ = some (.int .i64 2) := (blk_cell k4 0).trans rfl
    have r1 : w5.cell? ⟨gb, 1, none⟩ = some (.int .i64 0) := (blk_cell k4 1).trans rfl
    have r2 : w5.cell? ⟨gb, 2, none⟩ = some (.int .i64 0) := (blk_cell k4 2).trans rfl
    refine bodyPost_ret (v := .agg #[.int .i64 2, .int .i64 0, .int .i64 0]) ?_ rfl ⟨rfl, k1, k2, k3⟩
    simp [results, Try.results113, go_sem, r0, r1, r2]
theorem sp_st.runs_calls (gp : Nat) (P : Nat → Prop) (left : Int) (us : List Int) (log : List S140) (w0 w : World) (h : sp_st w0.heap.size gp P us left log w) (hp : 0 < us.length) (hm : us.length ≤ 4096) :
    Calls Try.prog 69 #[.pointer (some ⟨gp, 0, none⟩), .func (.func 134) #[] #[]] w fun e w' => ∃ v0_ : Value, e = .returned v0_ ∧ Kd.R k79 79 w' w.heap.size (fun _ => True) v0_ (sp_runs 3 us (us.length + 1) 0 (-1) []) ∧ Below w.heap.size w w' := by
  obtain ⟨h0, h1, uv, lv, h2, h3, h4⟩ := h
  exact space_Play.runs gp uv lv left us _ w0 w h2 h3 hp hm
open Go.Proofs.Ythnchojddoefiaa.Sep
/-- A space behind a pointer. -/
def spA (gp : Nat) (us : List Int) (left : Int) (log : List S140) : Asn where
  H := fun w B S => sp_st B gp S us left log w
  step := fun hm ⟨h0, h1, uv, lv, h2, h3, h4⟩ => ⟨h0, h1, uv, lv, (hm gp h1 (blk_lt h2)).trans h2, Kd.R_step h3 (fun k hk => hm k hk.1), Kd.R_step h4 (fun k hk => hm k hk.1)⟩
  mono := fun hs h => h.mono hs
  bound := fun ⟨h0, h1, uv, lv, h2, h3, h4⟩ => ⟨h0, ⟨h1, h0, blk_lt h2⟩, uv, lv, h2, Kd.R_mono (Kd.R_bound h3) (fun k hk => ⟨⟨hk.1.1, hk.2.1, hk.2.2.1⟩, hk.1.2⟩), Kd.R_mono (Kd.R_bound h4) (fun k hk => ⟨⟨hk.1.1, hk.2.1, hk.2.2.1⟩, hk.1.2⟩)⟩
  lower := fun hb ⟨h0, h1, uv, lv, h2, h3, h4⟩ => ⟨Nat.le_trans hb h0, h1, uv, lv, h2, Kd.R_lower h3 hb, Kd.R_lower h4 hb⟩
theorem spA_open {w0 w : World} {l : List Asn} {gp : Nat} {us : List Int} {left : Int} {log : List S140} (h : SL w0 w (spA gp us left log :: l)) : ∃ uv lv, SL w0 w (blkA gp #[uv, .int .i64 left, lv] 143 :: rowA (Kd.int .u8) 5 uv us :: rowA k140 140 lv log :: l) := by
  obtain ⟨hb, S, _, ⟨h0, h1, uv, lv, h2, h3, h4⟩, hl⟩ := h
  refine ⟨uv, lv, hb, fun k => k = gp, fun _ _ => trivial, ⟨rfl, h0, h2⟩, fun k => (S k ∧ k ≠ gp) ∧ some k = uv.ownBlock, fun k hk => ⟨trivial, hk.1.2⟩, ⟨fun k hk => ⟨h3.1 k hk, hk.symm⟩, h3.2⟩, fun k => (S k ∧ k ≠ gp) ∧ some k ≠ uv.ownBlock, fun k hk => ⟨⟨trivial, hk.1.2⟩, fun h5 => hk.2 h5.2⟩, Kd.R_apartR h4 h3 (by decide), hl.mono (fun k hk => ⟨⟨⟨trivial, fun h5 => hk.2 (h5 ▸ h1)⟩, fun h5 => hk.2 h5.1.1⟩, fun h5 => hk.2 h5.1.1⟩)⟩
theorem spA_close {w0 w : World} {l : List Asn} {gp : Nat} {us : List Int} {left : Int} {log : List S140} {uv lv : Value} (h : SL w0 w (blkA gp #[uv, .int .i64 left, lv] 143 :: rowA (Kd.int .u8) 5 uv us :: rowA k140 140 lv log :: l)) : SL w0 w (spA gp us left log :: l) := by
  obtain ⟨hb, S, _, ⟨h0, h1, h2⟩, S2, hS2, h3, S3, hS3, h4, hl⟩ := h
  exact ⟨hb, fun k => S k ∨ S2 k ∨ S3 k, fun _ _ => trivial, ⟨h1, .inl h0, uv, lv, h2, Kd.R_mono h3 (fun k hk => ⟨.inr (.inl hk), fun e => (hS2 k hk).2 (e ▸ h0)⟩), Kd.R_mono h4 (fun k hk => ⟨.inr (.inr hk), fun e => (hS3 k hk).1.2 (e ▸ h0)⟩)⟩, hl.mono (fun k hk => ⟨trivial, fun h5 => h5.elim hk.1.1.2 (fun h6 => h6.elim hk.1.2 hk.2)⟩)⟩
theorem set_SL {w0 w : World} {l : List Asn} {gp : Nat} {us : List Int} {left : Int} {uv lv : Value} (h : SL w0 w l) (k j : Nat) (hk : l[k]? = some (blkA gp #[uv, .int .i64 left, lv] 143)) (hj : l[j]? = some (rowA (Kd.int .u8) 5 uv us)) (f t c : Int) (h0 : 0 ≤ f) (hft : f ≤ t) (ht : t ≤ (us.length : Int)) (hm : us.length ≤ 4096) :
    Calls Try.prog 111 #[.pointer (some ⟨gp, 0, none⟩), .agg #[.int .i64 f, .int .i64 t], .int .u8 c] w fun e w' => e = .returned (.tuple #[]) ∧ SL w0 w' (l.set j (rowA (Kd.int .u8) 5 uv (sp_set c (t - f).toNat us f))) := by
  have hR := h.row j hj
  have hne := Kd.R_ne hR (h.blk k hk) (by decide)
  refine (space_set.calls gp uv lv left f t c us (fun k => some k = uv.ownBlock) w0 w h.1 (h.base k hk) (h.blk k hk) ⟨fun k hk => hk.symm, hR.2⟩ hne h0 hft ht hm).mono ?_
  rintro e w' ⟨rfl, hR', hB', hK⟩
  exact ⟨rfl, h.kept j hj hB' hK (fun T hT k hk => hT.1 k hk.symm) (fun T hT => ⟨fun k hk => .inl (hT.1 k hk), hR'.2⟩)⟩
set_option maxHeartbeats 4000000 in
set_option maxRecDepth 100000 in
theorem space_take.scan (gp : Nat) (left count : Int) (us : List Int) (log : List S140) (F : List Asn) (w0 w : World) (h : SL w0 w (spA gp us left log :: F)) (hp : 0 < us.length) (hm : us.length ≤ 4096) (hc0 : 1 ≤ count) (hc1 : count ≤ (us.length : Int)) (hl0 : -100000000000 ≤ left) (hl1 : left ≤ 100000000000) (hlog : log.length < 1000000000) :
    Calls Try.prog 113 #[.pointer (some ⟨gp, 0, none⟩), .int .i64 count] w fun e w' => e = .returned (.agg #[.int .i64 (sp_take us left log count).found.f0, .int .i64 (sp_take us left log count).found.f1, .int .i64 0]) ∧ SL w0 w' (spA gp (sp_take us left log count).us (sp_take us left log count).left (sp_take us left log count).log :: F) := by
  have hug := Try.underlying143
  have huf := Try.underlying147
  have hur := Try.underlying79
  have HT : Aside0 (sp_take us left log count = match sp_scan us count us.length 0 0 with | none => ⟨⟨8, 0, 0⟩, us, left, log⟩ | some i => ⟨⟨0, i + 1 - count, 0⟩, sp_set 1 count.toNat us (i + 1 - count), left - count, log ++ [⟨false, ⟨i + 1 - count, i + 1⟩⟩]⟩) := ⟨by unfold sp_take; rw [if_neg (by omega)]⟩
  obtain ⟨uv, lv, h1⟩ := spA_open h
  obtain ⟨go, co, rfl⟩ := h1.form 1 rfl hp
  have HS := Aside0.mk h1
  clear h h1
  have hs0 := HS.out.c0 0 rfl
  go_enter Try.func113, Try.ntmps113
  go_upto_region 1 with ((with_reducible refine gate_dst (N := 4) rfl ?_); refine box_event ?hg (N := 4) ?hd (cs := #[.int .i64 0, .int .i64 0, .int .i64 0]) (t := 147) ?hr ?_; (case hd => exact rfl); (case hg => exact rfl); (case hr => first | (go_simp; done) | (go_simp; rfl)); intro gb hgb_ w1 hbox_ hb_; have n1_ := Aside0.mk (Sep.SL.newBlk (by repeat (first | (with_reducible first | exact HS.out | apply Sep.SL.drewN | apply Sep.SL.drew | apply Sep.SL.alloc) | exact HS.out)) hb_ hgb_ hbox_); clear HS hgb_ hbox_ hb_; have HS := n1_; clear n1_)
  have hs0 := HS.out.c0 1 rfl
  have g1_ : decide (count < 1) = false := decide_eq_false (by omega)
  have g2_ : decide ((us.length : Int) < count) = false := decide_eq_false (by omega)
  go_wp2_with (fail)
  clear hs0 g1_ g2_
  go_loopg [5, 26] us.length (fun kq v5 v26 wr => ∃ (row i : Int), v5 = .int .i64 row ∧ v26 = .int .i64 i ∧ 0 ≤ row ∧ row ≤ i ∧ row < count ∧ i + kq = (us.length : Int) ∧ Aside0 (sp_scan us count kq i row = sp_scan us count us.length 0 0) ∧ Aside0 (SL w0 wr (blkA gb #[.int .i64 0, .int .i64 0, .int .i64 0] 147 :: blkA gp #[.slice (some ⟨go, 0, none⟩) us.length co, .int .i64 left, lv] 143 :: rowA (Kd.int .u8) 5 (.slice (some ⟨go, 0, none⟩) us.length co) us :: rowA k140 140 lv log :: F)))
  case atStart => exact ⟨0, 0, rfl, rfl, by omega, by omega, by omega, by omega, ⟨rfl⟩, by repeat (first | exact HS | exact Aside0.mk (by repeat (first | (with_reducible first | exact HS.out | apply Sep.SL.drewN | apply Sep.SL.drew | apply Sep.SL.alloc) | exact HS.out)))⟩
  case round =>
    clear HS
    obtain ⟨row, i, rfl, rfl, hr0, hri, hrc, hik, HI, HS⟩ := hrel
    cases gk with
    | zero =>
      have hit : decide (i < (us.length : Int)) = false := decide_eq_false (by omega)
      have HI2 := HI.out
      rw [sp_scan] at HI2
      have HT2 := HT.out
      rw [← HI2] at HT2
      have HT := Aside0.mk HT2
      clear HI2 HT2 HI
      have hz3 := HS.out.c0 0 rfl
      have hz4 := HS.out.c1 0 rfl
      have hz5 := HS.out.c2 0 rfl
      go_wp2_with (fail)
      have HS := Aside0.mk (((HS.out.put 0 rfl 0 (.int .i64 8)).put 0 rfl 1 (.int .i64 0)).put 0 rfl 2 (.int .i64 0))
      clear hz3 hz4 hz5
      generalize World.setCell _ _ _ = w13 at HS ⊢
      have r0 := HS.out.c0 0 rfl
      have r1 := HS.out.c1 0 rfl
      have r2 := HS.out.c2 0 rfl
      refine bodyPost_ret (v := .agg #[.int .i64 8, .int .i64 0, .int .i64 0]) ?_ rfl ?_
      · simp [results, Try.results113, go_sem, r0, r1, r2]
      · rw [HT.out]
        exact ⟨rfl, spA_close (uv := .slice (some ⟨go, 0, none⟩) us.length co) HS.out.drop⟩
    | succ g1 =>
      have hit : decide (i < (us.length : Int)) = true := decide_eq_true (by omega)
      obtain ⟨hx, hxf⟩ := HS.out.int 2 rfl i (by omega) (by omega)
      have p8 := eq_true (show (0 : Int) ≤ i by omega)
      have q8 := eq_true (show i < (us.length : Int) by omega)
      by_cases hu : rd us i = 0
      · have hub : (rd us i != 0) = false := by simp [hu]
        have hub2 : (rd us i == 0) = true := by simp [hu]
        by_cases hc : row + 1 = count
        · have hw1_ : wrap64 (row + 1) = row + 1 := by unfold wrap64; omega
          have hw2_ : wrap64 (i + 1) = i + 1 := by unfold wrap64; omega
          have hw3_ : wrap64 (i + 1 - count) = i + 1 - count := by unfold wrap64; omega
          have hw4_ : wrap64 (left - count) = left - count := by unfold wrap64; omega
          have hcb : (row + 1 == count) = true := by simp [hc]
          have HU := Aside0.mk hu
          have HCc := Aside0.mk hc
          clear hu hc
          go_upto_region 12 with ((with_reducible refine gate_dst (N := 8) rfl ?_); refine box_event ?hg (N := 8) ?hd (cs := #[.int .i64 0, .int .i64 0]) (t := 79) ?hr ?_; (case hd => exact rfl); (case hg => exact rfl); (case hr => first | (go_simp; done) | (go_simp; rfl)); intro gr hgb_ w6 hbox_ hb_; have n1_ := Aside0.mk (Sep.SL.newBlk (by repeat (first | (with_reducible first | exact HS.out | apply Sep.SL.drewN | apply Sep.SL.drew | apply Sep.SL.alloc) | exact HS.out)) hb_ hgb_ hbox_); clear HS hgb_ hbox_ hb_; have HS := n1_; clear n1_; have hz3 := HS.out.c0 0 rfl; have hz4 := HS.out.c1 0 rfl)
          obtain ⟨w7, hw7⟩ : ∃ W_, W_ = ((w6.setCell ⟨gr, 0, none⟩ (.int .i64 (i + 1 - count))).setCell ⟨gr, 1, none⟩ (.int .i64 (i + 1))) := ⟨_, rfl⟩
          rw [← hw7]
          have HS : Aside0 (SL w0 w7 (blkA gr #[.int .i64 (i + 1 - count), .int .i64 (i + 1)] 79 :: blkA gb #[.int .i64 0, .int .i64 0, .int .i64 0] 147 :: blkA gp #[.slice (some ⟨go, 0, none⟩) us.length co, .int .i64 left, lv] 143 :: rowA (Kd.int .u8) 5 (.slice (some ⟨go, 0, none⟩) us.length co) us :: rowA k140 140 lv log :: F)) := ⟨by rw [hw7]; exact (HS.out.put 0 rfl 0 _).put 0 rfl 1 _⟩
          clear hw7 hz3 hz4
          have hz3 := HS.out.c0 0 rfl
          have hz4 := HS.out.c1 0 rfl
          have hset := set_SL HS.out 2 3 rfl rfl (i + 1 - count) (i + 1) 1 (by have := HCc.out; omega) (by omega) (by omega) hm
          rw [show (i + 1 - (i + 1 - count)).toNat = count.toNat from by omega] at hset
          go_upto_region 13 with (go_at_call 111; refine hset.mono ?_; rintro e w9 ⟨rfl, hS9⟩)
          have HS : Aside0 (SL w0 w9 (blkA gr #[.int .i64 (i + 1 - count), .int .i64 (i + 1)] 79 :: blkA gb #[.int .i64 0, .int .i64 0, .int .i64 0] 147 :: blkA gp #[.slice (some ⟨go, 0, none⟩) us.length co, .int .i64 left, lv] 143 :: rowA (Kd.int .u8) 5 (.slice (some ⟨go, 0, none⟩) us.length co) (sp_set 1 count.toNat us (i + 1 - count)) :: rowA k140 140 lv log :: F)) := ⟨hS9⟩
          clear hz3 hz4 hset hS9
          have hz5 := HS.out.c1 2 rfl
          go_upto_region 14 with (fail)
          have HS := Aside0.mk (HS.out.put 2 rfl 1 (.int .i64 (left - count)))
          clear hz5
          generalize World.setCell _ _ _ = w10 at HS ⊢
          have hz1 := HS.out.c0 0 rfl
          have hz2 := HS.out.c1 0 rfl
          have hz3 := HS.out.c2 2 rfl
          go_region_law ((first | with_reducible apply Sep.append_row_step (d := k140) (t := 63) (e := 140) (s := .tmp 60) (x := .tmp 63) (p := (⟨false, ⟨i + 1 - count, i + 1⟩⟩ : S140)) (cs := [.bool false, .int .i64 (i + 1 - count), .int .i64 (i + 1)]) | with_reducible apply Sep.append_row_step_drew (d := k140) (t := 63) (e := 140) (s := .tmp 60) (x := .tmp 63) (p := (⟨false, ⟨i + 1 - count, i + 1⟩⟩ : S140)) (cs := [.bool false, .int .i64 (i + 1 - count), .int .i64 (i + 1)])); (case hSL => exact (Sep.SL.plain (Sep.SL.front (by repeat (first | (with_reducible first | exact HS.out | apply Sep.SL.drewN | apply Sep.SL.drew | apply Sep.SL.alloc) | exact HS.out)) 4 rfl) _ _ (fun _ _ => k140_mkM _ _ _ _)).swap); (case hgd => exact rfl); (case ho => exact rfl); (case ht => exact Try.underlying63); (case hinfo => exact info140); (case hz => exact rfl); (case hs0 => decide); (case hb0 => omega); (case hs => exact rfl); (case hx => exact rfl); (case hl => omega); intro v1_ w1_ hs_; have n1_ := Aside0.mk hs_; clear HS hs_; have HS := n1_; clear n1_; obtain ⟨a1_, c1_, e1_⟩ := Sep.SL.slice HS.out 0 rfl; rw [List.length_append, List.length_singleton] at e1_; subst e1_; clear hz3; have hz3 := HS.out.c2 3 rfl)
          all_goals
            have HS := Aside0.mk (HS.out.put 3 rfl 2 (.slice a1_ (log.length + 1) c1_))
            clear hz1 hz2 hz3
            generalize World.setCell _ _ _ = w12 at HS ⊢
            have hz1 := HS.out.c0 1 rfl
            have hz3 := HS.out.c0 2 rfl
            have hz4 := HS.out.c1 2 rfl
            have hz5 := HS.out.c2 2 rfl
            go_wp2_with (fail)
            have HS := Aside0.mk (((HS.out.put 2 rfl 0 (.int .i64 0)).put 2 rfl 1 (.int .i64 (i + 1 - count))).put 2 rfl 2 (.int .i64 0))
            clear hz1 hz3 hz4 hz5
            generalize World.setCell _ _ _ = w13 at HS ⊢
            have r0 := HS.out.c0 2 rfl
            have r1 := HS.out.c1 2 rfl
            have r2 := HS.out.c2 2 rfl
            have HI2 := HI.out
            rw [sp_scan, if_pos HU.out, if_pos HCc.out] at HI2
            have HT2 := HT.out
            rw [← HI2] at HT2
            refine bodyPost_ret (v := .agg #[.int .i64 0, .int .i64 (i + 1 - count), .int .i64 0]) ?_ rfl ?_
            · simp [results, Try.results113, go_sem, r0, r1, r2]
            · rw [HT2]
              exact ⟨rfl, spA_close (uv := .slice (some ⟨go, 0, none⟩) us.length co) (Sep.SL.front (Sep.SL.front (Sep.SL.front (Sep.SL.drop (Sep.SL.front (Sep.SL.drop (Sep.SL.front HS.out 2 rfl)) 1 rfl)) 0 rfl) 2 rfl) 2 rfl)⟩
        · have hw1_ : wrap64 (row + 1) = row + 1 := by unfold wrap64; omega
          have hw2_ : wrap64 (i + 1) = i + 1 := by unfold wrap64; omega
          have hcb : (row + 1 == count) = false := by simp [hc]
          have HI2 := HI.out
          rw [sp_scan, if_pos hu, if_neg hc] at HI2
          have HI := Aside0.mk HI2
          have hle : row + 1 < count := by omega
          clear hu hc HI2
          go_wp2_with (fail)
          go_roundg g1
          case measure => omega
          case rel => exact ⟨row + 1, i + 1, rfl, rfl, by omega, by omega, hle, by omega, HI, Aside0.mk (by repeat (first | (with_reducible first | exact HS.out | apply Sep.SL.drewN | apply Sep.SL.drew | apply Sep.SL.alloc) | exact HS.out))⟩
      · have hub : (rd us i != 0) = true := by simp [hu]
        have hub2 : (rd us i == 0) = false := by simp [hu]
        have hw1_ : wrap64 (row + 1) = row + 1 := by unfold wrap64; omega
        have hw2_ : wrap64 (i + 1) = i + 1 := by unfold wrap64; omega
        have hcb : ((0 : Int) == count) = false := by have : (0 : Int) ≠ count := by omega
                                                      simp [this]
        have HI2 := HI.out
        rw [sp_scan, if_neg hu, if_neg (by omega)] at HI2
        have HI := Aside0.mk HI2
        clear hu HI2
        go_wp2_with (fail)
        go_roundg g1
        case measure => omega
        case rel => exact ⟨0, i + 1, rfl, rfl, by omega, by omega, by omega, by omega, HI, Aside0.mk (by repeat (first | (with_reducible first | exact HS.out | apply Sep.SL.drewN | apply Sep.SL.drew | apply Sep.SL.alloc) | exact HS.out))⟩
theorem runs_SL {w0 w : World} {l : List Asn} {gp : Nat} {us : List Int} {left : Int} {uv lv : Value} (h : SL w0 w l) (k j : Nat) (hk : l[k]? = some (blkA gp #[uv, .int .i64 left, lv] 143)) (hj : l[j]? = some (rowA (Kd.int .u8) 5 uv us)) (hp : 0 < us.length) (hm : us.length ≤ 4096) :
    Calls Try.prog 69 #[.pointer (some ⟨gp, 0, none⟩), .func (.func 134) #[] #[]] w fun e w' => ∃ v0_ : Value, e = .returned v0_ ∧ SL w0 w' (rowA k79 79 v0_ (sp_runs 3 us (us.length + 1) 0 (-1) []) :: l) := by
  refine (space_Play.runs gp uv lv left us _ w0 w (h.blk k hk) (h.row j hj) hp hm).mono ?_
  rintro e w' ⟨v0_, rfl, hR, hb⟩
  exact ⟨v0_, rfl, h.newRow hb hR⟩
theorem sp_runs_bd (c : Int) (us : List Int) : ∀ (n : Nat) (i fr : Int) (out : List S79), 0 ≤ i → i + n = (us.length : Int) + 1 → fr ≤ i → (∀ r ∈ out, 0 ≤ r.f0 ∧ r.f0 ≤ r.f1 ∧ r.f1 ≤ (us.length : Int)) → (∀ r ∈ sp_runs c us n i fr out, 0 ≤ r.f0 ∧ r.f0 ≤ r.f1 ∧ r.f1 ≤ (us.length : Int)) ∧ (sp_runs c us n i fr out).length ≤ out.length + n
  | 0, i, fr, out, _, _, _, h => by rw [sp_runs]; exact ⟨h, by omega⟩
  | n + 1, i, fr, out, h0, hn, hf, h => by
    rw [sp_runs]
    split
    · split
      · have := sp_runs_bd c us n (i + 1) i out (by omega) (by omega) (by omega) h; exact ⟨this.1, by omega⟩
      · have := sp_runs_bd c us n (i + 1) fr out (by omega) (by omega) (by omega) h; exact ⟨this.1, by omega⟩
    · split
      · have := sp_runs_bd c us n (i + 1) (-1) (out ++ [⟨fr, i⟩]) (by omega) (by omega) (by omega) (fun r hr => by
          rcases List.mem_append.1 hr with hr | hr
          · exact h r hr
          · rw [List.mem_singleton.1 hr]; exact ⟨by simpa using (by assumption : fr ≥ 0), hf, by show i ≤ _; omega⟩)
        exact ⟨this.1, by have := this.2; simp at this; omega⟩
      · have := sp_runs_bd c us n (i + 1) fr out (by omega) (by omega) (by omega) h; exact ⟨this.1, by omega⟩
theorem rd_drop {α : Type} (z : α) (l : List α) (i : Int) (h0 : 0 ≤ i) (h1 : i < (l.length : Int)) : l.drop i.toNat = l.getD i.toNat z :: l.drop (i + 1).toNat ∧ l.getD i.toNat z ∈ l := by
  have e : l.getD i.toNat z = l[i.toNat]'(by omega) := by rw [List.getD_eq_getElem?_getD, List.getElem?_eq_getElem (by omega)]; rfl
  rw [e]
  exact ⟨by rw [List.drop_eq_getElem_cons (show i.toNat < l.length by omega), show i.toNat + 1 = (i + 1).toNat from by omega], List.getElem_mem _⟩
theorem mid_get (f : Int → Int) (ys : List Int) (j : Int) (h0 : 0 ≤ j) (h1 : j < (ys.length : Int)) : rd ((ys.take j.toNat).map f ++ ys.drop j.toNat) j = rd ys j := by
  unfold rd
  rw [List.getD_eq_getElem?_getD, List.getD_eq_getElem?_getD, List.getElem?_append_right (by rw [List.length_map, List.length_take]; omega), List.getElem?_drop, List.length_map, List.length_take]
  congr 2
  omega
theorem mid_set (f : Int → Int) (ys : List Int) (j : Int) (h0 : 0 ≤ j) (h1 : j < (ys.length : Int)) : ((ys.take j.toNat).map f ++ ys.drop j.toNat).set j.toNat (f (rd ys j)) = (ys.take (j + 1).toNat).map f ++ ys.drop (j + 1).toNat := by
  have e : rd ys j = ys[j.toNat]'(by omega) := by unfold rd; rw [List.getD_eq_getElem?_getD, List.getElem?_eq_getElem (by omega)]; rfl
  rw [show (j + 1).toNat = j.toNat + 1 from by omega, List.take_succ_eq_append_getElem (by omega), List.map_append, List.append_assoc, List.set_append_right _ _ (by rw [List.length_map, List.length_take]; omega), List.length_map, List.length_take,
    show j.toNat - min j.toNat ys.length = 0 from by omega, List.drop_eq_getElem_cons (show j.toNat < ys.length by omega), e]
  rfl
theorem mid_same (f : Int → Int) (ys : List Int) (j : Int) (h0 : 0 ≤ j) (h1 : j < (ys.length : Int)) (hf : f (rd ys j) = rd ys j) : (ys.take j.toNat).map f ++ ys.drop j.toNat = (ys.take (j + 1).toNat).map f ++ ys.drop (j + 1).toNat := by
  have e : rd ys j = ys[j.toNat]'(by omega) := by unfold rd; rw [List.getD_eq_getElem?_getD, List.getElem?_eq_getElem (by omega)]; rfl
  rw [show (j + 1).toNat = j.toNat + 1 from by omega, List.take_succ_eq_append_getElem (by omega), List.map_append, List.append_assoc, List.drop_eq_getElem_cons (show j.toNat < ys.length by omega)]
  rw [e] at hf
  simp [hf]
set_option maxHeartbeats 4000000 in
set_option maxRecDepth 100000 in
theorem space_commit.calls (gp : Nat) (left : Int) (us : List Int) (log : List S140) (F : List Asn) (w0 w : World) (h : SL w0 w (spA gp us left log :: F)) (hp : 0 < us.length) (hm : us.length ≤ 4096) (hl0 : -100000000000 ≤ left) (hl1 : left ≤ 100000000000) (hlog : log.length < 1000000000) :
    Calls Try.prog 115 #[.pointer (some ⟨gp, 0, none⟩)] w fun e w' => e = .returned (.tuple #[]) ∧ SL w0 w' (spA gp (sp_commit us left log).us (sp_commit us left log).left (sp_commit us left log).log :: F) := by
  have hug := Try.underlying143
  have hur := Try.underlying79
  obtain ⟨uv, lv, h1⟩ := spA_open h
  obtain ⟨go, co, rfl⟩ := h1.form 1 rfl hp
  have hruns := runs_SL h1 0 1 rfl rfl hp hm
  clear h h1
  have HT : Aside0 (sp_commit us left log = ⟨⟨0, 0, 0⟩, (sp_free (sp_runs 3 us (us.length + 1) 0 (-1) []) us left log).1.map (fun u => if u = 2 then 3 else u), (sp_free (sp_runs 3 us (us.length + 1) 0 (-1) []) us left log).2.1, (sp_free (sp_runs 3 us (us.length + 1) 0 (-1) []) us left log).2.2⟩) := ⟨rfl⟩
  obtain ⟨hrs, hll⟩ := sp_runs_bd 3 us (us.length + 1) 0 (-1) [] (by omega) (by omega) (by omega) (fun r hr => by cases hr)
  generalize sp_runs 3 us (us.length + 1) 0 (-1) [] = l at hruns HT hrs hll
  have HR := Aside0.mk hrs
  simp only [List.length_nil, Nat.zero_add] at hll
  clear hrs
  go_enter Try.func115, Try.ntmps115
  go_wp2_with (go_at_call 69; refine hruns.mono ?_; rintro e w2 ⟨v0_, rfl, h2⟩; obtain ⟨A2_, c2_, e2_⟩ := h2.slice 0 rfl; subst e2_; have HS := Aside0.mk h2; clear h2 hruns)
  go_loopg [9] l.length (fun kq v9 wr => ∃ (i : Int) (ys : List Int) (n : Int) (lg : List S140) (lv : Value), v9 = .int .i64 i ∧ 0 ≤ i ∧ i + kq = (l.length : Int) ∧ ys.length = us.length ∧ -100000000000 ≤ n ∧ n ≤ 100000000000 + 4096 * i ∧ (lg.length : Int) ≤ log.length + i ∧ Aside0 (sp_free (l.drop i.toNat) ys n lg = sp_free l us left log) ∧ Aside0 (SL w0 wr (rowA k79 79 (.slice A2_ l.length c2_) l :: blkA gp #[.slice (some ⟨go, 0, none⟩) us.length co, .int .i64 n, lv] 143 :: rowA (Kd.int .u8) 5 (.slice (some ⟨go, 0, none⟩) us.length co) ys :: rowA k140 140 lv lg :: F)))
  case atStart => exact ⟨0, us, left, log, lv, rfl, by omega, by omega, rfl, hl0, by omega, by omega, ⟨by simp⟩, by repeat (first | exact HS | exact Aside0.mk (by repeat (first | (with_reducible first | exact HS.out | apply Sep.SL.drewN | apply Sep.SL.drew | apply Sep.SL.alloc) | exact HS.out)))⟩
  case round =>
    clear HS
    obtain ⟨i, ys, n, lg, lv, rfl, hi0, hik, hyl, hn0, hn1, hlg, HI, HS⟩ := hrel
    cases gk with
    | zero =>
      have hit : decide (i < (l.length : Int)) = false := decide_eq_false (by omega)
      have HI2 := HI.out
      rw [List.drop_eq_nil_of_le (by omega), sp_free] at HI2
      have HT2 := HT.out
      rw [← HI2] at HT2
      have HT := Aside0.mk HT2
      clear HI2 HT2 HI
      have HS := Aside0.mk HS.out.drop
      have hz := HS.out.c0 0 rfl
      go_upto_region 8 with (fail)
      clear hz
      have ho : ys.length ≤ 4096 := by omega
      rw [← hyl] at HS hm ⊢
      clear hyl hp hll hn0 hn1 hlg hi0 hik hit
      go_loopg [45] ys.length (fun kq v45 wq => ∃ (j : Int), v45 = .int .i64 j ∧ 0 ≤ j ∧ j + kq = (ys.length : Int) ∧ Aside0 (SL w0 wq (blkA gp #[.slice (some ⟨go, 0, none⟩) ys.length co, .int .i64 n, lv] 143 :: rowA (Kd.int .u8) 5 (.slice (some ⟨go, 0, none⟩) ys.length co) ((ys.take j.toNat).map (fun u => if u = 2 then 3 else u) ++ ys.drop j.toNat) :: rowA k140 140 lv lg :: F)))
      case atStart => exact ⟨0, rfl, by omega, by omega, by simpa using HS⟩
      case round =>
        clear HS
        obtain ⟨j, rfl, hj0, hjk, HS⟩ := hrel
        rename_i gk2 _ _
        have hj1 : (ys.length : Int) ≤ 4096 := by omega
        have hzl : ((ys.take j.toNat).map (fun u => if u = 2 then 3 else u) ++ ys.drop j.toNat).length = ys.length := by rw [List.length_append, List.length_map, List.length_take, List.length_drop]; omega
        have hz := HS.out.c0 0 rfl
        cases gk with
        | zero =>
          have hit : decide (j < (ys.length : Int)) = false := decide_eq_false (by omega)
          rw [List.take_of_length_le (by omega), List.drop_eq_nil_of_le (by omega), List.append_nil] at HS
          clear hzl
          go_wp2_with (fail)
          first | go_end0 | ((try simp only [Exit.inBlock, Exit.then]); refine bodyPost_ret (results_none rfl _ _ _) rfl ?_)
          rw [HT.out]
          exact ⟨rfl, spA_close HS.out⟩
        | succ g2 =>
          have hit : decide (j < (ys.length : Int)) = true := decide_eq_true (by omega)
          have q8 : j < (ys.length : Int) := by omega
          obtain ⟨hx, hxf⟩ := HS.out.int 1 rfl j hj0 (by rw [hzl]; exact q8)
          rw [mid_get _ ys j hj0 q8] at hx
          clear hzl
          have p8 := eq_true hj0
          have hgo := World.block_lt_of_cell? _ _ hx
          have hw1_ : wrap64 (j + 1) = j + 1 := by unfold wrap64; omega
          by_cases hu : rd ys j = 2
          · have hub : (rd ys j == 2) = true := by simp [hu]
            have hub2 : (rd ys j != 2) = false := by simp [hu]
            have HM := Aside0.mk (mid_set (fun u => if u = 2 then 3 else u) ys j hj0 q8)
            have HU := Aside0.mk hu
            clear hu
            replace q8 := eq_true q8
            go_wp2_with (fail)
            have HS := Aside0.mk (HS.out.intPut 1 rfl j 3)
            clear hx hxf hz
            generalize World.setCell _ _ _ = w12 at HS ⊢
            go_roundg g2
            case measure => omega
            case rel => exact ⟨j + 1, by first | rfl | (simp; done) | (simp [*]; done), by omega, by omega, by have hm_ := HM.out; rw [if_pos HU.out] at hm_; rw [← hm_]; exact HS⟩
          · have hub : (rd ys j == 2) = false := by simp [hu]
            have hub2 : (rd ys j != 2) = true := by simp [hu]
            have HM := Aside0.mk (mid_same (fun u => if u = 2 then 3 else u) ys j hj0 q8 (if_neg hu))
            clear hu
            replace q8 := eq_true q8
            go_wp2_with (fail)
            go_roundg g2
            case measure => omega
            case rel => exact ⟨j + 1, by first | rfl | (simp; done) | (simp [*]; done), by omega, by omega, by rw [← HM.out]; exact Aside0.mk (by repeat (first | (with_reducible first | exact HS.out | apply Sep.SL.drewN | apply Sep.SL.drew | apply Sep.SL.alloc) | exact HS.out))⟩
    | succ g1 =>
      have hit : decide (i < (l.length : Int)) = true := decide_eq_true (by omega)
      have q8 : i < (l.length : Int) := by omega
      obtain ⟨ad, he, hx0, hx1⟩ := at_T79 (HS.out.C 0 rfl) i hi0 q8
      subst he
      have p8 := eq_true hi0
      obtain ⟨hd1, hd2⟩ := rd_drop z79 l i hi0 q8
      obtain ⟨b0, b1, b2⟩ := HR.out _ hd2
      have HI2 := HI.out
      rw [hd1, sp_free] at HI2
      clear hd1 hd2
      change 0 ≤ (rd_T79 l i).f0 at b0
      change (rd_T79 l i).f0 ≤ (rd_T79 l i).f1 at b1
      change (rd_T79 l i).f1 ≤ _ at b2
      change sp_free _ (sp_set 0 ((rd_T79 l i).f1 - (rd_T79 l i).f0).toNat ys (rd_T79 l i).f0) (n + ((rd_T79 l i).f1 - (rd_T79 l i).f0)) (lg ++ [⟨true, rd_T79 l i⟩]) = _ at HI2
      have HI := Aside0.mk HI2
      clear HI2
      generalize rd_T79 l i = x at HI hx0 hx1 b0 b1 b2
      replace q8 := eq_true q8
      go_upto_region 3 with ((with_reducible refine gate_dst (N := 3) rfl ?_); refine box_event ?hg (N := 3) ?hd (cs := #[.int .i64 0, .int .i64 0]) (t := 79) ?hr ?_; (case hd => exact rfl); (case hg => exact rfl); (case hr => first | (go_simp; done) | (go_simp; rfl)); intro gr hgb_ w6 hbox_ hb_; have n1_ := Aside0.mk (Sep.SL.newBlk (by repeat (first | (with_reducible first | exact HS.out | apply Sep.SL.drewN | apply Sep.SL.drew | apply Sep.SL.alloc) | exact HS.out)) hb_ hgb_ hbox_); clear HS hgb_ hbox_ hb_; have HS := n1_; clear n1_; have hz3 := HS.out.c0 0 rfl; have hz4 := HS.out.c1 0 rfl)
      have HS := Aside0.mk ((HS.out.put 0 rfl 0 (.int .i64 x.f0)).put 0 rfl 1 (.int .i64 x.f1))
      clear hz3 hz4 hx0 hx1
      generalize World.setCell _ _ _ = w7 at HS ⊢
      have hz3 := HS.out.c0 0 rfl
      have hz4 := HS.out.c1 0 rfl
      have hset := set_SL HS.out 2 3 rfl rfl x.f0 x.f1 0 b0 b1 (by omega) (by omega)
      go_upto_region 4 with (go_at_call 111; refine hset.mono ?_; rintro e w9 ⟨rfl, hS9⟩)
      have HS := Aside0.mk hS9
      clear hz3 hz4 hset hS9
      have hz3 := HS.out.c0 0 rfl
      have hz4 := HS.out.c1 0 rfl
      have hz5 := HS.out.c1 2 rfl
      have hw1_ : wrap64 (x.f1 - x.f0) = x.f1 - x.f0 := by unfold wrap64; omega
      have hw2_ : wrap64 (n + (x.f1 - x.f0)) = n + (x.f1 - x.f0) := by unfold wrap64; omega
      have hw3_ : wrap64 (i + 1) = i + 1 := by unfold wrap64; omega
      go_still_tail 12, (by kernel_rfl)
      change wpList _ _ _ _ _ w9.drew
      go_upto_region 5 with (fail)
      have HS := Aside0.mk (HS.out.put 2 rfl 1 (.int .i64 (n + (x.f1 - x.f0)))).drew
      clear hz3 hz4 hz5
      generalize World.drew _ = w10 at HS ⊢
      have hz1 := HS.out.c0 0 rfl
      have hz2 := HS.out.c1 0 rfl
      have hz3 := HS.out.c2 2 rfl
      go_region_law ((first | with_reducible apply Sep.append_row_step (d := k140) (t := 63) (e := 140) (s := .tmp 32) (x := .tmp 35) (p := (⟨true, x⟩ : S140)) (cs := [.bool true, .int .i64 x.f0, .int .i64 x.f1]) | with_reducible apply Sep.append_row_step_drew (d := k140) (t := 63) (e := 140) (s := .tmp 32) (x := .tmp 35) (p := (⟨true, x⟩ : S140)) (cs := [.bool true, .int .i64 x.f0, .int .i64 x.f1])); (case hSL => exact (Sep.SL.plain (Sep.SL.front (by repeat (first | (with_reducible first | exact HS.out | apply Sep.SL.drewN | apply Sep.SL.drew | apply Sep.SL.alloc) | exact HS.out)) 4 rfl) _ _ (fun _ _ => k140_mkM _ _ _ _)).swap); (case hgd => exact rfl); (case ho => exact rfl); (case ht => exact Try.underlying63); (case hinfo => exact info140); (case hz => exact rfl); (case hs0 => decide); (case hb0 => omega); (case hs => exact rfl); (case hx => exact rfl); (case hl => omega); intro v1_ w1_ hs_; have n1_ := Aside0.mk hs_; clear HS hs_; have HS := n1_; clear n1_; obtain ⟨a1_, c1_, e1_⟩ := Sep.SL.slice HS.out 0 rfl; rw [List.length_append, List.length_singleton] at e1_; subst e1_; clear hz3; have hz3 := HS.out.c2 3 rfl)
      all_goals
        have HS := Aside0.mk (HS.out.put 3 rfl 2 (.slice a1_ (lg.length + 1) c1_))
        clear hz1 hz2 hz3
        generalize World.setCell _ _ _ = w12 at HS ⊢
        go_wp2_with (fail)
        go_roundg g1
        case measure => omega
        case rel => exact ⟨i + 1, sp_set 0 (x.f1 - x.f0).toNat ys x.f0, n + (x.f1 - x.f0), lg ++ [(⟨true, x⟩ : S140)], .slice a1_ (lg.length + 1) c1_, by first | rfl | (simp; done) | (simp [*]; done), by omega, by omega, by rw [sp_set_length]; exact hyl, by omega, by omega, by rw [List.length_append, List.length_singleton]; omega, HI, Aside0.mk ((Sep.SL.front (Sep.SL.front (Sep.SL.front (Sep.SL.front (Sep.SL.drop (Sep.SL.front HS.out 1 rfl)) 0 rfl) 3 rfl) 3 rfl) 3 rfl))⟩
theorem take_SL (gp : Nat) (left count : Int) (us : List Int) (log : List S140) (F : List Asn) (w0 w : World) (h : SL w0 w (spA gp us left log :: F)) (hp : 0 < us.length) (hm : us.length ≤ 4096) (hl0 : -100000000000 ≤ left) (hl1 : left ≤ 100000000000) (hlog : log.length < 1000000000) :
    Calls Try.prog 113 #[.pointer (some ⟨gp, 0, none⟩), .int .i64 count] w fun e w' => e = .returned (.agg #[.int .i64 (sp_take us left log count).found.f0, .int .i64 (sp_take us left log count).found.f1, .int .i64 0]) ∧ SL w0 w' (spA gp (sp_take us left log count).us (sp_take us left log count).left (sp_take us left log count).log :: F) := by
  by_cases hc : count < 1 ∨ count > (us.length : Int)
  · obtain ⟨S, hA, _, hS⟩ := h.open1
    refine (space_take.range gp S left count us log w0 w h.1 hA hp hm hc).mono ?_
    rintro e w' ⟨rfl, h1, h2, h3⟩
    have e : sp_take us left log count = ⟨⟨2, 0, 0⟩, us, left, log⟩ := by unfold sp_take; rw [if_pos hc]
    rw [e]
    exact ⟨rfl, hS w' (spA gp us left log) h2 h3 (Asn.mono (spA gp us left log) (fun k hk => Or.inl hk) h1)⟩
  · exact space_take.scan gp left count us log F w0 w h hp hm (by omega) (by omega) hl0 hl1 hlog
theorem give_SL (gp : Nat) (left : Int) (d : S145) (us : List Int) (log : List S140) (F : List Asn) (w0 w : World) (h : SL w0 w (spA gp us left log :: F)) (hp : 0 < us.length) (hm : us.length ≤ 4096) :
    Calls Try.prog 114 #[.pointer (some ⟨gp, 0, none⟩), .agg #[.int .i64 d.f0, .int .i64 d.f1, .int .i64 d.f2]] w fun e w' => e = .returned (.int .i64 (sp_give us d).1) ∧ SL w0 w' (spA gp (sp_give us d).2 left log :: F) := by
  obtain ⟨S, hA, _, hS⟩ := h.open1
  refine (space_give.calls gp S left d us log w0 w h.1 hA hp hm).mono ?_
  rintro e w' ⟨rfl, h1, h2, h3⟩
  exact ⟨rfl, hS w' (spA gp (sp_give us d).2 left log) h2 h3 (Asn.mono (spA gp (sp_give us d).2 left log) (fun k hk => Or.inl hk) h1)⟩
set_option maxHeartbeats 4000000 in
set_option maxRecDepth 100000 in
theorem space_do.calls (gp : Nat) (left : Int) (d : S145) (us : List Int) (log : List S140) (F : List Asn) (w0 w : World) (h : SL w0 w (spA gp us left log :: F)) (hp : 0 < us.length) (hm : us.length ≤ 4096) (hl0 : -100000000000 ≤ left) (hl1 : left ≤ 100000000000) (hlog : log.length < 1000000000) :
    Calls Try.prog 75 #[.pointer (some ⟨gp, 0, none⟩), .agg #[.int .i64 d.f0, .int .i64 d.f1, .int .i64 d.f2]] w fun e w' => e = .returned (.agg #[.int .i64 (sp_do us left log d).found.f0, .int .i64 (sp_do us left log d).found.f1, .int .i64 0]) ∧ SL w0 w' (spA gp (sp_do us left log d).us (sp_do us left log d).left (sp_do us left log d).log :: F) := by
  have hud := Try.underlying145
  have huf := Try.underlying147
  have HS := Aside0.mk h
  clear h
  go_enter Try.func75, Try.ntmps75
  go_upto_region 1 with (first | ((with_reducible refine gate_dst (N := 3) rfl ?_); refine box_event ?hg (N := 3) ?hd (cs := #[.int .i64 d.f0, .int .i64 d.f1, .int .i64 d.f2]) (t := 145) ?hr ?_; (case hd => exact rfl); (case hg => exact rfl); (case hr => first | (go_simp; done) | (go_simp; rfl)); intro gd hgb_ w1 hbox_ hb_; have n1_ := Aside0.mk (Sep.SL.newBlk (by repeat (first | (with_reducible first | exact HS.out | apply Sep.SL.drewN | apply Sep.SL.drew | apply Sep.SL.alloc) | exact HS.out)) hb_ hgb_ hbox_); clear HS hgb_ hbox_ hb_; have HS := n1_; clear n1_) | ((with_reducible refine gate_dst (N := 4) rfl ?_); refine box_event ?hg (N := 4) ?hd (cs := #[.int .i64 0, .int .i64 0, .int .i64 0]) (t := 147) ?hr ?_; (case hd => exact rfl); (case hg => exact rfl); (case hr => first | (go_simp; done) | (go_simp; rfl)); intro gb hgb_ w2 hbox_ hb_; have n1_ := Aside0.mk (Sep.SL.newBlk (by repeat (first | (with_reducible first | exact HS.out | apply Sep.SL.drewN | apply Sep.SL.drew | apply Sep.SL.alloc) | exact HS.out)) hb_ hgb_ hbox_); clear HS hgb_ hbox_ hb_; have HS := n1_; clear n1_))
  have hz0 := HS.out.c0 1 rfl
  have hz1 := HS.out.c1 1 rfl
  have hz2 := HS.out.c2 1 rfl
  by_cases k1 : d.f0 = 1
  · have hb_ : (d.f0 == 1) = true := by simp [k1]
    have e : Aside0 (sp_do us left log d = sp_take us left log d.f2) := ⟨by unfold sp_do; rw [if_pos k1]⟩
    have hcall := take_SL gp left d.f2 us log (blkA gb #[.int .i64 0, .int .i64 0, .int .i64 0] 147 :: F) w0 w2 ((Sep.SL.front (Sep.SL.front (Sep.SL.drop (Sep.SL.front HS.out 1 rfl)) 0 rfl) 1 rfl)) hp hm hl0 hl1 hlog
    clear k1
    go_wp2_with (go_at_call 113; refine hcall.mono ?_; rintro e w3 ⟨rfl, h3⟩; have HS3 := Aside0.mk h3; clear hcall h3; have hy0 := HS3.out.c0 1 rfl; have hy1 := HS3.out.c1 1 rfl; have hy2 := HS3.out.c2 1 rfl)
    have HS := Aside0.mk (((HS3.out.put 1 rfl 0 (.int .i64 (sp_take us left log d.f2).found.f0)).put 1 rfl 1 (.int .i64 (sp_take us left log d.f2).found.f1)).put 1 rfl 2 (.int .i64 0))
    clear hz0 hz1 hz2 hy0 hy1 hy2 HS3
    generalize World.setCell _ _ _ = w13 at HS ⊢
    have r0 := HS.out.c0 1 rfl
    have r1 := HS.out.c1 1 rfl
    have r2 := HS.out.c2 1 rfl
    refine bodyPost_ret (v := .agg #[.int .i64 (sp_take us left log d.f2).found.f0, .int .i64 (sp_take us left log d.f2).found.f1, .int .i64 0]) ?_ rfl ?_
    · simp [results, Try.results75, go_sem, r0, r1, r2]
    · rw [e.out]
      exact ⟨rfl, (Sep.SL.front (Sep.SL.drop (Sep.SL.front HS.out 1 rfl)) 0 rfl)⟩
  · have hb_ : (d.f0 == 1) = false := by simp [k1]
    by_cases k2 : d.f0 = 2
    · have hb2_ : (d.f0 == 2) = true := by simp [k2]
      have e : Aside0 (sp_do us left log d = ⟨⟨(sp_give us d).1, 0, 0⟩, (sp_give us d).2, left, log⟩) := ⟨by unfold sp_do; rw [if_neg k1, if_pos k2]⟩
      have hcall := give_SL gp left d us log (blkA gb #[.int .i64 0, .int .i64 0, .int .i64 0] 147 :: F) w0 w2 ((Sep.SL.front (Sep.SL.front (Sep.SL.drop (Sep.SL.front HS.out 1 rfl)) 0 rfl) 1 rfl)) hp hm
      clear k1 k2
      go_wp2_with (go_at_call 114; refine hcall.mono ?_; rintro e w3 ⟨rfl, h3⟩; have HS3 := Aside0.mk h3; clear hcall h3; have hy0 := HS3.out.c0 1 rfl; have hy1 := HS3.out.c1 1 rfl; have hy2 := HS3.out.c2 1 rfl)
      have HS := Aside0.mk (((HS3.out.put 1 rfl 0 (.int .i64 (sp_give us d).1)).put 1 rfl 1 (.int .i64 0)).put 1 rfl 2 (.int .i64 0))
      clear hz0 hz1 hz2 hy0 hy1 hy2 HS3
      generalize World.setCell _ _ _ = w13 at HS ⊢
      have r0 := HS.out.c0 1 rfl
      have r1 := HS.out.c1 1 rfl
      have r2 := HS.out.c2 1 rfl
      refine bodyPost_ret (v := .agg #[.int .i64 (sp_give us d).1, .int .i64 0, .int .i64 0]) ?_ rfl ?_
      · simp [results, Try.results75, go_sem, r0, r1, r2]
      · rw [e.out]
        exact ⟨rfl, (Sep.SL.front (Sep.SL.drop (Sep.SL.front HS.out 1 rfl)) 0 rfl)⟩
    · have hb2_ : (d.f0 == 2) = false := by simp [k2]
      by_cases k3 : d.f0 = 3
      · have hb3_ : (d.f0 == 3) = true := by simp [k3]
        have e : Aside0 (sp_do us left log d = sp_commit us left log) := ⟨by unfold sp_do; rw [if_neg k1, if_neg k2, if_pos k3]⟩
        have hcall := space_commit.calls gp left us log (blkA gb #[.int .i64 0, .int .i64 0, .int .i64 0] 147 :: F) w0 w2 ((Sep.SL.front (Sep.SL.front (Sep.SL.drop (Sep.SL.front HS.out 1 rfl)) 0 rfl) 1 rfl)) hp hm hl0 hl1 (by omega)
        clear k1 k2 k3
        go_wp2_with (go_at_call 115; refine hcall.mono ?_; rintro e w3 ⟨rfl, h3⟩; have HS3 := Aside0.mk h3; clear hcall h3; have hy0 := HS3.out.c0 1 rfl; have hy1 := HS3.out.c1 1 rfl; have hy2 := HS3.out.c2 1 rfl)
        have HS := Aside0.mk (((HS3.out.put 1 rfl 0 (.int .i64 0)).put 1 rfl 1 (.int .i64 0)).put 1 rfl 2 (.int .i64 0))
        clear hz0 hz1 hz2 hy0 hy1 hy2 HS3
        generalize World.setCell _ _ _ = w13 at HS ⊢
        have r0 := HS.out.c0 1 rfl
        have r1 := HS.out.c1 1 rfl
        have r2 := HS.out.c2 1 rfl
        refine bodyPost_ret (v := .agg #[.int .i64 0, .int .i64 0, .int .i64 0]) ?_ rfl ?_
        · simp [results, Try.results75, go_sem, r0, r1, r2]
        · rw [e.out]
          exact ⟨rfl, (Sep.SL.front (Sep.SL.drop (Sep.SL.front HS.out 1 rfl)) 0 rfl)⟩
      · have hb3_ : (d.f0 == 3) = false := by simp [k3]
        have e : Aside0 (sp_do us left log d = ⟨⟨3, 0, 0⟩, us, left, log⟩) := ⟨by unfold sp_do; rw [if_neg k1, if_neg k2, if_neg k3]⟩
        clear k1 k2 k3
        have hy0 := HS.out.c0 0 rfl
        have hy1 := HS.out.c1 0 rfl
        have hy2 := HS.out.c2 0 rfl
        go_wp2_with (fail)
        have HS := Aside0.mk (((HS.out.put 0 rfl 0 (.int .i64 3)).put 0 rfl 1 (.int .i64 0)).put 0 rfl 2 (.int .i64 0))
        clear hz0 hz1 hz2 hy0 hy1 hy2
        generalize World.setCell _ _ _ = w13 at HS ⊢
        have r0 := HS.out.c0 0 rfl
        have r1 := HS.out.c1 0 rfl
        have r2 := HS.out.c2 0 rfl
        refine bodyPost_ret (v := .agg #[.int .i64 3, .int .i64 0, .int .i64 0]) ?_ rfl ?_
        · simp [results, Try.results75, go_sem, r0, r1, r2]
        · rw [e.out]
          exact ⟨rfl, (Sep.SL.front (Sep.SL.drop (Sep.SL.front (Sep.SL.drop (Sep.SL.front HS.out 1 rfl)) 0 rfl)) 0 rfl)⟩
theorem info5 : (Try.prog.info? 5).map (fun i => (i.zero, i.size, i.bytes)) = some (some (.int .u8 0), 1, 1) := by kernel_rfl
theorem sp_free_bd (m : Int) (hm : 0 ≤ m) : ∀ (rs : List S79) (us : List Int) (left : Int) (log : List S140), (∀ r ∈ rs, 0 ≤ r.f0 ∧ r.f0 ≤ r.f1 ∧ r.f1 ≤ m) → (sp_free rs us left log).1.length = us.length ∧ left ≤ (sp_free rs us left log).2.1 ∧ (sp_free rs us left log).2.1 ≤ left + m * (rs.length : Int) ∧ (sp_free rs us left log).2.2.length = log.length + rs.length
  | [], us, left, log, _ => by simp [sp_free]
  | r :: rs, us, left, log, h => by
    obtain ⟨h0, h1, h2⟩ := h r List.mem_cons_self
    obtain ⟨a, b, c, d⟩ := sp_free_bd m hm rs (sp_set 0 (r.f1 - r.f0).toNat us r.f0) (left + (r.f1 - r.f0)) (log ++ [⟨true, r⟩]) (fun x hx => h x (List.mem_cons_of_mem _ hx))
    rw [sp_free]
    refine ⟨by rw [a, sp_set_length], by omega, ?_, by rw [d]; simp; omega⟩
    rw [List.length_cons, show ((rs.length + 1 : Nat) : Int) = (rs.length : Int) + 1 from rfl, Int.mul_add, Int.mul_one]
    omega
theorem spA_left {w0 w : World} {l : List Asn} {gp : Nat} {us : List Int} {left : Int} {log : List S140} (h : SL w0 w l) (k : Nat) (hk : l[k]? = some (spA gp us left log)) : w.cell? ⟨gp, 1, none⟩ = some (.int .i64 left) ∧ gp < w.heap.size ∧ ∃ lv, w.cell? ⟨gp, 2, none⟩ = some lv := by
  obtain ⟨S, ⟨_, _, uv, lv, h2, _⟩, _⟩ := h.nth k hk
  exact ⟨(blk_cell h2 1).trans rfl, blk_lt h2, lv, (blk_cell h2 2).trans rfl⟩
theorem sp_do_bd (us : List Int) (left : Int) (log : List S140) (d : S145) (hm : us.length ≤ 4096) : (sp_do us left log d).us.length = us.length ∧ left - 4096 ≤ (sp_do us left log d).left ∧ (sp_do us left log d).left ≤ left + 17000000 ∧ (sp_do us left log d).log.length ≤ log.length + 4097 := by
  unfold sp_do
  split
  · unfold sp_take
    split
    · simp; omega
    · split
      · simp; omega
      · rename_i h _ _ _
        refine ⟨sp_set_length _ _ _ _, ?_, ?_, ?_⟩
        · show left - 4096 ≤ left - d.f2; omega
        · show left - d.f2 ≤ _; omega
        · simp
  · split
    · refine ⟨?_, by show left - 4096 ≤ left; omega, by show left ≤ _; omega, by show log.length ≤ _; omega⟩
      show (sp_give us d).2.length = us.length
      unfold sp_give
      split
      · rfl
      · split
        · exact sp_set_length _ _ _ _
        · rfl
    · split
      · obtain ⟨hrs, hll⟩ := sp_runs_bd 3 us (us.length + 1) 0 (-1) [] (by omega) (by omega) (by omega) (fun r hr => by cases hr)
        obtain ⟨a, b, c, e⟩ := sp_free_bd 4096 (by omega) (sp_runs 3 us (us.length + 1) 0 (-1) []) us left log (fun r hr => by have := hrs r hr; omega)
        simp only [List.length_nil] at hll
        unfold sp_commit
        refine ⟨by simp [a], by show _ ≤ (sp_free _ us left log).2.1; omega, by show (sp_free _ us left log).2.1 ≤ _; omega, by show (sp_free _ us left log).2.2.length ≤ _; omega⟩
      · simp; omega
def space_Play.f (_k : Nat) (a0 : Int) (l1 : List S145) : Option (List S147 × List S140 × Int) :=
  if a0 < 1 ∨ a0 > 4096 then some ([], [], 2) else if (l1.length : Int) > 300 then some ([], [], 1) else some ((sp_play l1 (List.replicate a0.toNat 0) a0 [] []).1, (sp_play l1 (List.replicate a0.toNat 0) a0 [] []).2, 0)
theorem space_Play.mono : ∀ a0 a1 k, LeO (space_Play.f k a0 a1) (space_Play.f (k + 1) a0 a1) := fun _ _ _ => LeO.refl _
set_option maxHeartbeats 4000000 in
set_option maxRecDepth 100000 in
theorem space_Play.fine (a0 : Int) (A1 : Option Addr) (c1 : Nat) (l1 : List S145) (w : World) (hr1 : Kd.C k145 w A1 l1.length l1) (hc1 : l1.length ≤ c1) (h0 : 1 ≤ a0) (h1 : a0 ≤ 4096) (hl : l1.length ≤ 300) :
    Calls Try.prog 38 #[.int .i64 a0, .slice A1 l1.length c1] w fun e w' => ∃ v0_ v1_ : Value, e = .returned (.tuple #[v0_, v1_, .int .i64 0]) ∧ Kd.R k147 147 w' w.heap.size (fun _ => True) v0_ (sp_play l1 (List.replicate a0.toNat 0) a0 [] []).1 ∧ Kd.R k140 140 w' w.heap.size (fun _ => True) v1_ (sp_play l1 (List.replicate a0.toNat 0) a0 [] []).2 ∧ Below w.heap.size w w' := by
  have hug := Try.underlying143
  have hud := Try.underlying145
  have huf := Try.underlying147
  have hsz : space_sized.f a0 = some true := by
    unfold space_sized.f
    rw [if_pos (by omega), decide_eq_true (by omega)]
  have hll : ((l1.length : Int) > 300) = False := by simp; omega
  have hll2 : decide (300 < (l1.length : Int)) = false := decide_eq_false (by omega)
  have HS := Aside0.mk (SL.start w)
  have HC := Aside0.mk hr1
  clear hr1
  go_enter Try.func38, Try.ntmps38
  go_upto_region 6 with (first | (go_at_call 74; refine (space_sized.calls _ _ _ hsz).mono ?_; rintro e w1 ⟨rfl, ⟨nd, rfl⟩⟩) | ((with_reducible refine gate_dst (N := 19) rfl ?_); (with_reducible apply Sep.make_row (d := (Kd.int .u8)) (t := 28) (e := 5) (n := a0) (z0 := 0)); (case hSL => exact (by repeat (first | (with_reducible first | exact HS.out | apply Sep.SL.drewN | apply Sep.SL.drew | apply Sep.SL.alloc) | exact HS.out))); (case hgd => exact rfl); (case hd => exact rfl); (case ho => exact rfl); (case hx => exact rfl); (case hy => exact rfl); (case ht => exact Try.underlying28); (case hinfo => exact info5); (case hz => exact rfl); (case hs0 => decide); (case hb0 => omega); (case hzero => exact (fun _ _ => rfl)); (case h0 => omega); (case hl => omega); intro v1_ w1_ hs_; have n1_ := Aside0.mk hs_; clear HS hs_; have HS := n1_; clear n1_; obtain ⟨go, co, e1_⟩ := Sep.SL.form HS.out 0 rfl (by simp; omega); rw [List.length_replicate] at e1_; subst e1_) | ((with_reducible refine gate_dst (N := 22) rfl ?_); refine box_event ?hg (N := 22) ?hd (cs := #[.slice (some ⟨go, 0, none⟩) a0.toNat co, .int .i64 a0, .slice none 0 0]) (t := 143) ?hr ?_; (case hd => exact rfl); (case hg => exact rfl); (case hr => first | (go_simp; done) | (go_simp; rfl)); intro gp hgb_ w3 hbox_ hb_; have n1_ := Aside0.mk (Sep.SL.newBlk (by repeat (first | (with_reducible first | exact HS.out | apply Sep.SL.drewN | apply Sep.SL.drew | apply Sep.SL.alloc) | exact HS.out)) hb_ hgb_ hbox_); clear HS hgb_ hbox_ hb_; have HS := n1_; clear n1_))
  have HS := Aside0.mk (spA_close (Sep.SL.front (Sep.SL.front (Sep.SL.front (SL.nilRow HS.out k140 140) 0 rfl) 2 rfl) 2 rfl))
  clear hsz hll hll2
  go_upto_region 8 with (fail)
  have HS := Aside0.mk (SL.nilRow HS.out k147 147)
  have hn0 : (0 : Int) ≤ a0 := by omega
  go_loopg [8, 25] l1.length (fun kq v8 v25 wr => ∃ (i : Int) (us : List Int) (left : Int) (log : List S140) (out : List S147), v25 = .int .i64 i ∧ 0 ≤ i ∧ i + kq = (l1.length : Int) ∧ us.length = a0.toNat ∧ -4096 * i ≤ left ∧ left ≤ 4096 + 17000000 * i ∧ (log.length : Int) ≤ 4097 * i ∧ (out.length : Int) = i ∧ Aside0 (sp_play (l1.drop i.toNat) us left log out = sp_play l1 (List.replicate a0.toNat 0) a0 [] []) ∧ Aside0 (SL w wr [rowA k147 147 v8 out, spA gp us left log]))
  case atStart => exact ⟨0, List.replicate a0.toNat 0, a0, [], [], rfl, by omega, by omega, by simp, by omega, by omega, by simp, by simp, ⟨by simp⟩, by repeat (first | exact HS | exact Aside0.mk (by repeat (first | (with_reducible first | exact HS.out | apply Sep.SL.drewN | apply Sep.SL.drew | apply Sep.SL.alloc) | exact HS.out)))⟩
  case round =>
    clear HS
    obtain ⟨i, us, left, log, out, rfl, hi0, hik, hul, hn1, hn2, hlg, hol, HI, HS⟩ := hrel
    cases gk with
    | zero =>
      have hit : decide (i < (l1.length : Int)) = false := decide_eq_false (by omega)
      obtain ⟨uv, lv, h1⟩ := spA_open (Sep.SL.front (Sep.SL.front HS.out 0 rfl) 1 rfl)
      have HS := Aside0.mk h1
      clear h1
      have hz3 := HS.out.c2 0 rfl
      have HI2 := HI.out
      rw [List.drop_eq_nil_of_le (by omega), sp_play] at HI2
      have HI := Aside0.mk HI2
      clear HI2
      go_upto_region 14 with (fail)
      go_quiet (fail)
      go_wp2_with (fail)
      refine bodyPost_ret (v := .tuple #[u8, lv, .int .i64 0]) ?_ rfl ?_
      · simp [results, Try.results38, go_sem]
      · rw [← HI.out]
        exact ⟨_, _, rfl, Kd.R_drewN (HS.out.row 3 rfl) nq, Kd.R_drewN (HS.out.row 2 rfl) nq, (HS.out.drewN nq).1⟩
    | succ g1 =>
      have hit : decide (i < (l1.length : Int)) = true := decide_eq_true (by omega)
      have q8 : i < (l1.length : Int) := by omega
      obtain ⟨ad, he, hx0, hx1, hx2⟩ := at_T145 HC.out i hi0 q8
      subst he
      have hx0 := (HS.out.1.cell (World.block_lt_of_cell? w _ hx0)).trans hx0
      have hx1 := (HS.out.1.cell (World.block_lt_of_cell? w _ hx1)).trans hx1
      have hx2 := (HS.out.1.cell (World.block_lt_of_cell? w _ hx2)).trans hx2
      have p8 := eq_true hi0
      have HI2 := HI.out
      rw [(rd_drop z145 l1 i hi0 q8).1, sp_play] at HI2
      change sp_play (l1.drop (i + 1).toNat) (sp_do us left log (rd_T145 l1 i)).us (sp_do us left log (rd_T145 l1 i)).left (sp_do us left log (rd_T145 l1 i)).log (out ++ [⟨(sp_do us left log (rd_T145 l1 i)).found.f0, (sp_do us left log (rd_T145 l1 i)).found.f1, (sp_do us left log (rd_T145 l1 i)).left⟩]) = _ at HI2
      have HI := Aside0.mk HI2
      clear HI2
      generalize rd_T145 l1 i = d at HI hx0 hx1 hx2
      replace q8 := eq_true q8
      go_upto_region 10 with ((with_reducible refine gate_dst (N := 10) rfl ?_); refine box_event ?hg (N := 10) ?hd (cs := #[.int .i64 0, .int .i64 0, .int .i64 0]) (t := 145) ?hr ?_; (case hd => exact rfl); (case hg => exact rfl); (case hr => first | (go_simp; done) | (go_simp; rfl)); intro gd hgb_ w6 hbox_ hb_; have n1_ := Aside0.mk (Sep.SL.newBlk (by repeat (first | (with_reducible first | exact HS.out | apply Sep.SL.drewN | apply Sep.SL.drew | apply Sep.SL.alloc) | exact HS.out)) hb_ hgb_ hbox_); clear HS hgb_ hbox_ hb_; have HS := n1_; clear n1_; have hz3 := HS.out.c0 0 rfl; have hz4 := HS.out.c1 0 rfl; have hz5 := HS.out.c2 0 rfl)
      have HS := Aside0.mk (((HS.out.put 0 rfl 0 (.int .i64 d.f0)).put 0 rfl 1 (.int .i64 d.f1)).put 0 rfl 2 (.int .i64 d.f2))
      clear hz3 hz4 hz5 hx0 hx1 hx2
      generalize World.setCell _ _ _ = w7 at HS ⊢
      have hz3 := HS.out.c0 0 rfl
      have hz4 := HS.out.c1 0 rfl
      have hz5 := HS.out.c2 0 rfl
      have hb_ := sp_do_bd us left log d (by omega)
      have hcall := space_do.calls gp left d us log _ w w7 ((Sep.SL.front (Sep.SL.front (Sep.SL.front HS.out 1 rfl) 1 rfl) 2 rfl)) (by omega) (by omega) (by omega) (by omega) (by omega)
      generalize sp_do us left log d = s at HI hcall hb_
      obtain ⟨b1, b2, b3, b4⟩ := hb_
      go_upto_region 11 with (first | (go_at_call 75; refine hcall.mono ?_; rintro e w8 ⟨rfl, h8⟩; have HS := Aside0.mk h8; clear hcall h8 hz3 hz4 hz5) | ((with_reducible refine gate_dst (N := 11) rfl ?_); refine box_event ?hg (N := 11) ?hd (cs := #[.int .i64 0, .int .i64 0, .int .i64 0]) (t := 147) ?hr ?_; (case hd => exact rfl); (case hg => exact rfl); (case hr => first | (go_simp; done) | (go_simp; rfl)); intro gb hgb_ w9 hbox_ hb_; have n1_ := Aside0.mk (Sep.SL.newBlk (by repeat (first | (with_reducible first | exact HS.out | apply Sep.SL.drewN | apply Sep.SL.drew | apply Sep.SL.alloc) | exact HS.out)) hb_ hgb_ hbox_); clear HS hgb_ hbox_ hb_; have HS := n1_; clear n1_; have hz3 := HS.out.c0 0 rfl; have hz4 := HS.out.c1 0 rfl; have hz5 := HS.out.c2 0 rfl))
      have HS := Aside0.mk (((HS.out.put 0 rfl 0 (.int .i64 s.found.f0)).put 0 rfl 1 (.int .i64 s.found.f1)).put 0 rfl 2 (.int .i64 0))
      clear hz3 hz4 hz5
      generalize World.setCell _ _ _ = w10 at HS ⊢
      obtain ⟨hz6, hz7, _⟩ := spA_left HS.out 1 rfl
      have hz5 := HS.out.c2 0 rfl
      go_upto_region 12 with (fail)
      have HS := Aside0.mk (HS.out.put 0 rfl 2 (.int .i64 s.left))
      clear hz5 hz6 hz7
      generalize World.setCell _ _ _ = w11 at HS ⊢
      have hz3 := HS.out.c0 0 rfl
      have hz4 := HS.out.c1 0 rfl
      have hz5 := HS.out.c2 0 rfl
      have hw3_ : wrap64 (i + 1) = i + 1 := by unfold wrap64; omega
      go_wp2_with ((with_reducible refine gate_builtin (b := .append) (xs := #[.tmp 37, .tmp 39]) rfl ?_); at_builtin; (first | with_reducible apply Sep.append_row (d := k147) (t := 73) (e := 147) (s := .tmp 37) (x := .tmp 39) (p := (⟨s.found.f0, s.found.f1, s.left⟩ : S147)) (cs := [.int .i64 s.found.f0, .int .i64 s.found.f1, .int .i64 s.left])); (case hSL => exact (Sep.SL.plain (Sep.SL.front (by repeat (first | (with_reducible first | exact HS.out | apply Sep.SL.drewN | apply Sep.SL.drew | apply Sep.SL.alloc) | exact HS.out)) 3 rfl) _ _ (fun _ _ => k147_mkM _ _ _ _)).swap); (case hgd => exact rfl); (case ho => exact rfl); (case ht => exact Try.underlying73); (case hinfo => exact info147); (case hz => exact rfl); (case hs0 => decide); (case hb0 => omega); (case hs => exact rfl); (case hx => exact rfl); (case hl => omega); intro v1_ w1_ hs_; have n1_ := Aside0.mk hs_; clear HS hs_; have HS := n1_; clear n1_; obtain ⟨a1_, c1_, e1_⟩ := Sep.SL.slice HS.out 0 rfl; rw [List.length_append, List.length_singleton] at e1_; subst e1_; clear hz3 hz4 hz5)
      go_roundg g1
      case measure => omega
      case rel => exact ⟨i + 1, s.us, s.left, s.log, out ++ [(⟨s.found.f0, s.found.f1, s.left⟩ : S147)], by first | rfl | (simp; done) | (simp [*]; done), by omega, by omega, by omega, by omega, by omega, by omega, by rw [List.length_append, List.length_singleton]; omega, HI, Aside0.mk (Sep.SL.front (Sep.SL.front (Sep.SL.drop (Sep.SL.front (Sep.SL.drop (Sep.SL.front (by repeat (first | (with_reducible first | exact HS.out | apply Sep.SL.drewN | apply Sep.SL.drew | apply Sep.SL.alloc) | exact HS.out)) 3 rfl)) 1 rfl)) 1 rfl) 1 rfl)⟩
theorem space_Play.calls (k : Nat) (a0 : Int) (A1 : Option Addr) (c1 : Nat) (l1 : List (S145)) (r1 : List (S147)) (r2 : List (S140)) (r3 : Int) (w : World) (hr1 : Kd.C k145 w A1 l1.length l1) (hc1 : l1.length ≤ c1) (h : space_Play.f k a0 l1 = some (r1, r2, r3)) :
    Calls Try.prog 38 #[.int .i64 a0, .slice A1 l1.length c1] w fun e w' => ∃ v0_ v1_ : Value, e = .returned (.tuple #[v0_, v1_, .int .i64 r3]) ∧ Kd.R k147 147 w' w.heap.size (fun _ => True) v0_ r1 ∧ Kd.R k140 140 w' w.heap.size (fun _ => True) v1_ r2 ∧ Below w.heap.size w w' := by
  unfold space_Play.f at h
  by_cases h0 : a0 < 1 ∨ a0 > 4096
  · rw [if_pos h0] at h
    simp only [Option.some.injEq, Prod.mk.injEq] at h
    obtain ⟨rfl, rfl, rfl⟩ := h
    have hsz : space_sized.f a0 = some false := by
      unfold space_sized.f
      split
      · rw [decide_eq_false (by omega)]
      · rfl
    have HB := Aside0.mk (Below.refl w.heap.size w)
    clear h0
    go_enter Try.func38, Try.ntmps38
    go_wp2_with (go_at_call 74; refine (space_sized.calls _ _ _ hsz).mono ?_; rintro e w1 ⟨rfl, ⟨nd, rfl⟩⟩)
    refine bodyPost_ret (v := .tuple #[.slice none 0 0, .slice none 0 0, .int .i64 2]) ?_ rfl ?_
    · simp [results, Try.results38, go_sem]
    · exact ⟨_, _, rfl, Kd.R_nil _ _ _ _ _, Kd.R_nil _ _ _ _ _, (by repeat (first | (with_reducible first | exact HB.out | apply below_alloc | apply pw_below_drewN | apply below_drew1) | exact HB.out))⟩
  · rw [if_neg h0] at h
    by_cases hl : (l1.length : Int) > 300
    · rw [if_pos hl] at h
      simp only [Option.some.injEq, Prod.mk.injEq] at h
      obtain ⟨rfl, rfl, rfl⟩ := h
      have hsz : space_sized.f a0 = some true := by
        unfold space_sized.f
        rw [if_pos (by omega), decide_eq_true (by omega)]
      have HB := Aside0.mk (Below.refl w.heap.size w)
      have hb2 : decide (300 < (l1.length : Int)) = true := decide_eq_true (by omega)
      clear h0
      go_enter Try.func38, Try.ntmps38
      go_wp2_with (go_at_call 74; refine (space_sized.calls _ _ _ hsz).mono ?_; rintro e w1 ⟨rfl, ⟨nd, rfl⟩⟩)
      refine bodyPost_ret (v := .tuple #[.slice none 0 0, .slice none 0 0, .int .i64 1]) ?_ rfl ?_
      · simp [results, Try.results38, go_sem]
      · exact ⟨_, _, rfl, Kd.R_nil _ _ _ _ _, Kd.R_nil _ _ _ _ _, (by repeat (first | (with_reducible first | exact HB.out | apply below_alloc | apply pw_below_drewN | apply below_drew1) | exact HB.out))⟩
    · rw [if_neg hl] at h
      simp only [Option.some.injEq, Prod.mk.injEq] at h
      obtain ⟨rfl, rfl, rfl⟩ := h
      exact space_Play.fine a0 A1 c1 l1 w hr1 hc1 (by omega) (by omega) (by omega)
theorem sp_stop2 : True := trivial
theorem sp_stop : True := trivial

/-! ### quicksetref_spaceNow_stretches: function 72 -/
def quicksetref_spaceNow_stretches.l0 : Nat → Int → List (S79) → List Int → Int → Int → Option ((List (S79)))
  | 0, _, _, _, _, _ => none
  | k + 1, x1, x5, x8, x9, x10 => if x10 < x9 then (if 0 ≤ x10 then (if x10 < (x8.length : Int) then (if (rd x8 x10) = x1 then (if (x5.length : Int) > 0 then (if 0 ≤ (wrap64 ((x5.length : Int) - 1)) then (if (wrap64 ((x5.length : Int) - 1)) < (x5.length : Int) then (if ((rd_T79 x5 (wrap64 ((x5.length : Int) - 1))).f1) = x10 then (quicksetref_spaceNow_stretches.l0 k x1 (x5.set ((wrap64 ((x5.length : Int) - 1)) : Int).toNat (⟨(rd_T79 x5 (wrap64 ((x5.length : Int) - 1))).f0, wrap64 (((rd_T79 x5 (wrap64 ((x5.length : Int) - 1))).f1) + 1)⟩ : S79)) x8 x9 (wrap64 (x10 + 1))) else (if x5.length < 8796093022208 then (quicksetref_spaceNow_stretches.l0 k x1 (x5 ++ [(⟨x10, wrap64 (x10 + 1)⟩ : S79)]) x8 x9 (wrap64 (x10 + 1))) else (none))) else (none)) else (none)) else (if x5.length < 8796093022208 then (quicksetref_spaceNow_stretches.l0 k x1 (x5 ++ [(⟨x10, wrap64 (x10 + 1)⟩ : S79)]) x8 x9 (wrap64 (x10 + 1))) else (none))) else (quicksetref_spaceNow_stretches.l0 k x1 x5 x8 x9 (wrap64 (x10 + 1)))) else (none)) else (none)) else (some x5)
def quicksetref_spaceNow_stretches.f (k : Nat) (l0 : List Int) (a1 : Int) : Option ((List (S79))) := quicksetref_spaceNow_stretches.l0 k a1 ([] : List (S79)) l0 (l0.length : Int) 0
theorem quicksetref_spaceNow_stretches.mono_l : ∀ k, (∀ y0 y1 y2 y3 y4, LeO (quicksetref_spaceNow_stretches.l0 k y0 y1 y2 y3 y4) (quicksetref_spaceNow_stretches.l0 (k + 1) y0 y1 y2 y3 y4))
  | 0 => fun _ _ _ _ _ r h => by simp [quicksetref_spaceNow_stretches.l0] at h
  | k + 1 => by
    have ih0 := quicksetref_spaceNow_stretches.mono_l k
    · intro y0 y1 y2 y3 y4
      unfold quicksetref_spaceNow_stretches.l0
      repeat' first
      | (with_reducible exact ih0 _ _ _ _ _)
      | (with_reducible exact LeO.refl _)
      | (with_reducible exact LeO.none _)
      | (with_reducible refine LeO.ite ?_ ?_)
      | (with_reducible refine LeO.bind ?_ (fun _ => ?_))
      | exact ih0 _ _ _ _ _
      | exact LeO.none _
      | refine LeO.ite ?_ ?_
      | refine LeO.bind ?_ (fun _ => ?_)
theorem quicksetref_spaceNow_stretches.mono : ∀ a0 a1 k, LeO (quicksetref_spaceNow_stretches.f k a0 a1) (quicksetref_spaceNow_stretches.f (k + 1) a0 a1) := by
  intro a0 a1 k
  have ih0 := quicksetref_spaceNow_stretches.mono_l k
  unfold quicksetref_spaceNow_stretches.f
  repeat' first
      | (with_reducible exact ih0 _ _ _ _ _)
      | (with_reducible exact LeO.refl _)
      | (with_reducible exact LeO.none _)
      | (with_reducible refine LeO.ite ?_ ?_)
      | (with_reducible refine LeO.bind ?_ (fun _ => ?_))
      | exact ih0 _ _ _ _ _
      | exact LeO.none _
      | refine LeO.ite ?_ ?_
      | refine LeO.bind ?_ (fun _ => ?_)
set_option maxHeartbeats 8000000 in
set_option maxRecDepth 100000 in
theorem quicksetref_spaceNow_stretches.calls (k : Nat) (A0 : Option Addr) (c0 : Nat) (l0 : List Int) (a1 : Int) (r : List (S79)) (w : World) (hr0 : Kd.C (Kd.int .i64) w A0 l0.length l0) (hc0 : l0.length ≤ c0) (h : quicksetref_spaceNow_stretches.f k l0 a1 = some r) :
    Calls Try.prog 72 #[.slice A0 l0.length c0, .int .i64 a1] w fun e w' => ∃ v0_ : Value, e = .returned (v0_) ∧ Kd.R k79 79 w' w.heap.size (fun _ => True) v0_ r ∧ Below w.heap.size w w' := by
  have hu79 := Try.underlying79
  have HR0 := Aside0.mk hr0
  have HC0 := Aside0.mk hc0
  clear hr0 hc0
  have HB := Aside0.mk (Below.refl w.heap.size w)
  have H : (quicksetref_spaceNow_stretches.l0 k a1 ([] : List (S79)) l0 (l0.length : Int) 0) = some r := h
  clear h
  have H' := Aside0.mk H
  clear H
  go_enter Try.func72, Try.ntmps72
  go_wp2
  go_loopg [5, 10] k (fun kq v5 v10 w' => ∃ (x5_1 : List (S79)) (x10_1 : Int), v10 = .int .i64 x10_1 ∧ Aside0 (quicksetref_spaceNow_stretches.l0 kq a1 x5_1 l0 (l0.length : Int) x10_1 = some r) ∧ Aside0 (kq ≤ k) ∧ Aside0 (Kd.R k79 79 w' w.heap.size (fun _ => True) v5 x5_1) ∧ Aside0 (Below w.heap.size w w'))
  case atStart => exact ⟨(([] : List (S79))), (0), (by first | rfl | (simp; done) | (simp [*]; done)), H', ⟨Nat.le_refl _⟩, ⟨by first | exact Kd.R_nil _ _ _ _ _ | exact Kd.N_nil _ _ _ _ _ | exact Kd.V_nil _ _ _ _ _ | exact Kd.Q_nil _ _ _ _ _ | exact Kd.S_nil _ _ _ _ _⟩, ⟨by repeat (first | (with_reducible first | exact HB.out | apply below_alloc | apply pw_below_drewN | apply below_drew1) | exact HB.out)⟩⟩
  case round =>
    clear H'
    try clear p2
    obtain ⟨x5_1, x10_1, rfl, HA, HK1, HO_5, HB⟩ := hrel
    cases gk with
    | zero => exact absurd HA.out (by simp [quicksetref_spaceNow_stretches.l0])
    | succ k1 =>
      have H := HA.out
      clear HA
      simp only [quicksetref_spaceNow_stretches.l0] at H
      by_cases c3 : x10_1 < (l0.length : Int)
      · rw [if_pos c3] at H
        have c3b0 : decide (x10_1 < (l0.length : Int)) = true := decide_eq_true c3
        clear c3
        by_cases c4 : 0 ≤ x10_1
        · rw [if_pos c4] at H
          have c4b0 : decide (0 ≤ x10_1) = true := decide_eq_true c4
          clear c4
          by_cases c5 : x10_1 < (l0.length : Int)
          · rw [if_pos c5] at H
            have c5b0 : decide (x10_1 < (l0.length : Int)) = true := decide_eq_true c5
            clear c5
            by_cases c6 : (rd l0 x10_1) = a1
            · rw [if_pos c6] at H
              have c6b0 : ((rd l0 x10_1) == a1) = true := beq_iff_eq.mpr c6
              have c6b1 : ((rd l0 x10_1) != a1) = false := bne_eq_false_iff_eq.mpr c6
              clear c6
              by_cases c7 : (x5_1.length : Int) > 0
              · rw [if_pos c7] at H
                have c7b0 : decide (0 < (x5_1.length : Int)) = true := decide_eq_true c7
                have c7b1 : decide (0 < x5_1.length) = true := decide_eq_true (by omega)
                clear c7
                obtain ⟨ji8, hji8⟩ : ∃ j_ : Int, (wrap64 ((x5_1.length : Int) - 1)) = j_ := ⟨_, rfl⟩
                replace H : (if 0 ≤ (ji8) then (if (ji8) < (x5_1.length : Int) then (if ((rd_T79 x5_1 (ji8)).f1) = x10_1 then (quicksetref_spaceNow_stretches.l0 k1 a1 (x5_1.set ((ji8) : Int).toNat (⟨(rd_T79 x5_1 (ji8)).f0, wrap64 (((rd_T79 x5_1 (ji8)).f1) + 1)⟩ : S79)) l0 (l0.length : Int) (wrap64 (x10_1 + 1))) else (if x5_1.length < 8796093022208 then (quicksetref_spaceNow_stretches.l0 k1 a1 (x5_1 ++ [(⟨x10_1, wrap64 (x10_1 + 1)⟩ : S79)]) l0 (l0.length : Int) (wrap64 (x10_1 + 1))) else (none))) else (none)) else (none)) = some r := by first | (rw [hji8] at H; exact H) | (simp only [hji8] at H ⊢; exact H)
                have hji8w : (IntKind.i64.wrap ((x5_1.length : Int) - 1)) = ji8 := (i64_w _).trans hji8
                by_cases c9 : 0 ≤ (ji8)
                · rw [if_pos c9] at H
                  have c9b0 : decide (0 ≤ (ji8)) = true := decide_eq_true c9
                  clear c9
                  by_cases c10 : (ji8) < (x5_1.length : Int)
                  · rw [if_pos c10] at H
                    have c10b0 : decide ((ji8) < (x5_1.length : Int)) = true := decide_eq_true c10
                    clear c10
                    by_cases c11 : ((rd_T79 x5_1 (ji8)).f1) = x10_1
                    · rw [if_pos c11] at H
                      have c11b0 : (((rd_T79 x5_1 (ji8)).f1) == x10_1) = true := beq_iff_eq.mpr c11
                      have c11b1 : (((rd_T79 x5_1 (ji8)).f1) != x10_1) = false := bne_eq_false_iff_eq.mpr c11
                      clear c11
                      obtain ⟨y124, hy124⟩ : ∃ y_ : List (S79), y_ = (x5_1.set ((ji8) : Int).toNat (⟨(rd_T79 x5_1 (ji8)).f0, wrap64 (((rd_T79 x5_1 (ji8)).f1) + 1)⟩ : S79)) := ⟨_, rfl⟩
                      replace H : (quicksetref_spaceNow_stretches.l0 k1 a1 y124 l0 (l0.length : Int) (wrap64 (x10_1 + 1))) = some r := by first | (rw [hy124]; with_reducible exact H) | (have H2_ := (Option.bind_some _ _).symm.trans H; rw [hy124]; with_reducible exact H2_) | (have H2_ := (Option.bind_some _ _).symm.trans H; with_reducible exact H2_) | with_reducible exact H | (rw [hy124]; exact H) | exact H
                      have Ny124 := Aside0.mk hy124
                      clear hy124
                      have H' := Aside0.mk H
                      clear H
                      have p121 : 0 ≤ (x10_1 : Int) := of_decide_eq_true (by first | (with_reducible assumption) | assumption)
                      have q121 : x10_1 < (l0.length : Int) := of_decide_eq_true (by first | (with_reducible assumption) | assumption)
                      obtain ⟨ad121, e121, hx121_0⟩ := Kd.at_int HR0.out x10_1 p121 q121
                      cases e121
                      replace hx121_0 := (HB.out.cell (World.block_lt_of_cell? w _ hx121_0)).trans hx121_0
                      replace p121 := eq_true p121
                      replace q121 := eq_true q121
                      obtain ⟨Ao13, co13, eo13⟩ := Kd.R_slice HO_5.out
                      subst eo13
                      have p122 : 0 ≤ ((ji8) : Int) := of_decide_eq_true (by first | (with_reducible assumption) | assumption)
                      have q122 : (ji8) < (x5_1.length : Int) := of_decide_eq_true (by first | (with_reducible assumption) | assumption)
                      obtain ⟨ad122, e122, hx122_0, hx122_1⟩ := at_T79 (Kd.R_reads' HO_5.out).2.2 (ji8) p122 q122
                      cases e122
                      replace p122 := eq_true p122
                      replace q122 := eq_true q122
                      have p123 : 0 ≤ ((ji8) : Int) := of_decide_eq_true (by first | (with_reducible assumption) | assumption)
                      have q123 : (ji8) < (x5_1.length : Int) := of_decide_eq_true (by first | (with_reducible assumption) | assumption)
                      obtain ⟨ad123, e123, hx123_0, hx123_1⟩ := at_T79 (Kd.R_reads' HO_5.out).2.2 (ji8) p123 q123
                      obtain rfl : ad122 = ad123 := (by injection e123)
                      replace p123 := eq_true p123
                      replace q123 := eq_true q123
                      have p12 : 0 ≤ ((ji8) : Int) := of_decide_eq_true (by first | (with_reducible assumption) | assumption)
                      have q12 : ((ji8) : Int) < ((x5_1.length : Int) : Int) := of_decide_eq_true (by first | (with_reducible assumption) | assumption)
                      obtain ⟨go12, co12, eo12, gb12, gl12, cl12, HG12⟩ := Kd.R_form HO_5.out (by omega)
                      (first | cases eo12 | (injection eo12 with ea_ en_ ec_; (first | subst ea_ | (injection ea_ with ea_; subst ea_)); subst ec_; clear en_))
                      have GB12 := Aside0.mk gb12
                      have GG12 := Aside0.mk HG12
                      clear gb12 gl12 HG12
                      (first | simp only [add_plain] at hx122_0 | skip)
                      (first | simp only [add_plain] at hx122_1 | skip)
                      (first | simp only [add_plain] at hx123_0 | skip)
                      (first | simp only [add_plain] at hx123_1 | skip)
                      obtain ⟨ce12, hcl12, hM12, hcc12, hfr12⟩ := Kd.R_elem HO_5.out z79 ((ji8) : Int) p12 q12
                      obtain rfl := k79_openM hM12
                      have hx12_0 : wr.cell? ⟨go12, ((ji8) : Int).toNat * 2, none⟩ = some (.int .i64 ((rd_T79 x5_1 (ji8)).f0)) := hcc12 0 _ rfl
                      have hx12_1 : wr.cell? ⟨go12, ((ji8) : Int).toNat * 2 + 1, none⟩ = some (.int .i64 ((rd_T79 x5_1 (ji8)).f1)) := hcc12 1 _ rfl
                      have hf12_0 : wr.frozen? ⟨go12, ((ji8) : Int).toNat * 2, none⟩ = false := hfr12 0
                      have hf12_1 : wr.frozen? ⟨go12, ((ji8) : Int).toNat * 2 + 1, none⟩ = false := hfr12 1
                      clear hcl12 hcc12 hfr12; (try clear hM12)
                      replace p12 := eq_true p12
                      replace q12 := eq_true q12
                      have HX14 := Aside0.mk (show Kd.R k79 79 wr w.heap.size (fun _ => True) (.slice (some ⟨go12, 0, none⟩) x5_1.length co13) x5_1 from (by (with_reducible repeat (first | apply Kd.R_alloc | apply Kd.R_drewN | apply Kd.R_drew)); exact HO_5.out))
                      obtain ⟨ce14, hcl14, hM14, hcc14, hfr14⟩ := Kd.R_elem HX14.out z79 ((ji8) : Int) (of_decide_eq_true (by first | (with_reducible assumption) | assumption)) (by have h_ : ((ji8) : Int) < ((x5_1.length : Int) : Int) := of_decide_eq_true (by first | (with_reducible assumption) | assumption); first | exact h_ | (have e_ := (Kd.R_reads' HO_5.out).1; omega) | simpa using h_)
                      obtain rfl := k79_openM hM14
                      have HP14 := Kd.R_seg HX14.out ((ji8) : Int) (of_decide_eq_true (by first | (with_reducible assumption) | assumption)) (by have h_ : ((ji8) : Int) < ((x5_1.length : Int) : Int) := of_decide_eq_true (by first | (with_reducible assumption) | assumption); first | exact h_ | (have e_ := (Kd.R_reads' HO_5.out).1; omega) | simpa using h_) (seg := [.int .i64 (wrap64 (((rd_T79 x5_1 (ji8)).f1) + 1))]) (j := 1) hcl14 hcc14 (show 2 ≤ 2 from by decide) (x' := (⟨(rd_T79 x5_1 (ji8)).f0, wrap64 (((rd_T79 x5_1 (ji8)).f1) + 1)⟩ : S79)) (k79_mkM _ _ _ (⟨(rd_T79 x5_1 (ji8)).f0, wrap64 (((rd_T79 x5_1 (ji8)).f1) + 1)⟩ : S79) ) (fun _ hk => hk)
                      have hx14_1 := hcc14 1 _ rfl
                      (try simp only [show (k79).sz = 2 from rfl, Nat.mul_one, Nat.add_zero] at hx14_1)
                      have hf14_1 := hfr14 1
                      (try simp only [show (k79).sz = 2 from rfl, Nat.mul_one, Nat.add_zero] at hf14_1)
                      clear hcl14 hcc14 hfr14; (try clear hM14)
                      go_wp2_with (first | ((with_reducible refine gate_store (t := 3) (p := 41) rfl ?_); refine store_event (t := 3) (p := 41) (v := ?vo_w15) (w1 := (wr.setCell ⟨go12, ((ji8) : Int).toNat * 2 + 1, none⟩ (.int .i64 (wrap64 (((rd_T79 x5_1 (ji8)).f1) + 1))))) ?hg ?ho ?hn ?hr ?_; (case ho => rfl); (case hg => rfl); (case hn => rfl); (case hr => first | (go_simp; done) | (go_simp; rfl)); intro w15 hw; have hg : wr.grownBy w15 (some go12) := (by rw [hw]; exact HP14.2); have hp_ : Kd.R k79 79 w15 w.heap.size (fun _ => True) (.slice (some ⟨go12, 0, none⟩) x5_1.length co13) y124 := (by rw [hw, Ny124.out]; exact HP14.1); clear HP14; have n0_ := Aside0.mk (hp_); have n1_ := Aside0.mk ((by rw [hw]; exact below_set (HB.out) GB12.out : Below w.heap.size w w15)); clear HO_5; clear HB; have HO_5 := n0_; have HB := n1_; clear n0_ n1_; clear hg hw hp_))
                      go_roundg k1
                      case measure => have := HK1.out; omega
                      case rel => exact ⟨(y124), (wrap64 (x10_1 + 1)), (by first | rfl | (simp; done) | (simp [*]; done)), H', ⟨by have := HK1.out; omega⟩, ⟨by (with_reducible repeat (first | apply Kd.R_alloc | apply Kd.R_drewN | apply Kd.R_drew)); exact HO_5.out⟩, ⟨by repeat (first | (with_reducible first | exact HB.out | apply below_alloc | apply pw_below_drewN | apply below_drew1) | exact HB.out)⟩⟩
                    · rw [if_neg c11] at H
                      have c11b0 : (((rd_T79 x5_1 (ji8)).f1) == x10_1) = false := beq_eq_false_iff_ne.mpr c11
                      have c11b1 : (((rd_T79 x5_1 (ji8)).f1) != x10_1) = true := bne_iff_ne.mpr c11
                      by_cases c16 : x5_1.length < 8796093022208
                      · rw [if_pos c16] at H
                        have LMc16 := Aside0.mk c16
                        clear c16
                        obtain ⟨y125, hy125⟩ : ∃ y_ : List (S79), y_ = (x5_1 ++ [(⟨x10_1, wrap64 (x10_1 + 1)⟩ : S79)]) := ⟨_, rfl⟩
                        replace H : (quicksetref_spaceNow_stretches.l0 k1 a1 y125 l0 (l0.length : Int) (wrap64 (x10_1 + 1))) = some r := by first | (rw [hy125]; with_reducible exact H) | (have H2_ := (Option.bind_some _ _).symm.trans H; rw [hy125]; with_reducible exact H2_) | (have H2_ := (Option.bind_some _ _).symm.trans H; with_reducible exact H2_) | with_reducible exact H | (rw [hy125]; exact H) | exact H
                        have Ny125 := Aside0.mk hy125
                        clear hy125
                        have H' := Aside0.mk H
                        clear H
                        have p121 : 0 ≤ (x10_1 : Int) := of_decide_eq_true (by first | (with_reducible assumption) | assumption)
                        have q121 : x10_1 < (l0.length : Int) := of_decide_eq_true (by first | (with_reducible assumption) | assumption)
                        obtain ⟨ad121, e121, hx121_0⟩ := Kd.at_int HR0.out x10_1 p121 q121
                        cases e121
                        replace hx121_0 := (HB.out.cell (World.block_lt_of_cell? w _ hx121_0)).trans hx121_0
                        replace p121 := eq_true p121
                        replace q121 := eq_true q121
                        obtain ⟨Ao17, co17, eo17⟩ := Kd.R_slice HO_5.out
                        subst eo17
                        have p122 : 0 ≤ ((ji8) : Int) := of_decide_eq_true (by first | (with_reducible assumption) | assumption)
                        have q122 : (ji8) < (x5_1.length : Int) := of_decide_eq_true (by first | (with_reducible assumption) | assumption)
                        obtain ⟨ad122, e122, hx122_0, hx122_1⟩ := at_T79 (Kd.R_reads' HO_5.out).2.2 (ji8) p122 q122
                        cases e122
                        replace p122 := eq_true p122
                        replace q122 := eq_true q122
                        go_wp2_with (first | ((with_reducible refine gate_builtin (b := .append) (xs := #[.tmp 42, .tmp 47]) rfl ?_); (try (refine gate_guard (by rfl) ?_; dsimp only)); at_builtin; refine Kd.R_append k79 (w0 := w) w.heap.size rfl (.tmp 42) (.tmp 47) 64 79 (.agg #[(.int .i64 0), (.int .i64 0)]) 16 rfl Try.underlying64 info79 rfl (by decide) (by omega) (.slice (some ad122) x5_1.length co17) x5_1 (⟨x10_1, wrap64 (x10_1 + 1)⟩ : S79) [.int .i64 x10_1, .int .i64 (wrap64 (x10_1 + 1))] (fun _ => True) (fun _ => False) rfl rfl ?aP (fun _ hk => hk.elim) ?aF ?aO ?aB ?aS ?aL ?_; (case aP => exact k79_mkM _ _ _ (⟨x10_1, wrap64 (x10_1 + 1)⟩ : S79)); (case aB => exact (by repeat (first | (with_reducible first | exact HB.out | apply below_alloc | apply pw_below_drewN | apply below_drew1) | exact HB.out))); (case aF => exact (fun _ _ => trivial)); (case aO => exact (by (with_reducible repeat (first | apply Kd.R_alloc | apply Kd.R_drewN | apply Kd.R_drew)); exact HO_5.out)); (case aS => exact (below_size (by repeat (first | (with_reducible first | exact HB.out | apply below_alloc | apply pw_below_drewN | apply below_drew1) | exact HB.out)))); (case aL => have := LMc16.out; omega); intro v126 w18 ho hb hg hat; rw [← Ny125.out] at ho; have n0_ := Aside0.mk (hb); have n1_ := Aside0.mk (ho); clear HB; clear HO_5; have HB := n0_; have HO127 := n1_; clear n0_ n1_; clear ho hb hg hat))
                        go_roundg k1
                        case measure => have := HK1.out; omega
                        case rel => exact ⟨(y125), (wrap64 (x10_1 + 1)), (by first | rfl | (simp; done) | (simp [*]; done)), H', ⟨by have := HK1.out; omega⟩, ⟨by (with_reducible repeat (first | apply Kd.R_alloc | apply Kd.R_drewN | apply Kd.R_drew)); exact HO127.out⟩, ⟨by repeat (first | (with_reducible first | exact HB.out | apply below_alloc | apply pw_below_drewN | apply below_drew1) | exact HB.out)⟩⟩
                      · rw [if_neg c16] at H
                        exact absurd H (by simp)
                  · rw [if_neg c10] at H
                    exact absurd H (by simp)
                · rw [if_neg c9] at H
                  exact absurd H (by simp)
              · rw [if_neg c7] at H
                have c7b0 : decide (0 < (x5_1.length : Int)) = false := decide_eq_false c7
                have c7b1 : decide (0 < x5_1.length) = false := decide_eq_false (by omega)
                clear c7
                by_cases c19 : x5_1.length < 8796093022208
                · rw [if_pos c19] at H
                  have LMc19 := Aside0.mk c19
                  clear c19
                  obtain ⟨y128, hy128⟩ : ∃ y_ : List (S79), y_ = (x5_1 ++ [(⟨x10_1, wrap64 (x10_1 + 1)⟩ : S79)]) := ⟨_, rfl⟩
                  replace H : (quicksetref_spaceNow_stretches.l0 k1 a1 y128 l0 (l0.length : Int) (wrap64 (x10_1 + 1))) = some r := by first | (rw [hy128]; with_reducible exact H) | (have H2_ := (Option.bind_some _ _).symm.trans H; rw [hy128]; with_reducible exact H2_) | (have H2_ := (Option.bind_some _ _).symm.trans H; with_reducible exact H2_) | with_reducible exact H | (rw [hy128]; exact H) | exact H
                  have Ny128 := Aside0.mk hy128
                  clear hy128
                  have H' := Aside0.mk H
                  clear H
                  have p121 : 0 ≤ (x10_1 : Int) := of_decide_eq_true (by first | (with_reducible assumption) | assumption)
                  have q121 : x10_1 < (l0.length : Int) := of_decide_eq_true (by first | (with_reducible assumption) | assumption)
                  obtain ⟨ad121, e121, hx121_0⟩ := Kd.at_int HR0.out x10_1 p121 q121
                  cases e121
                  replace hx121_0 := (HB.out.cell (World.block_lt_of_cell? w _ hx121_0)).trans hx121_0
                  replace p121 := eq_true p121
                  replace q121 := eq_true q121
                  obtain ⟨Ao20, co20, eo20⟩ := Kd.R_slice HO_5.out
                  subst eo20
                  go_wp2_with (first | ((with_reducible refine gate_builtin (b := .append) (xs := #[.tmp 42, .tmp 47]) rfl ?_); (try (refine gate_guard (by rfl) ?_; dsimp only)); at_builtin; refine Kd.R_append k79 (w0 := w) w.heap.size rfl (.tmp 42) (.tmp 47) 64 79 (.agg #[(.int .i64 0), (.int .i64 0)]) 16 rfl Try.underlying64 info79 rfl (by decide) (by omega) (.slice Ao20 x5_1.length co20) x5_1 (⟨x10_1, wrap64 (x10_1 + 1)⟩ : S79) [.int .i64 x10_1, .int .i64 (wrap64 (x10_1 + 1))] (fun _ => True) (fun _ => False) rfl rfl ?aP (fun _ hk => hk.elim) ?aF ?aO ?aB ?aS ?aL ?_; (case aP => exact k79_mkM _ _ _ (⟨x10_1, wrap64 (x10_1 + 1)⟩ : S79)); (case aB => exact (by repeat (first | (with_reducible first | exact HB.out | apply below_alloc | apply pw_below_drewN | apply below_drew1) | exact HB.out))); (case aF => exact (fun _ _ => trivial)); (case aO => exact (by (with_reducible repeat (first | apply Kd.R_alloc | apply Kd.R_drewN | apply Kd.R_drew)); exact HO_5.out)); (case aS => exact (below_size (by repeat (first | (with_reducible first | exact HB.out | apply below_alloc | apply pw_below_drewN | apply below_drew1) | exact HB.out)))); (case aL => have := LMc19.out; omega); intro v129 w21 ho hb hg hat; rw [← Ny128.out] at ho; have n0_ := Aside0.mk (hb); have n1_ := Aside0.mk (ho); clear HB; clear HO_5; have HB := n0_; have HO130 := n1_; clear n0_ n1_; clear ho hb hg hat))
                  go_roundg k1
                  case measure => have := HK1.out; omega
                  case rel => exact ⟨(y128), (wrap64 (x10_1 + 1)), (by first | rfl | (simp; done) | (simp [*]; done)), H', ⟨by have := HK1.out; omega⟩, ⟨by (with_reducible repeat (first | apply Kd.R_alloc | apply Kd.R_drewN | apply Kd.R_drew)); exact HO130.out⟩, ⟨by repeat (first | (with_reducible first | exact HB.out | apply below_alloc | apply pw_below_drewN | apply below_drew1) | exact HB.out)⟩⟩
                · rw [if_neg c19] at H
                  exact absurd H (by simp)
            · rw [if_neg c6] at H
              have c6b0 : ((rd l0 x10_1) == a1) = false := beq_eq_false_iff_ne.mpr c6
              have c6b1 : ((rd l0 x10_1) != a1) = true := bne_iff_ne.mpr c6
              have H' := Aside0.mk H
              clear H
              have p121 : 0 ≤ (x10_1 : Int) := of_decide_eq_true (by first | (with_reducible assumption) | assumption)
              have q121 : x10_1 < (l0.length : Int) := of_decide_eq_true (by first | (with_reducible assumption) | assumption)
              obtain ⟨ad121, e121, hx121_0⟩ := Kd.at_int HR0.out x10_1 p121 q121
              cases e121
              replace hx121_0 := (HB.out.cell (World.block_lt_of_cell? w _ hx121_0)).trans hx121_0
              replace p121 := eq_true p121
              replace q121 := eq_true q121
              go_wp2
              go_roundg k1
              case measure => have := HK1.out; omega
              case rel => exact ⟨(x5_1), (wrap64 (x10_1 + 1)), (by first | rfl | (simp; done) | (simp [*]; done)), H', ⟨by have := HK1.out; omega⟩, ⟨by (with_reducible repeat (first | apply Kd.R_alloc | apply Kd.R_drewN | apply Kd.R_drew)); exact HO_5.out⟩, ⟨by repeat (first | (with_reducible first | exact HB.out | apply below_alloc | apply pw_below_drewN | apply below_drew1) | exact HB.out)⟩⟩
          · rw [if_neg c5] at H
            exact absurd H (by simp)
        · rw [if_neg c4] at H
          exact absurd H (by simp)
      · rw [if_neg c3] at H
        have c3b0 : decide (x10_1 < (l0.length : Int)) = false := decide_eq_false c3
        clear c3
        obtain rfl := Option.some.inj H
        go_wp2
        go_ret
        exact ⟨_, by first | rfl | (simp [errW_none, errW_some] <;> rfl) | (simp [*, errW_none, errW_some] <;> rfl), by (with_reducible repeat (first | apply Kd.R_alloc | apply Kd.R_drewN | apply Kd.R_drew)); exact HO_5.out, by repeat (first | (with_reducible first | exact HB.out | apply below_alloc | apply pw_below_drewN | apply below_drew1) | exact HB.out)⟩

/-! ### quicksetref_spaceNow_put: function 76 -/
def quicksetref_spaceNow_put.l0 : Nat → List Int → Int → Int → Int → Option (List Int)
  | 0, _, _, _, _ => none
  | k + 1, x0, x2, x3, x8 => if x8 < x2 then (if 0 ≤ x8 then (if x8 < (x0.length : Int) then (quicksetref_spaceNow_put.l0 k (x0.set (x8 : Int).toNat x3) x2 x3 (wrap64 (x8 + 1))) else (none)) else (none)) else (some x0)
def quicksetref_spaceNow_put.f (k : Nat) (l0 : List Int) (a1 : Int) (a2 : Int) (a3 : Int) : Option (List Int) := quicksetref_spaceNow_put.l0 k l0 a2 a3 a1
theorem quicksetref_spaceNow_put.mono_l : ∀ k, (∀ y0 y1 y2 y3, LeO (quicksetref_spaceNow_put.l0 k y0 y1 y2 y3) (quicksetref_spaceNow_put.l0 (k + 1) y0 y1 y2 y3))
  | 0 => fun _ _ _ _ r h => by simp [quicksetref_spaceNow_put.l0] at h
  | k + 1 => by
    have ih0 := quicksetref_spaceNow_put.mono_l k
    · intro y0 y1 y2 y3
      unfold quicksetref_spaceNow_put.l0
      repeat' first
      | (with_reducible exact ih0 _ _ _ _)
      | (with_reducible exact LeO.refl _)
      | (with_reducible exact LeO.none _)
      | (with_reducible refine LeO.ite ?_ ?_)
      | (with_reducible refine LeO.bind ?_ (fun _ => ?_))
      | exact ih0 _ _ _ _
      | exact LeO.none _
      | refine LeO.ite ?_ ?_
      | refine LeO.bind ?_ (fun _ => ?_)
theorem quicksetref_spaceNow_put.mono : ∀ a0 a1 a2 a3 k, LeO (quicksetref_spaceNow_put.f k a0 a1 a2 a3) (quicksetref_spaceNow_put.f (k + 1) a0 a1 a2 a3) := by
  intro a0 a1 a2 a3 k
  have ih0 := quicksetref_spaceNow_put.mono_l k
  unfold quicksetref_spaceNow_put.f
  repeat' first
      | (with_reducible exact ih0 _ _ _ _)
      | (with_reducible exact LeO.refl _)
      | (with_reducible exact LeO.none _)
      | (with_reducible refine LeO.ite ?_ ?_)
      | (with_reducible refine LeO.bind ?_ (fun _ => ?_))
      | exact ih0 _ _ _ _
      | exact LeO.none _
      | refine LeO.ite ?_ ?_
      | refine LeO.bind ?_ (fun _ => ?_)
set_option maxHeartbeats 8000000 in
set_option maxRecDepth 100000 in
theorem quicksetref_spaceNow_put.calls (k : Nat) (P0_ : Nat → Prop) (u9000_ : Value) (l0 : List Int) (a1 : Int) (a2 : Int) (a3 : Int) (r : List Int) (w0 w : World) (hB : Below w0.heap.size w0 w) (ho0 : Kd.R (Kd.int .i64) 3 w w0.heap.size P0_ u9000_ l0) (h : quicksetref_spaceNow_put.f k l0 a1 a2 a3 = some r) :
    Calls Try.prog 76 #[u9000_, .int .i64 a1, .int .i64 a2, .int .i64 a3] w fun e w' => e = .returned (.tuple #[]) ∧ Kd.R (Kd.int .i64) 3 w' w0.heap.size (fun k_ => (P0_ k_ ∨ w.heap.size ≤ k_)) u9000_ r ∧ Below w0.heap.size w0 w' ∧ Kept w w' (fun k_ => P0_ k_) := by
  have HO0 := Aside0.mk (show Kd.R (Kd.int .i64) 3 w w0.heap.size (fun k_ => (P0_ k_ ∨ w.heap.size ≤ k_)) u9000_ l0 from Kd.R_mono ho0 (fun k_ hk => (.inl hk)))
  have HK := Aside0.mk (Kept.refl w (fun k_ => P0_ k_))
  have HW0 := Aside0.mk hB.size
  have HB := Aside0.mk hB
  clear hB
  have H : (quicksetref_spaceNow_put.l0 k l0 a2 a3 a1) = some r := h
  clear h
  have H' := Aside0.mk H
  clear H
  go_enter Try.func76, Try.ntmps76
  go_wp2
  go_loopg [8] k (fun kq v8 w' => ∃ (x0_1 : List Int) (x8_1 : Int), v8 = .int .i64 x8_1 ∧ Aside0 (quicksetref_spaceNow_put.l0 kq x0_1 a2 a3 x8_1 = some r) ∧ Aside0 (kq ≤ k) ∧ Aside0 (Kd.R (Kd.int .i64) 3 w' w0.heap.size (fun k_ => (P0_ k_ ∨ w.heap.size ≤ k_)) u9000_ x0_1) ∧ Aside0 (Kept w w' (fun k_ => P0_ k_)) ∧ Aside0 (Below w0.heap.size w0 w'))
  case atStart => exact ⟨(l0), (a1), (by first | rfl | (simp; done) | (simp [*]; done)), H', ⟨Nat.le_refl _⟩, ⟨by (with_reducible repeat (first | apply Kd.R_alloc | apply Kd.R_drewN | apply Kd.R_drew)); exact HO0.out⟩, ⟨by repeat (first | (with_reducible first | exact HK.out | apply Kept.alloc | apply Kept.drewN | apply Kept.drew) | exact HK.out)⟩, ⟨by repeat (first | (with_reducible first | exact HB.out | apply below_alloc | apply pw_below_drewN | apply below_drew1) | exact HB.out)⟩⟩
  case round =>
    clear H'
    try clear p2
    obtain ⟨x0_1, x8_1, rfl, HA, HK1, HO_0, HK, HB⟩ := hrel
    cases gk with
    | zero => exact absurd HA.out (by simp [quicksetref_spaceNow_put.l0])
    | succ k1 =>
      have H := HA.out
      clear HA
      simp only [quicksetref_spaceNow_put.l0] at H
      by_cases c5 : x8_1 < a2
      · rw [if_pos c5] at H
        have c5b0 : decide (x8_1 < a2) = true := decide_eq_true c5
        clear c5
        by_cases c6 : 0 ≤ x8_1
        · rw [if_pos c6] at H
          have c6b0 : decide (0 ≤ x8_1) = true := decide_eq_true c6
          clear c6
          by_cases c7 : x8_1 < (x0_1.length : Int)
          · rw [if_pos c7] at H
            have c7b0 : decide (x8_1 < (x0_1.length : Int)) = true := decide_eq_true c7
            clear c7
            obtain ⟨y131, hy131⟩ : ∃ y_ : List Int, y_ = (x0_1.set (x8_1 : Int).toNat a3) := ⟨_, rfl⟩
            replace H : (quicksetref_spaceNow_put.l0 k1 y131 a2 a3 (wrap64 (x8_1 + 1))) = some r := by first | (rw [hy131]; with_reducible exact H) | (have H2_ := (Option.bind_some _ _).symm.trans H; rw [hy131]; with_reducible exact H2_) | (have H2_ := (Option.bind_some _ _).symm.trans H; with_reducible exact H2_) | with_reducible exact H | (rw [hy131]; exact H) | exact H
            have Ny131 := Aside0.mk hy131
            clear hy131
            have H' := Aside0.mk H
            clear H
            have p8 : 0 ≤ (x8_1 : Int) := of_decide_eq_true (by first | (with_reducible assumption) | assumption)
            have q8 : (x8_1 : Int) < ((x0_1.length : Int) : Int) := of_decide_eq_true (by first | (with_reducible assumption) | assumption)
            obtain ⟨go8, co8, eo8, gb8, gl8, cl8, HG8⟩ := Kd.R_form HO_0.out (by omega)
            (first | cases eo8 | (injection eo8 with ea_ en_ ec_; (first | subst ea_ | (injection ea_ with ea_; subst ea_)); subst ec_; clear en_))
            have GB8 := Aside0.mk gb8
            have GG8 := Aside0.mk HG8
            clear gb8 gl8 HG8
            have HMgo8 := Aside0.mk (show (P0_ go8 ∨ w.heap.size ≤ go8) from (HO_0.out.1 _ rfl))
            obtain ⟨hx8_0, hf8_0⟩ := Kd.R_celln 0 HO_0.out (x8_1 : Int) p8 q8
            replace p8 := eq_true p8
            replace q8 := eq_true q8
            have HP9 := Kd.R_putg HO_0.out (x8_1 : Int) a3
            go_wp2_with (first | ((with_reducible refine gate_store (t := 3) (p := 18) rfl ?_); refine store_event (t := 3) (p := 18) (v := ?vo_w10) (w1 := (wr.setCell ⟨go8, (x8_1 : Int).toNat, none⟩ (.int .i64 a3))) ?hg ?ho ?hn ?hr ?_; (case ho => rfl); (case hg => rfl); (case hn => rfl); (case hr => first | (go_simp; done) | (go_simp; rfl)); intro w10 hw; have hg : wr.grownBy w10 (some go8) := (by rw [hw]; exact HP9.2); have hp_ : Kd.R (Kd.int .i64) 3 w10 w0.heap.size (fun k_ => (P0_ k_ ∨ w.heap.size ≤ k_)) (.slice (some ⟨go8, 0, none⟩) x0_1.length co8) y131 := (by rw [hw, Ny131.out]; exact HP9.1); clear HP9; have n0_ := Aside0.mk (hp_); have n1_ := Aside0.mk ((by rw [hw]; exact below_set (HB.out) GB8.out : Below w0.heap.size w0 w10)); have n2_ := Aside0.mk (Kept.of_grown (S := (fun k_ => P0_ k_)) hg (by repeat (first | (with_reducible first | exact HK.out | apply Kept.alloc | apply Kept.drewN | apply Kept.drew) | exact HK.out)) (fun k_ e_ => (HO_0.out.1 k_ e_))); clear HO_0; clear HB; clear HK; have HO_0 := n0_; have HB := n1_; have HK := n2_; clear n0_ n1_ n2_; clear hg hw hp_))
            go_roundg k1
            case measure => have := HK1.out; omega
            case rel => exact ⟨(y131), (wrap64 (x8_1 + 1)), (by first | rfl | (simp; done) | (simp [*]; done)), H', ⟨by have := HK1.out; omega⟩, ⟨by (with_reducible repeat (first | apply Kd.R_alloc | apply Kd.R_drewN | apply Kd.R_drew)); exact HO_0.out⟩, ⟨by repeat (first | (with_reducible first | exact HK.out | apply Kept.alloc | apply Kept.drewN | apply Kept.drew) | exact HK.out)⟩, ⟨by repeat (first | (with_reducible first | exact HB.out | apply below_alloc | apply pw_below_drewN | apply below_drew1) | exact HB.out)⟩⟩
          · rw [if_neg c7] at H
            exact absurd H (by simp)
        · rw [if_neg c6] at H
          exact absurd H (by simp)
      · rw [if_neg c5] at H
        have c5b0 : decide (x8_1 < a2) = false := decide_eq_false c5
        clear c5
        obtain rfl := Option.some.inj H
        go_wp2
        first | go_end0 | ((try simp only [Exit.inBlock, Exit.then]); refine bodyPost_ret (results_none rfl _ _ _) rfl ?_)
        exact ⟨by first | rfl | (simp [errW_none, errW_some] <;> rfl) | (simp [*, errW_none, errW_some] <;> rfl), by (with_reducible repeat (first | apply Kd.R_alloc | apply Kd.R_drewN | apply Kd.R_drew)); exact HO_0.out, by repeat (first | (with_reducible first | exact HB.out | apply below_alloc | apply pw_below_drewN | apply below_drew1) | exact HB.out), by repeat (first | (with_reducible first | exact HK.out | apply Kept.alloc | apply Kept.drewN | apply Kept.drew) | exact HK.out)⟩

/-! ### quicksetref_spaceNow_is: function 77 -/
def quicksetref_spaceNow_is.l0 : Nat → List Int → Int → Int → Int → Option (Bool)
  | 0, _, _, _, _ => none
  | k + 1, x0, x2, x3, x9 => if x9 < x2 then (if 0 ≤ x9 then (if x9 < (x0.length : Int) then (if (rd x0 x9) = x3 then (quicksetref_spaceNow_is.l0 k x0 x2 x3 (wrap64 (x9 + 1))) else (some false)) else (none)) else (none)) else (some true)
def quicksetref_spaceNow_is.f (k : Nat) (l0 : List Int) (a1 : Int) (a2 : Int) (a3 : Int) : Option (Bool) := quicksetref_spaceNow_is.l0 k l0 a2 a3 a1
theorem quicksetref_spaceNow_is.mono_l : ∀ k, (∀ y0 y1 y2 y3, LeO (quicksetref_spaceNow_is.l0 k y0 y1 y2 y3) (quicksetref_spaceNow_is.l0 (k + 1) y0 y1 y2 y3))
  | 0 => fun _ _ _ _ r h => by simp [quicksetref_spaceNow_is.l0] at h
  | k + 1 => by
    have ih0 := quicksetref_spaceNow_is.mono_l k
    · intro y0 y1 y2 y3
      unfold quicksetref_spaceNow_is.l0
      repeat' first
      | (with_reducible exact ih0 _ _ _ _)
      | (with_reducible exact LeO.refl _)
      | (with_reducible exact LeO.none _)
      | (with_reducible refine LeO.ite ?_ ?_)
      | (with_reducible refine LeO.bind ?_ (fun _ => ?_))
      | exact ih0 _ _ _ _
      | exact LeO.none _
      | refine LeO.ite ?_ ?_
      | refine LeO.bind ?_ (fun _ => ?_)
theorem quicksetref_spaceNow_is.mono : ∀ a0 a1 a2 a3 k, LeO (quicksetref_spaceNow_is.f k a0 a1 a2 a3) (quicksetref_spaceNow_is.f (k + 1) a0 a1 a2 a3) := by
  intro a0 a1 a2 a3 k
  have ih0 := quicksetref_spaceNow_is.mono_l k
  unfold quicksetref_spaceNow_is.f
  repeat' first
      | (with_reducible exact ih0 _ _ _ _)
      | (with_reducible exact LeO.refl _)
      | (with_reducible exact LeO.none _)
      | (with_reducible refine LeO.ite ?_ ?_)
      | (with_reducible refine LeO.bind ?_ (fun _ => ?_))
      | exact ih0 _ _ _ _
      | exact LeO.none _
      | refine LeO.ite ?_ ?_
      | refine LeO.bind ?_ (fun _ => ?_)
set_option maxHeartbeats 8000000 in
set_option maxRecDepth 100000 in
theorem quicksetref_spaceNow_is.calls (k : Nat) (A0 : Option Addr) (c0 : Nat) (l0 : List Int) (a1 : Int) (a2 : Int) (a3 : Int) (r : Bool) (w : World) (hr0 : Kd.C (Kd.int .i64) w A0 l0.length l0) (hc0 : l0.length ≤ c0) (h : quicksetref_spaceNow_is.f k l0 a1 a2 a3 = some r) :
    Calls Try.prog 77 #[.slice A0 l0.length c0, .int .i64 a1, .int .i64 a2, .int .i64 a3] w fun e w' => e = .returned (.bool r) ∧ Drawn0 w w' := by
  have HR0 := Aside0.mk hr0
  have HC0 := Aside0.mk hc0
  clear hr0 hc0
  have H : (quicksetref_spaceNow_is.l0 k l0 a2 a3 a1) = some r := h
  clear h
  have H' := Aside0.mk H
  clear H
  go_enter Try.func77, Try.ntmps77
  go_wp2
  go_loopg [9] k (fun kq v9 w' => ∃ (x9_1 : Int), v9 = .int .i64 x9_1 ∧ Aside0 (quicksetref_spaceNow_is.l0 kq l0 a2 a3 x9_1 = some r) ∧ Aside0 (kq ≤ k) ∧ Drawn0 w w')
  case atStart => exact ⟨(a1), (by first | rfl | (simp; done) | (simp [*]; done)), H', ⟨Nat.le_refl _⟩, by repeat (first | exact Drawn0.refl _ | apply Drawn0.step)⟩
  case round =>
    clear H'
    try clear p2
    obtain ⟨x9_1, rfl, HA, HK1, ⟨m1, rfl⟩⟩ := hrel
    cases gk with
    | zero => exact absurd HA.out (by simp [quicksetref_spaceNow_is.l0])
    | succ k1 =>
      have H := HA.out
      clear HA
      simp only [quicksetref_spaceNow_is.l0] at H
      by_cases c5 : x9_1 < a2
      · rw [if_pos c5] at H
        have c5b0 : decide (x9_1 < a2) = true := decide_eq_true c5
        clear c5
        by_cases c6 : 0 ≤ x9_1
        · rw [if_pos c6] at H
          have c6b0 : decide (0 ≤ x9_1) = true := decide_eq_true c6
          clear c6
          by_cases c7 : x9_1 < (l0.length : Int)
          · rw [if_pos c7] at H
            have c7b0 : decide (x9_1 < (l0.length : Int)) = true := decide_eq_true c7
            clear c7
            by_cases c8 : (rd l0 x9_1) = a3
            · rw [if_pos c8] at H
              have c8b0 : ((rd l0 x9_1) == a3) = true := beq_iff_eq.mpr c8
              have c8b1 : ((rd l0 x9_1) != a3) = false := bne_eq_false_iff_eq.mpr c8
              clear c8
              have H' := Aside0.mk H
              clear H
              have p132 : 0 ≤ (x9_1 : Int) := of_decide_eq_true (by first | (with_reducible assumption) | assumption)
              have q132 : x9_1 < (l0.length : Int) := of_decide_eq_true (by first | (with_reducible assumption) | assumption)
              obtain ⟨ad132, e132, hx132_0⟩ := Kd.at_int HR0.out x9_1 p132 q132
              cases e132
              replace p132 := eq_true p132
              replace q132 := eq_true q132
              go_wp2
              go_roundg k1
              case measure => have := HK1.out; omega
              case rel => exact ⟨(wrap64 (x9_1 + 1)), (by first | rfl | (simp; done) | (simp [*]; done)), H', ⟨by have := HK1.out; omega⟩, by repeat (first | exact Drawn0.refl _ | apply Drawn0.step)⟩
            · rw [if_neg c8] at H
              have c8b0 : ((rd l0 x9_1) == a3) = false := beq_eq_false_iff_ne.mpr c8
              have c8b1 : ((rd l0 x9_1) != a3) = true := bne_iff_ne.mpr c8
              obtain rfl := Option.some.inj H
              have p132 : 0 ≤ (x9_1 : Int) := of_decide_eq_true (by first | (with_reducible assumption) | assumption)
              have q132 : x9_1 < (l0.length : Int) := of_decide_eq_true (by first | (with_reducible assumption) | assumption)
              obtain ⟨ad132, e132, hx132_0⟩ := Kd.at_int HR0.out x9_1 p132 q132
              cases e132
              replace p132 := eq_true p132
              replace q132 := eq_true q132
              go_wp2
              go_ret
              exact ⟨by first | rfl | (simp; done) | (simp [*]; done), by repeat (first | exact Drawn0.refl _ | apply Drawn0.step)⟩
          · rw [if_neg c7] at H
            exact absurd H (by simp)
        · rw [if_neg c6] at H
          exact absurd H (by simp)
      · rw [if_neg c5] at H
        have c5b0 : decide (x9_1 < a2) = false := decide_eq_false c5
        clear c5
        obtain rfl := Option.some.inj H
        go_wp2
        go_ret
        exact ⟨by first | rfl | (simp; done) | (simp [*]; done), by repeat (first | exact Drawn0.refl _ | apply Drawn0.step)⟩

end Go.Proofs.Ythnchojddoefiaa.QSpacePlays
