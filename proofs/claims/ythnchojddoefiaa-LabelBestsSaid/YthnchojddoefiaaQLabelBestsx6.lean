/- Printed from a stub by wip/stub.py with the kit's print.py, then turned by hand. -/
import Derived.Test.YthnchojddoefiaaLabelD
import Derived.Test.YthnchojddoefiaaQLabelBestsx0
import Derived.Test.YthnchojddoefiaaQLabelBestsx2
import Derived.Test.YthnchojddoefiaaQLabelBestsx4
import Derived.Test.YthnchojddoefiaaQLabelBestsx5
namespace Go.Proofs.Ythnchojddoefiaa.QLabelBests
open Go.RowKit Go.Proofs.YthnchojddoefiaaW.PrintWords Go.Proofs.YthnchojddoefiaaW.PrintLast Go.Proofs.YthnchojddoefiaaW.PrintMore
attribute [local go_sem] max2_int min2_int max_two min_two max_three min_three max_four min_four   -- for this text's walks alone
set_option linter.unusedVariables false
set_option linter.unusedSimpArgs false

/-! ### quicksetref_SumMore: function 54 -/
def quicksetref_SumMore.l0 : Nat → List Int → Int → Int → Int → Int → Int → Int → Option (Int × Int × Int × Int × Int)
  | 0, _, _, _, _, _, _, _ => none
  | k + 1, x18, x19, x20, x205000, x205001, x205002, x205003 => if x20 < x19 then (if 0 ≤ x20 then (if x20 < (x18.length : Int) then (quicksetref_SumMore.l0 k x18 x19 (wrap64 (x20 + 1)) (wrap64 (x205000 + (rd x18 x20))) (wrap64 (x205001 + (wrap64 (x205000 + (rd x18 x20))))) (wrap64 (x205002 + (wrap64 (x205001 + (wrap64 (x205000 + (rd x18 x20))))))) (wrap64 (x205003 + (wrap64 (x205002 + (wrap64 (x205001 + (wrap64 (x205000 + (rd x18 x20)))))))))) else (none)) else (none)) else (some (x205000, x205001, x205002, x205003, 0))
def quicksetref_SumMore.f (k : Nat) (a0_0 : Int) (a0_1 : Int) (a0_2 : Int) (a0_3 : Int) (l1 : List Int) : Option (Int × Int × Int × Int × Int) := (quicksetref_words.f k l1).bind fun bt206 => (if bt206.2 = true then (quicksetref_SumMore.l0 k bt206.1 (bt206.1.length : Int) 0 a0_0 a0_1 a0_2 a0_3) else (some (0, 0, 0, 0, 4)))
theorem quicksetref_SumMore.mono_l : ∀ k, (∀ y0 y1 y2 y3 y4 y5 y6, LeO (quicksetref_SumMore.l0 k y0 y1 y2 y3 y4 y5 y6) (quicksetref_SumMore.l0 (k + 1) y0 y1 y2 y3 y4 y5 y6))
  | 0 => fun _ _ _ _ _ _ _ r h => by simp [quicksetref_SumMore.l0] at h
  | k + 1 => by
    have ih0 := quicksetref_SumMore.mono_l k
    · intro y0 y1 y2 y3 y4 y5 y6
      unfold quicksetref_SumMore.l0
      repeat' first
      | (with_reducible exact ih0 _ _ _ _ _ _ _)
      | (with_reducible exact quicksetref_words.mono _ _)
      | (with_reducible exact LeO.refl _)
      | (with_reducible exact LeO.none _)
      | (with_reducible refine LeO.ite ?_ ?_)
      | (with_reducible refine LeO.bind ?_ (fun _ => ?_))
      | exact ih0 _ _ _ _ _ _ _
      | exact quicksetref_words.mono _ _
      | exact LeO.none _
      | refine LeO.ite ?_ ?_
      | refine LeO.bind ?_ (fun _ => ?_)
theorem quicksetref_SumMore.mono : ∀ a0 a1 a2 a3 a4 k, LeO (quicksetref_SumMore.f k a0 a1 a2 a3 a4) (quicksetref_SumMore.f (k + 1) a0 a1 a2 a3 a4) := by
  intro a0 a1 a2 a3 a4 k
  have ih0 := quicksetref_SumMore.mono_l k
  unfold quicksetref_SumMore.f
  repeat' first
      | (with_reducible exact ih0 _ _ _ _ _ _ _)
      | (with_reducible exact quicksetref_words.mono _ _)
      | (with_reducible exact LeO.refl _)
      | (with_reducible exact LeO.none _)
      | (with_reducible refine LeO.ite ?_ ?_)
      | (with_reducible refine LeO.bind ?_ (fun _ => ?_))
      | exact ih0 _ _ _ _ _ _ _
      | exact quicksetref_words.mono _ _
      | exact LeO.none _
      | refine LeO.ite ?_ ?_
      | refine LeO.bind ?_ (fun _ => ?_)
set_option maxHeartbeats 8000000 in
set_option maxRecDepth 100000 in
theorem quicksetref_SumMore.calls (k : Nat) (a0_0 : Int) (a0_1 : Int) (a0_2 : Int) (a0_3 : Int) (A1 : Option Addr) (c1 : Nat) (l1 : List Int) (r1 : Int) (r2 : Int) (r3 : Int) (r4 : Int) (r5 : Int) (w : World) (hr1 : Kd.C (Kd.int .u8) w A1 l1.length l1) (hc1 : l1.length ≤ c1) (h : quicksetref_SumMore.f k a0_0 a0_1 a0_2 a0_3 l1 = some (r1, r2, r3, r4, r5)) :
    Calls Try.prog 54 #[.agg #[.int .i64 a0_0, .int .i64 a0_1, .int .i64 a0_2, .int .i64 a0_3], .slice A1 l1.length c1] w fun e w' => e = .returned (.tuple #[.agg #[.int .i64 r1, .int .i64 r2, .int .i64 r3, .int .i64 r4], .int .i64 r5]) ∧ Below w.heap.size w w' := by
  have hu23 := Try.underlying23
  have HR1 := Aside0.mk hr1
  have HC1 := Aside0.mk hc1
  clear hr1 hc1
  have HB := Aside0.mk (Below.refl w.heap.size w)
  have H : ((quicksetref_words.f k l1).bind fun bt206 => (if bt206.2 = true then (quicksetref_SumMore.l0 k bt206.1 (bt206.1.length : Int) 0 a0_0 a0_1 a0_2 a0_3) else (some (0, 0, 0, 0, 4)))) = some (r1, r2, r3, r4, r5) := h
  clear h
  replace H := Option.bind_eq_some_iff.mp H
  obtain ⟨⟨t206, t207⟩, A30, H⟩ := H
  replace H : (if t207 = true then (quicksetref_SumMore.l0 k t206 (t206.length : Int) 0 a0_0 a0_1 a0_2 a0_3) else (some (0, 0, 0, 0, 4))) = some (r1, r2, r3, r4, r5) := H
  have A3 := Aside0.mk A30
  clear A30
  by_cases c4 : t207 = true
  · subst c4
    have H1 : (quicksetref_SumMore.l0 k t206 (t206.length : Int) 0 a0_0 a0_1 a0_2 a0_3) = some (r1, r2, r3, r4, r5) := by rw [if_pos rfl] at H; exact H
    clear H
    have H := H1
    clear H1
    have H' := Aside0.mk H
    clear H
    go_enter Try.func54, Try.ntmps54
    go_wp2_with (first | ((with_reducible refine gate_dst (N := 2) rfl ?_); refine box_event ?hg (N := 2) ?hd (cs := #[.int .i64 a0_0, .int .i64 a0_1, .int .i64 a0_2, .int .i64 a0_3]) (t := 23) ?hr ?_; (case hd => rfl); (case hg => rfl); (case hr => first | (go_simp; done) | (go_simp; rfl)); intro gb204 hg w5 hbox hb; have n0_ := Aside0.mk (below_step (by repeat (first | (with_reducible first | exact HB.out | apply below_alloc | apply pw_below_drewN | apply below_drew1) | exact HB.out)) hb); have n1_ := Aside0.mk (hbox); have n2_ := Aside0.mk ((by rw [hg]; exact (below_size (by repeat (first | (with_reducible first | exact HB.out | apply below_alloc | apply pw_below_drewN | apply below_drew1) | exact HB.out))) : w.heap.size ≤ gb204)); have n3_ := Aside0.mk ((by rw [hg]; exact (below_size (by repeat (first | (with_reducible first | exact HB.out | apply below_alloc | apply pw_below_drewN | apply below_drew1) | exact HB.out))) : w.heap.size ≤ gb204)); clear HB; have HB := n0_; have BK204 := n1_; have GW204 := n2_; have GE204 := n3_; clear n0_ n1_ n2_ n3_; clear hb hbox hg) | ((with_reducible refine gate_dst (N := 4) rfl ?_); refine box_event ?hg (N := 4) ?hd (cs := #[.int .i64 0, .int .i64 0, .int .i64 0, .int .i64 0]) (t := 23) ?hr ?_; (case hd => rfl); (case hg => rfl); (case hr => first | (go_simp; done) | (go_simp; rfl)); intro gb205 hg w6 hbox hb; have n0_ := Aside0.mk (blk_below (g := gb204) (o := .cells #[.int .i64 a0_0, .int .i64 a0_1, .int .i64 a0_2, .int .i64 a0_3] 23 (0, 0)) (by (with_reducible repeat (first | refine blk_drewN ?_ _ | refine blk_drew ?_ | refine blk_alloc ?_ _)); exact BK204.out) hb); have n1_ := Aside0.mk (below_step (by repeat (first | (with_reducible first | exact HB.out | apply below_alloc | apply pw_below_drewN | apply below_drew1 | refine below_set ?_ GE204.out) | exact HB.out)) hb); have n2_ := Aside0.mk (hbox); have n3_ := Aside0.mk ((by rw [hg]; exact (below_size (by repeat (first | (with_reducible first | exact HB.out | apply below_alloc | apply pw_below_drewN | apply below_drew1 | refine below_set ?_ GE204.out) | exact HB.out))) : w.heap.size ≤ gb205)); have n4_ := Aside0.mk ((by rw [hg]; exact (below_size (by repeat (first | (with_reducible first | exact HB.out | apply below_alloc | apply pw_below_drewN | apply below_drew1 | refine below_set ?_ GE204.out) | exact HB.out))) : w.heap.size ≤ gb205)); have n5_ := Aside0.mk ((by rw [hg]; exact Nat.ne_of_lt (blk_lt (g := gb204) (o := .cells #[.int .i64 a0_0, .int .i64 a0_1, .int .i64 a0_2, .int .i64 a0_3] 23 (0, 0)) (by (with_reducible repeat (first | refine blk_drewN ?_ _ | refine blk_drew ?_ | refine blk_alloc ?_ _)); exact BK204.out)) : gb204 ≠ gb205)); have n6_ := Aside0.mk ((by rw [hg]; exact Nat.ne_of_gt (blk_lt (g := gb204) (o := .cells #[.int .i64 a0_0, .int .i64 a0_1, .int .i64 a0_2, .int .i64 a0_3] 23 (0, 0)) (by (with_reducible repeat (first | refine blk_drewN ?_ _ | refine blk_drew ?_ | refine blk_alloc ?_ _)); exact BK204.out)) : gb205 ≠ gb204)); clear BK204; clear HB; have BK204 := n0_; have HB := n1_; have BK205 := n2_; have GW205 := n3_; have GE205 := n4_; have NB204_205 := n5_; have NB205_204 := n6_; clear n0_ n1_ n2_ n3_ n4_ n5_ n6_; clear hb hbox hg) | ((with_reducible refine gate_callee (f := 98) rfl ?_); refine goesL_ (some 12) rfl rfl Try.func98 (by kernel_rfl) rfl #[.slice A1 l1.length c1] rfl (by (try simp only [List.map_toArray, List.map_cons, List.map_nil]); first | done | rfl | (simp only [List.length_drop, List.length_take]; rfl)) ?_; (with_reducible refine (quicksetref_words.calls k _ _ l1 t206 true _ ?side1 ?side2 A3.out).mono ?_); (case side1 => repeat (first | exact (Kd.C_below HR1.out HB.out) | (with_reducible refine Kd.C_alloc ?_ _) | (with_reducible refine Kd.C_drewN ?_ _) | (with_reducible refine Kd.C_drew ?_))); (case side2 => exact HC1.out); rintro e w7 ⟨v208, rfl, ho0, hb⟩; refine ⟨_, rfl, ?_⟩; have n0_ := Aside0.mk (Kd.R_lower ho0 (below_size (by repeat (first | (with_reducible first | exact HB.out | apply below_alloc | apply pw_below_drewN | apply below_drew1 | refine below_set ?_ GE204.out | refine below_set ?_ GE205.out) | exact HB.out)))); have n1_ := Aside0.mk (blk_below (g := gb204) (o := .cells #[.int .i64 a0_0, .int .i64 a0_1, .int .i64 a0_2, .int .i64 a0_3] 23 (0, 0)) (by (with_reducible repeat (first | refine blk_drewN ?_ _ | refine blk_drew ?_ | refine blk_alloc ?_ _)); exact BK204.out) hb); have n2_ := Aside0.mk (blk_below (g := gb205) (o := .cells #[.int .i64 0, .int .i64 0, .int .i64 0, .int .i64 0] 23 (0, 0)) (by (with_reducible repeat (first | refine blk_drewN ?_ _ | refine blk_drew ?_ | refine blk_alloc ?_ _)); exact BK205.out) hb); have n3_ := Aside0.mk (below_step (by repeat (first | (with_reducible first | exact HB.out | apply below_alloc | apply pw_below_drewN | apply below_drew1 | refine below_set ?_ GE204.out | refine below_set ?_ GE205.out) | exact HB.out)) hb); clear BK204; clear BK205; clear HB; have HO209 := n0_; have BK204 := n1_; have BK205 := n2_; have HB := n3_; clear n0_ n1_ n2_ n3_; (try clear hb); (try clear hb2); (try clear hk); (try clear hi); (try clear ho0); obtain ⟨Ao8, co8, eo8⟩ := Kd.R_slice HO209.out; subst eo8))
    go_loopg [20] k (fun kq v20 w' => ∃ (x20_1 : Int) (x205000_1 : Int) (x205001_1 : Int) (x205002_1 : Int) (x205003_1 : Int), v20 = .int .i64 x20_1 ∧ Aside0 (quicksetref_SumMore.l0 kq t206 (t206.length : Int) x20_1 x205000_1 x205001_1 x205002_1 x205003_1 = some (r1, r2, r3, r4, r5)) ∧ Aside0 (kq ≤ k) ∧ Aside0 (Kd.R (Kd.int .i64) 3 w' w.heap.size (fun _ => True) (.slice Ao8 t206.length co8) t206) ∧ Aside0 (w'.heap[gb204]? = some (.cells #[.int .i64 x205000_1, .int .i64 x205001_1, .int .i64 x205002_1, .int .i64 x205003_1] 23 (0, 0))) ∧ Aside0 (w'.heap[gb205]? = some (.cells #[.int .i64 0, .int .i64 0, .int .i64 0, .int .i64 0] 23 (0, 0))) ∧ Aside0 (Below w.heap.size w w'))
    case atStart => exact ⟨(0), (a0_0), (a0_1), (a0_2), (a0_3), (by first | rfl | (simp; done) | (simp [*]; done)), H', ⟨Nat.le_refl _⟩, ⟨by (with_reducible repeat (first | apply Kd.R_alloc | apply Kd.R_drewN | apply Kd.R_drew)); exact HO209.out⟩, ⟨by (with_reducible repeat (first | refine blk_drewN ?_ _ | refine blk_drew ?_ | refine blk_alloc ?_ _)); exact BK204.out⟩, ⟨by (with_reducible repeat (first | refine blk_drewN ?_ _ | refine blk_drew ?_ | refine blk_alloc ?_ _)); exact BK205.out⟩, ⟨by repeat (first | (with_reducible first | exact HB.out | apply below_alloc | apply pw_below_drewN | apply below_drew1 | refine below_set ?_ GE204.out | refine below_set ?_ GE205.out) | exact HB.out)⟩⟩
    case round =>
      clear H'
      try clear c1
      try clear p2
      try clear c4
      try clear c5
      obtain ⟨x20_1, x205000_1, x205001_1, x205002_1, x205003_1, rfl, HA, HK1, HO_18, BK204, BK205, HB⟩ := hrel
      cases gk with
      | zero => exact absurd HA.out (by simp [quicksetref_SumMore.l0])
      | succ k1 =>
        have H := HA.out
        clear HA
        simp only [quicksetref_SumMore.l0] at H
        by_cases c9 : x20_1 < (t206.length : Int)
        · rw [if_pos c9] at H
          have c9b0 : decide (x20_1 < (t206.length : Int)) = true := decide_eq_true c9
          clear c9
          by_cases c10 : 0 ≤ x20_1
          · rw [if_pos c10] at H
            have c10b0 : decide (0 ≤ x20_1) = true := decide_eq_true c10
            clear c10
            by_cases c11 : x20_1 < (t206.length : Int)
            · rw [if_pos c11] at H
              have c11b0 : decide (x20_1 < (t206.length : Int)) = true := decide_eq_true c11
              clear c11
              have H' := Aside0.mk H
              clear H
              have p210 : 0 ≤ (x20_1 : Int) := of_decide_eq_true (by first | (with_reducible assumption) | assumption)
              have q210 : x20_1 < (t206.length : Int) := of_decide_eq_true (by first | (with_reducible assumption) | assumption)
              obtain ⟨ad210, e210, hx210_0⟩ := Kd.at_int (Kd.R_reads' HO_18.out).2.2 x20_1 p210 q210
              cases e210
              replace p210 := eq_true p210
              replace q210 := eq_true q210
              have hnb12 := NB204_205.out
              have hnc12 := NB205_204.out
              have hcz13_0 : wr.cell? ⟨gb204, 0, none⟩ = some (.int .i64 x205000_1) := (blk_cell BK204.out 0).trans rfl
              have hcz13_1 : wr.cell? ⟨gb204, 1, none⟩ = some (.int .i64 x205001_1) := (blk_cell BK204.out 1).trans rfl
              have hcz13_2 : wr.cell? ⟨gb204, 2, none⟩ = some (.int .i64 x205002_1) := (blk_cell BK204.out 2).trans rfl
              have hcz13_3 : wr.cell? ⟨gb204, 3, none⟩ = some (.int .i64 x205003_1) := (blk_cell BK204.out 3).trans rfl
              have hfz13_0 := blk_frozen BK204.out 0
              have hfz13_1 := blk_frozen BK204.out 1
              have hfz13_2 := blk_frozen BK204.out 2
              have hfz13_3 := blk_frozen BK204.out 3
              go_wp2
              go_roundg k1
              case measure => have := HK1.out; omega
              case rel => exact ⟨(wrap64 (x20_1 + 1)), (wrap64 (x205000_1 + (rd t206 x20_1))), (wrap64 (x205001_1 + (wrap64 (x205000_1 + (rd t206 x20_1))))), (wrap64 (x205002_1 + (wrap64 (x205001_1 + (wrap64 (x205000_1 + (rd t206 x20_1))))))), (wrap64 (x205003_1 + (wrap64 (x205002_1 + (wrap64 (x205001_1 + (wrap64 (x205000_1 + (rd t206 x20_1))))))))), (by first | rfl | (simp; done) | (simp [*]; done)), H', ⟨by have := HK1.out; omega⟩, ⟨by (with_reducible repeat (first | apply Kd.R_alloc | apply Kd.R_drewN | apply Kd.R_drew)); exact Kd.R_mono (Kd.R_far (p := ⟨gb204, 3, none⟩) (Kd.R_far (p := ⟨gb204, 2, none⟩) (Kd.R_far (p := ⟨gb204, 1, none⟩) (Kd.R_far (p := ⟨gb204, 0, none⟩) (Kd.R_types HO_18.out BK204.out (by decide)) (fun _ hk => hk.2) (.int .i64 (wrap64 (x205000_1 + (rd t206 x20_1))))) (fun _ hk => hk.2) (.int .i64 (wrap64 (x205001_1 + (wrap64 (x205000_1 + (rd t206 x20_1))))))) (fun _ hk => hk.2) (.int .i64 (wrap64 (x205002_1 + (wrap64 (x205001_1 + (wrap64 (x205000_1 + (rd t206 x20_1))))))))) (fun _ hk => hk.2) (.int .i64 (wrap64 (x205003_1 + (wrap64 (x205002_1 + (wrap64 (x205001_1 + (wrap64 (x205000_1 + (rd t206 x20_1))))))))))) (fun _ hk => trivial)⟩, ⟨by (with_reducible repeat (first | refine blk_drewN ?_ _ | refine blk_drew ?_ | refine blk_alloc ?_ _)); refine blk_put (cs := #[.int .i64 (wrap64 (x205000_1 + (rd t206 x20_1))), .int .i64 (wrap64 (x205001_1 + (wrap64 (x205000_1 + (rd t206 x20_1))))), .int .i64 (wrap64 (x205002_1 + (wrap64 (x205001_1 + (wrap64 (x205000_1 + (rd t206 x20_1))))))), .int .i64 x205003_1]) ?_ 3 _ rfl; (with_reducible repeat (first | refine blk_drewN ?_ _ | refine blk_drew ?_ | refine blk_alloc ?_ _)); refine blk_put (cs := #[.int .i64 (wrap64 (x205000_1 + (rd t206 x20_1))), .int .i64 (wrap64 (x205001_1 + (wrap64 (x205000_1 + (rd t206 x20_1))))), .int .i64 x205002_1, .int .i64 x205003_1]) ?_ 2 _ rfl; (with_reducible repeat (first | refine blk_drewN ?_ _ | refine blk_drew ?_ | refine blk_alloc ?_ _)); refine blk_put (cs := #[.int .i64 (wrap64 (x205000_1 + (rd t206 x20_1))), .int .i64 x205001_1, .int .i64 x205002_1, .int .i64 x205003_1]) ?_ 1 _ rfl; (with_reducible repeat (first | refine blk_drewN ?_ _ | refine blk_drew ?_ | refine blk_alloc ?_ _)); refine blk_put (cs := #[.int .i64 x205000_1, .int .i64 x205001_1, .int .i64 x205002_1, .int .i64 x205003_1]) ?_ 0 _ rfl; (with_reducible repeat (first | refine blk_drewN ?_ _ | refine blk_drew ?_ | refine blk_alloc ?_ _)); exact BK204.out⟩, ⟨by (with_reducible repeat (first | refine blk_drewN ?_ _ | refine blk_drew ?_ | refine blk_alloc ?_ _)); refine blk_far ?_ NB205_204.out _; (with_reducible repeat (first | refine blk_drewN ?_ _ | refine blk_drew ?_ | refine blk_alloc ?_ _)); refine blk_far ?_ NB205_204.out _; (with_reducible repeat (first | refine blk_drewN ?_ _ | refine blk_drew ?_ | refine blk_alloc ?_ _)); refine blk_far ?_ NB205_204.out _; (with_reducible repeat (first | refine blk_drewN ?_ _ | refine blk_drew ?_ | refine blk_alloc ?_ _)); refine blk_far ?_ NB205_204.out _; (with_reducible repeat (first | refine blk_drewN ?_ _ | refine blk_drew ?_ | refine blk_alloc ?_ _)); exact BK205.out⟩, ⟨by repeat (first | (with_reducible first | exact HB.out | apply below_alloc | apply pw_below_drewN | apply below_drew1 | refine below_set ?_ GE204.out | refine below_set ?_ GE205.out) | exact HB.out)⟩⟩
            · rw [if_neg c11] at H
              exact absurd H (by simp)
          · rw [if_neg c10] at H
            exact absurd H (by simp)
        · rw [if_neg c9] at H
          have c9b0 : decide (x20_1 < (t206.length : Int)) = false := decide_eq_false c9
          clear c9
          simp only [Option.some.injEq, Prod.mk.injEq] at H
          obtain ⟨rfl, rfl, rfl, rfl, rfl⟩ := H
          have hnb14 := NB204_205.out
          have hnc14 := NB205_204.out
          have hcz15_0 : wr.cell? ⟨gb204, 0, none⟩ = some (.int .i64 x205000_1) := (blk_cell BK204.out 0).trans rfl
          have hcz15_1 : wr.cell? ⟨gb204, 1, none⟩ = some (.int .i64 x205001_1) := (blk_cell BK204.out 1).trans rfl
          have hcz15_2 : wr.cell? ⟨gb204, 2, none⟩ = some (.int .i64 x205002_1) := (blk_cell BK204.out 2).trans rfl
          have hcz15_3 : wr.cell? ⟨gb204, 3, none⟩ = some (.int .i64 x205003_1) := (blk_cell BK204.out 3).trans rfl
          have hfz15_0 := blk_frozen BK204.out 0
          have hfz15_1 := blk_frozen BK204.out 1
          have hfz15_2 := blk_frozen BK204.out 2
          have hfz15_3 := blk_frozen BK204.out 3
          have hcz16_0 : wr.cell? ⟨gb205, 0, none⟩ = some (.int .i64 0) := (blk_cell BK205.out 0).trans rfl
          have hcz16_1 : wr.cell? ⟨gb205, 1, none⟩ = some (.int .i64 0) := (blk_cell BK205.out 1).trans rfl
          have hcz16_2 : wr.cell? ⟨gb205, 2, none⟩ = some (.int .i64 0) := (blk_cell BK205.out 2).trans rfl
          have hcz16_3 : wr.cell? ⟨gb205, 3, none⟩ = some (.int .i64 0) := (blk_cell BK205.out 3).trans rfl
          have hfz16_0 := blk_frozen BK205.out 0
          have hfz16_1 := blk_frozen BK205.out 1
          have hfz16_2 := blk_frozen BK205.out 2
          have hfz16_3 := blk_frozen BK205.out 3
          go_wp2
          refine bodyPost_ret (results_ct rfl _ _ gb205 23 #[.int .i64 x205000_1, .int .i64 x205001_1, .int .i64 x205002_1, .int .i64 x205003_1] (0, 0) _ rfl (by (with_reducible repeat (first | refine blk_drewN ?_ _ | refine blk_drew ?_ | refine blk_alloc ?_ _)); refine blk_put (cs := #[.int .i64 x205000_1, .int .i64 x205001_1, .int .i64 x205002_1, .int .i64 0]) ?_ 3 _ rfl; (with_reducible repeat (first | refine blk_drewN ?_ _ | refine blk_drew ?_ | refine blk_alloc ?_ _)); refine blk_put (cs := #[.int .i64 x205000_1, .int .i64 x205001_1, .int .i64 0, .int .i64 0]) ?_ 2 _ rfl; (with_reducible repeat (first | refine blk_drewN ?_ _ | refine blk_drew ?_ | refine blk_alloc ?_ _)); refine blk_put (cs := #[.int .i64 x205000_1, .int .i64 0, .int .i64 0, .int .i64 0]) ?_ 1 _ rfl; (with_reducible repeat (first | refine blk_drewN ?_ _ | refine blk_drew ?_ | refine blk_alloc ?_ _)); refine blk_put (cs := #[.int .i64 0, .int .i64 0, .int .i64 0, .int .i64 0]) ?_ 0 _ rfl; (with_reducible repeat (first | refine blk_drewN ?_ _ | refine blk_drew ?_ | refine blk_alloc ?_ _)); exact BK205.out) Try.underlying23 rfl (by kernel_rfl)) rfl ?_
          exact ⟨by first | rfl | (simp [errW_none, errW_some] <;> rfl) | (simp [*, errW_none, errW_some] <;> rfl), by repeat (first | (with_reducible first | exact HB.out | apply below_alloc | apply pw_below_drewN | apply below_drew1 | refine below_set ?_ GE204.out | refine below_set ?_ GE205.out) | exact HB.out)⟩
  · replace c4 := Bool.eq_false_iff.mpr c4
    subst c4
    have H1 : (some (0, 0, 0, 0, 4)) = some (r1, r2, r3, r4, r5) := by rw [if_neg (show ¬ (false = true) by decide)] at H; exact H
    clear H
    have H := H1
    clear H1
    simp only [Option.some.injEq, Prod.mk.injEq] at H
    obtain ⟨rfl, rfl, rfl, rfl, rfl⟩ := H
    go_enter Try.func54, Try.ntmps54
    go_wp2_with (first | ((with_reducible refine gate_dst (N := 2) rfl ?_); refine box_event ?hg (N := 2) ?hd (cs := #[.int .i64 a0_0, .int .i64 a0_1, .int .i64 a0_2, .int .i64 a0_3]) (t := 23) ?hr ?_; (case hd => rfl); (case hg => rfl); (case hr => first | (go_simp; done) | (go_simp; rfl)); intro gb204 hg w17 hbox hb; have n0_ := Aside0.mk (below_step (by repeat (first | (with_reducible first | exact HB.out | apply below_alloc | apply pw_below_drewN | apply below_drew1) | exact HB.out)) hb); have n1_ := Aside0.mk (hbox); have n2_ := Aside0.mk ((by rw [hg]; exact (below_size (by repeat (first | (with_reducible first | exact HB.out | apply below_alloc | apply pw_below_drewN | apply below_drew1) | exact HB.out))) : w.heap.size ≤ gb204)); have n3_ := Aside0.mk ((by rw [hg]; exact (below_size (by repeat (first | (with_reducible first | exact HB.out | apply below_alloc | apply pw_below_drewN | apply below_drew1) | exact HB.out))) : w.heap.size ≤ gb204)); clear HB; have HB := n0_; have BK204 := n1_; have GW204 := n2_; have GE204 := n3_; clear n0_ n1_ n2_ n3_; clear hb hbox hg) | ((with_reducible refine gate_dst (N := 4) rfl ?_); refine box_event ?hg (N := 4) ?hd (cs := #[.int .i64 0, .int .i64 0, .int .i64 0, .int .i64 0]) (t := 23) ?hr ?_; (case hd => rfl); (case hg => rfl); (case hr => first | (go_simp; done) | (go_simp; rfl)); intro gb205 hg w18 hbox hb; have n0_ := Aside0.mk (blk_below (g := gb204) (o := .cells #[.int .i64 a0_0, .int .i64 a0_1, .int .i64 a0_2, .int .i64 a0_3] 23 (0, 0)) (by (with_reducible repeat (first | refine blk_drewN ?_ _ | refine blk_drew ?_ | refine blk_alloc ?_ _)); exact BK204.out) hb); have n1_ := Aside0.mk (below_step (by repeat (first | (with_reducible first | exact HB.out | apply below_alloc | apply pw_below_drewN | apply below_drew1 | refine below_set ?_ GE204.out) | exact HB.out)) hb); have n2_ := Aside0.mk (hbox); have n3_ := Aside0.mk ((by rw [hg]; exact (below_size (by repeat (first | (with_reducible first | exact HB.out | apply below_alloc | apply pw_below_drewN | apply below_drew1 | refine below_set ?_ GE204.out) | exact HB.out))) : w.heap.size ≤ gb205)); have n4_ := Aside0.mk ((by rw [hg]; exact (below_size (by repeat (first | (with_reducible first | exact HB.out | apply below_alloc | apply pw_below_drewN | apply below_drew1 | refine below_set ?_ GE204.out) | exact HB.out))) : w.heap.size ≤ gb205)); have n5_ := Aside0.mk ((by rw [hg]; exact Nat.ne_of_lt (blk_lt (g := gb204) (o := .cells #[.int .i64 a0_0, .int .i64 a0_1, .int .i64 a0_2, .int .i64 a0_3] 23 (0, 0)) (by (with_reducible repeat (first | refine blk_drewN ?_ _ | refine blk_drew ?_ | refine blk_alloc ?_ _)); exact BK204.out)) : gb204 ≠ gb205)); have n6_ := Aside0.mk ((by rw [hg]; exact Nat.ne_of_gt (blk_lt (g := gb204) (o := .cells #[.int .i64 a0_0, .int .i64 a0_1, .int .i64 a0_2, .int .i64 a0_3] 23 (0, 0)) (by (with_reducible repeat (first | refine blk_drewN ?_ _ | refine blk_drew ?_ | refine blk_alloc ?_ _)); exact BK204.out)) : gb205 ≠ gb204)); clear BK204; clear HB; have BK204 := n0_; have HB := n1_; have BK205 := n2_; have GW205 := n3_; have GE205 := n4_; have NB204_205 := n5_; have NB205_204 := n6_; clear n0_ n1_ n2_ n3_ n4_ n5_ n6_; clear hb hbox hg) | ((with_reducible refine gate_callee (f := 98) rfl ?_); refine goesL_ (some 12) rfl rfl Try.func98 (by kernel_rfl) rfl #[.slice A1 l1.length c1] rfl (by (try simp only [List.map_toArray, List.map_cons, List.map_nil]); first | done | rfl | (simp only [List.length_drop, List.length_take]; rfl)) ?_; (with_reducible refine (quicksetref_words.calls k _ _ l1 t206 false _ ?side1 ?side2 A3.out).mono ?_); (case side1 => repeat (first | exact (Kd.C_below HR1.out HB.out) | (with_reducible refine Kd.C_alloc ?_ _) | (with_reducible refine Kd.C_drewN ?_ _) | (with_reducible refine Kd.C_drew ?_))); (case side2 => exact HC1.out); rintro e w19 ⟨v208, rfl, ho0, hb⟩; refine ⟨_, rfl, ?_⟩; have n0_ := Aside0.mk (Kd.R_lower ho0 (below_size (by repeat (first | (with_reducible first | exact HB.out | apply below_alloc | apply pw_below_drewN | apply below_drew1 | refine below_set ?_ GE204.out | refine below_set ?_ GE205.out) | exact HB.out)))); have n1_ := Aside0.mk (blk_below (g := gb204) (o := .cells #[.int .i64 a0_0, .int .i64 a0_1, .int .i64 a0_2, .int .i64 a0_3] 23 (0, 0)) (by (with_reducible repeat (first | refine blk_drewN ?_ _ | refine blk_drew ?_ | refine blk_alloc ?_ _)); exact BK204.out) hb); have n2_ := Aside0.mk (blk_below (g := gb205) (o := .cells #[.int .i64 0, .int .i64 0, .int .i64 0, .int .i64 0] 23 (0, 0)) (by (with_reducible repeat (first | refine blk_drewN ?_ _ | refine blk_drew ?_ | refine blk_alloc ?_ _)); exact BK205.out) hb); have n3_ := Aside0.mk (below_step (by repeat (first | (with_reducible first | exact HB.out | apply below_alloc | apply pw_below_drewN | apply below_drew1 | refine below_set ?_ GE204.out | refine below_set ?_ GE205.out) | exact HB.out)) hb); clear BK204; clear BK205; clear HB; have HO209 := n0_; have BK204 := n1_; have BK205 := n2_; have HB := n3_; clear n0_ n1_ n2_ n3_; (try clear hb); (try clear hb2); (try clear hk); (try clear hi); (try clear ho0); have hnb20 := NB205_204.out; have hnc20 := NB204_205.out; have hcz21_0 : w19.cell? ⟨gb205, 0, none⟩ = some (.int .i64 0) := (blk_cell BK205.out 0).trans rfl; have hcz21_1 : w19.cell? ⟨gb205, 1, none⟩ = some (.int .i64 0) := (blk_cell BK205.out 1).trans rfl; have hcz21_2 : w19.cell? ⟨gb205, 2, none⟩ = some (.int .i64 0) := (blk_cell BK205.out 2).trans rfl; have hcz21_3 : w19.cell? ⟨gb205, 3, none⟩ = some (.int .i64 0) := (blk_cell BK205.out 3).trans rfl; have hfz21_0 := blk_frozen BK205.out 0; have hfz21_1 := blk_frozen BK205.out 1; have hfz21_2 := blk_frozen BK205.out 2; have hfz21_3 := blk_frozen BK205.out 3))
    refine bodyPost_ret (results_ct rfl _ _ gb205 23 #[.int .i64 0, .int .i64 0, .int .i64 0, .int .i64 0] (0, 0) _ rfl (by (with_reducible repeat (first | refine blk_drewN ?_ _ | refine blk_drew ?_ | refine blk_alloc ?_ _)); refine blk_put (cs := #[.int .i64 0, .int .i64 0, .int .i64 0, .int .i64 0]) ?_ 3 _ rfl; (with_reducible repeat (first | refine blk_drewN ?_ _ | refine blk_drew ?_ | refine blk_alloc ?_ _)); refine blk_put (cs := #[.int .i64 0, .int .i64 0, .int .i64 0, .int .i64 0]) ?_ 2 _ rfl; (with_reducible repeat (first | refine blk_drewN ?_ _ | refine blk_drew ?_ | refine blk_alloc ?_ _)); refine blk_put (cs := #[.int .i64 0, .int .i64 0, .int .i64 0, .int .i64 0]) ?_ 1 _ rfl; (with_reducible repeat (first | refine blk_drewN ?_ _ | refine blk_drew ?_ | refine blk_alloc ?_ _)); refine blk_put (cs := #[.int .i64 0, .int .i64 0, .int .i64 0, .int .i64 0]) ?_ 0 _ rfl; (with_reducible repeat (first | refine blk_drewN ?_ _ | refine blk_drew ?_ | refine blk_alloc ?_ _)); exact BK205.out) Try.underlying23 rfl (by kernel_rfl)) rfl ?_
    exact ⟨by first | rfl | (simp [errW_none, errW_some] <;> rfl) | (simp [*, errW_none, errW_some] <;> rfl), by repeat (first | (with_reducible first | exact HB.out | apply below_alloc | apply pw_below_drewN | apply below_drew1 | refine below_set ?_ GE204.out | refine below_set ?_ GE205.out) | exact HB.out)⟩

/-! ### quicksetref_sameBytes: function 58 -/
def quicksetref_sameBytes.f (l0 : List Int) (l1 : List Int) : Option (Bool) := some ((strOfNums l0).toList == (strOfNums l1).toList)
set_option maxHeartbeats 8000000 in
set_option maxRecDepth 100000 in
theorem quicksetref_sameBytes.calls (A0 : Option Addr) (c0 : Nat) (l0 : List Int) (A1 : Option Addr) (c1 : Nat) (l1 : List Int) (r : Bool) (w : World) (hr0 : Kd.C (Kd.int .u8) w A0 l0.length l0) (hc0 : l0.length ≤ c0) (hr1 : Kd.C (Kd.int .u8) w A1 l1.length l1) (hc1 : l1.length ≤ c1) (h : quicksetref_sameBytes.f l0 l1 = some r) :
    Calls Try.prog 58 #[.slice A0 l0.length c0, .slice A1 l1.length c1] w fun e w' => e = .returned (.bool r) ∧ Drawn0 w w' := by
  have HR0 := Aside0.mk hr0
  have HC0 := Aside0.mk hc0
  clear hr0 hc0
  have HR1 := Aside0.mk hr1
  have HC1 := Aside0.mk hc1
  clear hr1 hc1
  have H : (some ((strOfNums l0).toList == (strOfNums l1).toList)) = some r := h
  clear h
  obtain rfl := Option.some.inj H
  have hcv3 := Kd.C_string (P := Try.prog) (A := A0) (c := c0) Try.underlying28 Try.underlying5 Try.underlying9 HR0.out
  have hcv4 := Kd.C_string (P := Try.prog) (A := A1) (c := c1) Try.underlying28 Try.underlying5 Try.underlying9 HR1.out
  go_enter Try.func58, Try.ntmps58
  go_wp2
  go_ret
  exact ⟨by first | rfl | (simp; done) | (simp [*]; done), by repeat (first | exact Drawn0.refl _ | apply Drawn0.step)⟩

/-! ### quicksetref_LabelDecoded: function 20 -/
open Go.Proofs.Ythnchojddoefiaa.Sep Go.Proofs.Ythnchojddoefiaa.Flet
def refDec (k : Nat) (l : List Int) : Option (Int × Int × Int × Int × Int × Int × Int × Int × Int × Int × Int × Int × Int × Int) :=
  (quicksetref_SumMore.f k 0 0 0 0 (l.take 96)).bind fun s => (quicksetref_sumBytes.f k s.1 s.2.1 s.2.2.1 s.2.2.2.1).bind fun sb => (quicksetref_sameBytes.f sb (l.drop 96)).bind fun t => if t = true then ((quicksetref_LabelMay.f k (dec4 l 0) (dec4 l 1) (dec4 l 2) (dec4 l 3) (dec4 l 4) (dec4 l 5) (dec4 l 6) (dec4 l 7) (dec4 l 8) (dec8 l 36) (dec8 l 44) (dec8 l 52) (dec8 l 60)).bind fun t2 => if t2 = true then ((quicksetref_labelBytes.f k (dec4 l 0) (dec4 l 1) (dec4 l 2) (dec4 l 3) (dec4 l 4) (dec4 l 5) (dec4 l 6) (dec4 l 7) (dec4 l 8) (dec8 l 36) (dec8 l 44) (dec8 l 52) (dec8 l 60)).bind fun lb => (quicksetref_sameBytes.f lb (l.take 96)).bind fun t3 => if t3 = true then some (dec4 l 0, dec4 l 1, dec4 l 2, dec4 l 3, dec4 l 4, dec4 l 5, dec4 l 6, dec4 l 7, dec4 l 8, dec8 l 36, dec8 l 44, dec8 l 52, dec8 l 60, 0) else some (badR 4)) else some (badR 4)) else some (badR 11)
def quicksetref_LabelDecoded.f (k : Nat) (l : List Int) : Option (Int × Int × Int × Int × Int × Int × Int × Int × Int × Int × Int × Int × Int × Int) := if l.length = 128 then (if l.all (fun x => decide (0 ≤ x ∧ x ≤ 255)) = true then refDec k l else none) else some (badR 1)
theorem quicksetref_LabelDecoded.mono : ∀ l k, LeO (quicksetref_LabelDecoded.f k l) (quicksetref_LabelDecoded.f (k + 1) l) := by
  intro a0 k
  unfold quicksetref_LabelDecoded.f refDec
  repeat' first
      | (with_reducible exact quicksetref_LabelMay.mono _ _ _ _ _ _ _ _ _ _ _ _ _ _)
      | (with_reducible exact quicksetref_SumMore.mono _ _ _ _ _ _)
      | (with_reducible exact quicksetref_labelBytes.mono _ _ _ _ _ _ _ _ _ _ _ _ _ _)
      | (with_reducible exact quicksetref_sumBytes.mono _ _ _ _ _)
      | (with_reducible exact LeO.refl _)
      | (with_reducible exact LeO.none _)
      | (with_reducible refine LeO.ite ?_ ?_)
      | (with_reducible refine LeO.bind ?_ (fun _ => ?_))
theorem fl_go (l : List Int) (hb : ∀ x ∈ l, 0 ≤ x ∧ x ≤ 255) (hl : l.length ≤ 128) : ∀ (j k : Nat) (n : Int), j ≤ l.length → j < k → n = numB (l.drop j) % 18446744073709551616 → quicksetref_fromLow.l0 k l n ((j : Int) - 1) = some (wrap64 (numB l))
  | 0, k + 1, n, h1, h2, h3 => by
    rw [quicksetref_fromLow.l0, if_neg (by omega), h3, List.drop_zero]
    unfold wrap64
    congr 1
    omega
  | j + 1, k + 1, n, h1, h2, h3 => by
    have hw : ∀ m : Int, IntKind.u64.wrap m = m % 18446744073709551616 := fun m => by simp [IntKind.wrap, IntKind.signed, IntKind.bits]
    have hd : l.drop j = rd l (j : Int) :: l.drop (j + 1) := by
      rw [List.drop_eq_getElem_cons (by omega)]
      congr 1
      show _ = l.getD ((j : Nat) : Int).toNat 0
      rw [Int.toNat_natCast, List.getD_eq_getElem?_getD, List.getElem?_eq_getElem (by omega)]
      rfl
    have hx : 0 ≤ rd l (j : Int) ∧ rd l (j : Int) ≤ 255 := hb _ (List.mem_of_mem_drop (by rw [hd]; exact List.mem_cons_self))
    rw [quicksetref_fromLow.l0, show ((j + 1 : Nat) : Int) - 1 = (j : Int) from by omega, if_pos (by omega), if_pos (by omega), if_pos (by omega), show wrap64 ((j : Int) - 1) = (j : Int) - 1 from by unfold wrap64; omega]
    refine fl_go l hb hl j k _ (by omega) (by omega) ?_
    rw [hw, hw, hw, hd, numB, h3]
    omega
theorem fromLow_is (l : List Int) (hb : ∀ x ∈ l, 0 ≤ x ∧ x ≤ 255) (hl : l.length ≤ 128) : quicksetref_fromLow.f (l.length + 1) l = some (wrap64 (numB l)) := by
  unfold quicksetref_fromLow.f
  rw [show wrap64 ((l.length : Int) - 1) = (l.length : Int) - 1 from by unfold wrap64; omega]
  exact fl_go l hb hl l.length (l.length + 1) 0 (Nat.le_refl _) (by omega) (by rw [List.drop_length]; rfl)
theorem seg_is {w0 : World} {A : Option Addr} {c : Nat} {l : List Int} (hR : ReadsInt w0 .u8 A 128 l) (hb : ∀ x ∈ l, 0 ≤ x ∧ x ≤ 255) (hc : 128 ≤ c) (a n : Nat) (han : a + n ≤ 128) :
    ∃ A' : Option Addr, ∃ c', (∀ W : World, (Instr.slice 28 (.slice A 128 c) (some (.int .i64 (a : Int))) (some (.int .i64 ((a + n : Nat) : Int))) none).run Try.prog W = .ok (.slice A' n c') W) ∧ (∀ w, Below w0.heap.size w0 w → Calls Try.prog 60 #[.slice A' n c'] w fun e w' => e = .returned (.int .i64 (wrap64 (numB ((l.drop a).take n)))) ∧ Drawn0 w w') := by
  obtain ⟨i0, hi, hz0, hz1, hz2⟩ := info_parts infoB
  have hl : l.length = 128 := hR.1
  have hc' : l.length ≤ c := by omega
  obtain ⟨A', h1, h2, h3⟩ := print_mid_of (P := Try.prog) (Value.int .u8) 0 28 5 .i64 .i64 Try.underlying28 hi hz1 A c l (a : Int) ((a + n : Nat) : Int) (by omega) (by omega) (by omega) hc'
  have e_ : a + n - a = n := by omega
  have hs : (l.take ((a + n : Nat) : Int).toNat).drop ((a : Nat) : Int).toNat = (l.drop a).take n := by rw [Int.toNat_natCast, Int.toNat_natCast, List.drop_take, e_]
  have hn : ((l.drop a).take n).length = n := by rw [List.length_take, List.length_drop]; omega
  have hk := h2 w0 (by rw [hl]; exact readsInt_of.1 hR)
  rw [hs] at hk h3
  rw [hn] at h3
  rw [Int.toNat_natCast] at h3
  refine ⟨A', c - a, fun W => ?_, fun w hw => ?_⟩
  · have h4 := h1 W
    rw [hs, hn, hl, Int.toNat_natCast] at h4
    exact h4
  have := quicksetref_fromLow.calls (((l.drop a).take n).length + 1) A' (c - a) ((l.drop a).take n) _ w (Kd.C_below (Kd.C_of_reads (d := 0) hk) hw) (by rw [hn]; exact h3) (fromLow_is _ (fun x hx => hb x (List.mem_of_mem_drop (List.mem_of_mem_take hx))) (by rw [hn]; omega))
  rw [hn] at this
  exact this
theorem four_calls {w0 w : World} {A : Option Addr} {c : Nat} {l : List Int} (hR : ReadsInt w0 .u8 A 128 l) (hb : ∀ x ∈ l, 0 ≤ x ∧ x ≤ 255) (hc : 128 ≤ c) (i : Nat) (hi : i < 9) (gb : Nat) (hw : Below w0.heap.size w0 w) (hz : w.cell? ⟨gb, 0, none⟩ = some (.slice A 128 c)) :
    Calls Try.prog 59 #[.int .i64 (i : Int), .pointer (some ⟨gb, 0, none⟩)] w fun e w' => e = .returned (.int .i64 (dec4 l i)) ∧ Below w.heap.size w w' := by
  obtain ⟨A', c', h1, h2⟩ := seg_is hR hb hc (4 * i) 4 (by omega)
  have HC := Aside0.mk (h2 w hw)
  have e1 : wrap64 (4 * (i : Int)) = 4 * (i : Int) := by unfold wrap64; omega
  have e2 : wrap64 (4 * (i : Int) + 4) = 4 * (i : Int) + 4 := by unfold wrap64; omega
  rw [show ((4 * i : Nat) : Int) = 4 * (i : Int) from by omega, show ((4 * i + 4 : Nat) : Int) = 4 * (i : Int) + 4 from by omega] at h1
  clear h2 hR hb
  go_enter Try.func59, Try.ntmps59
  go_wp2_with (go_at_call 60; (with_reducible refine HC.out.mono ?_); rintro e w1 ⟨rfl, ⟨nd, rfl⟩⟩)
  go_ret
  exact ⟨rfl, pw_below_drewN (Below.refl _ _) nd⟩
theorem eight_calls {w0 w : World} {A : Option Addr} {c : Nat} {l : List Int} (hR : ReadsInt w0 .u8 A 128 l) (hb : ∀ x ∈ l, 0 ≤ x ∧ x ≤ 255) (hc : 128 ≤ c) (i : Nat) (hi : i < 4) (gb : Nat) (hw : Below w0.heap.size w0 w) (hz : w.cell? ⟨gb, 0, none⟩ = some (.slice A 128 c)) :
    Calls Try.prog 61 #[.int .i64 (i : Int), .pointer (some ⟨gb, 0, none⟩)] w fun e w' => e = .returned (.int .i64 (dec8 l (36 + 8 * i))) ∧ Below w.heap.size w w' := by
  obtain ⟨A', c', h1, h2⟩ := seg_is hR hb hc (36 + 8 * i) 8 (by omega)
  have HC := Aside0.mk (h2 w hw)
  have e1 : wrap64 (8 * (i : Int)) = 8 * (i : Int) := by unfold wrap64; omega
  have e2 : wrap64 (36 + 8 * (i : Int)) = 36 + 8 * (i : Int) := by unfold wrap64; omega
  have e3 : wrap64 (44 + 8 * (i : Int)) = 44 + 8 * (i : Int) := by unfold wrap64; omega
  rw [show ((36 + 8 * i : Nat) : Int) = 36 + 8 * (i : Int) from by omega, show ((36 + 8 * i + 8 : Nat) : Int) = 44 + 8 * (i : Int) from by omega] at h1
  clear h2 hR hb
  go_enter Try.func61, Try.ntmps61
  go_wp2_with (go_at_call 60; (with_reducible refine HC.out.mono ?_); rintro e w1 ⟨rfl, ⟨nd, rfl⟩⟩)
  go_ret
  exact ⟨rfl, pw_below_drewN (Below.refl _ _) nd⟩
theorem four_n0 {w0 w : World} {A : Option Addr} {c : Nat} {l : List Int} (hR : ReadsInt w0 .u8 A 128 l) (hb : ∀ x ∈ l, 0 ≤ x ∧ x ≤ 255) (hc : 128 ≤ c) (gb : Nat) (hw : Below w0.heap.size w0 w) (hz : w.cell? ⟨gb, 0, none⟩ = some (.slice A 128 c)) :
    Calls Try.prog 59 #[.int .i64 0, .pointer (some ⟨gb, 0, none⟩)] w fun e w' => e = .returned (.int .i64 (dec4 l 0)) ∧ Below w.heap.size w w' := four_calls hR hb hc 0 (by decide) gb hw hz
theorem four_n1 {w0 w : World} {A : Option Addr} {c : Nat} {l : List Int} (hR : ReadsInt w0 .u8 A 128 l) (hb : ∀ x ∈ l, 0 ≤ x ∧ x ≤ 255) (hc : 128 ≤ c) (gb : Nat) (hw : Below w0.heap.size w0 w) (hz : w.cell? ⟨gb, 0, none⟩ = some (.slice A 128 c)) :
    Calls Try.prog 59 #[.int .i64 1, .pointer (some ⟨gb, 0, none⟩)] w fun e w' => e = .returned (.int .i64 (dec4 l 1)) ∧ Below w.heap.size w w' := four_calls hR hb hc 1 (by decide) gb hw hz
theorem four_n2 {w0 w : World} {A : Option Addr} {c : Nat} {l : List Int} (hR : ReadsInt w0 .u8 A 128 l) (hb : ∀ x ∈ l, 0 ≤ x ∧ x ≤ 255) (hc : 128 ≤ c) (gb : Nat) (hw : Below w0.heap.size w0 w) (hz : w.cell? ⟨gb, 0, none⟩ = some (.slice A 128 c)) :
    Calls Try.prog 59 #[.int .i64 2, .pointer (some ⟨gb, 0, none⟩)] w fun e w' => e = .returned (.int .i64 (dec4 l 2)) ∧ Below w.heap.size w w' := four_calls hR hb hc 2 (by decide) gb hw hz
theorem four_n3 {w0 w : World} {A : Option Addr} {c : Nat} {l : List Int} (hR : ReadsInt w0 .u8 A 128 l) (hb : ∀ x ∈ l, 0 ≤ x ∧ x ≤ 255) (hc : 128 ≤ c) (gb : Nat) (hw : Below w0.heap.size w0 w) (hz : w.cell? ⟨gb, 0, none⟩ = some (.slice A 128 c)) :
    Calls Try.prog 59 #[.int .i64 3, .pointer (some ⟨gb, 0, none⟩)] w fun e w' => e = .returned (.int .i64 (dec4 l 3)) ∧ Below w.heap.size w w' := four_calls hR hb hc 3 (by decide) gb hw hz
theorem four_n4 {w0 w : World} {A : Option Addr} {c : Nat} {l : List Int} (hR : ReadsInt w0 .u8 A 128 l) (hb : ∀ x ∈ l, 0 ≤ x ∧ x ≤ 255) (hc : 128 ≤ c) (gb : Nat) (hw : Below w0.heap.size w0 w) (hz : w.cell? ⟨gb, 0, none⟩ = some (.slice A 128 c)) :
    Calls Try.prog 59 #[.int .i64 4, .pointer (some ⟨gb, 0, none⟩)] w fun e w' => e = .returned (.int .i64 (dec4 l 4)) ∧ Below w.heap.size w w' := four_calls hR hb hc 4 (by decide) gb hw hz
theorem four_n5 {w0 w : World} {A : Option Addr} {c : Nat} {l : List Int} (hR : ReadsInt w0 .u8 A 128 l) (hb : ∀ x ∈ l, 0 ≤ x ∧ x ≤ 255) (hc : 128 ≤ c) (gb : Nat) (hw : Below w0.heap.size w0 w) (hz : w.cell? ⟨gb, 0, none⟩ = some (.slice A 128 c)) :
    Calls Try.prog 59 #[.int .i64 5, .pointer (some ⟨gb, 0, none⟩)] w fun e w' => e = .returned (.int .i64 (dec4 l 5)) ∧ Below w.heap.size w w' := four_calls hR hb hc 5 (by decide) gb hw hz
theorem four_n6 {w0 w : World} {A : Option Addr} {c : Nat} {l : List Int} (hR : ReadsInt w0 .u8 A 128 l) (hb : ∀ x ∈ l, 0 ≤ x ∧ x ≤ 255) (hc : 128 ≤ c) (gb : Nat) (hw : Below w0.heap.size w0 w) (hz : w.cell? ⟨gb, 0, none⟩ = some (.slice A 128 c)) :
    Calls Try.prog 59 #[.int .i64 6, .pointer (some ⟨gb, 0, none⟩)] w fun e w' => e = .returned (.int .i64 (dec4 l 6)) ∧ Below w.heap.size w w' := four_calls hR hb hc 6 (by decide) gb hw hz
theorem four_n7 {w0 w : World} {A : Option Addr} {c : Nat} {l : List Int} (hR : ReadsInt w0 .u8 A 128 l) (hb : ∀ x ∈ l, 0 ≤ x ∧ x ≤ 255) (hc : 128 ≤ c) (gb : Nat) (hw : Below w0.heap.size w0 w) (hz : w.cell? ⟨gb, 0, none⟩ = some (.slice A 128 c)) :
    Calls Try.prog 59 #[.int .i64 7, .pointer (some ⟨gb, 0, none⟩)] w fun e w' => e = .returned (.int .i64 (dec4 l 7)) ∧ Below w.heap.size w w' := four_calls hR hb hc 7 (by decide) gb hw hz
theorem four_n8 {w0 w : World} {A : Option Addr} {c : Nat} {l : List Int} (hR : ReadsInt w0 .u8 A 128 l) (hb : ∀ x ∈ l, 0 ≤ x ∧ x ≤ 255) (hc : 128 ≤ c) (gb : Nat) (hw : Below w0.heap.size w0 w) (hz : w.cell? ⟨gb, 0, none⟩ = some (.slice A 128 c)) :
    Calls Try.prog 59 #[.int .i64 8, .pointer (some ⟨gb, 0, none⟩)] w fun e w' => e = .returned (.int .i64 (dec4 l 8)) ∧ Below w.heap.size w w' := four_calls hR hb hc 8 (by decide) gb hw hz
theorem eight_n0 {w0 w : World} {A : Option Addr} {c : Nat} {l : List Int} (hR : ReadsInt w0 .u8 A 128 l) (hb : ∀ x ∈ l, 0 ≤ x ∧ x ≤ 255) (hc : 128 ≤ c) (gb : Nat) (hw : Below w0.heap.size w0 w) (hz : w.cell? ⟨gb, 0, none⟩ = some (.slice A 128 c)) :
    Calls Try.prog 61 #[.int .i64 0, .pointer (some ⟨gb, 0, none⟩)] w fun e w' => e = .returned (.int .i64 (dec8 l 36)) ∧ Below w.heap.size w w' := eight_calls hR hb hc 0 (by decide) gb hw hz
theorem eight_n1 {w0 w : World} {A : Option Addr} {c : Nat} {l : List Int} (hR : ReadsInt w0 .u8 A 128 l) (hb : ∀ x ∈ l, 0 ≤ x ∧ x ≤ 255) (hc : 128 ≤ c) (gb : Nat) (hw : Below w0.heap.size w0 w) (hz : w.cell? ⟨gb, 0, none⟩ = some (.slice A 128 c)) :
    Calls Try.prog 61 #[.int .i64 1, .pointer (some ⟨gb, 0, none⟩)] w fun e w' => e = .returned (.int .i64 (dec8 l 44)) ∧ Below w.heap.size w w' := eight_calls hR hb hc 1 (by decide) gb hw hz
theorem eight_n2 {w0 w : World} {A : Option Addr} {c : Nat} {l : List Int} (hR : ReadsInt w0 .u8 A 128 l) (hb : ∀ x ∈ l, 0 ≤ x ∧ x ≤ 255) (hc : 128 ≤ c) (gb : Nat) (hw : Below w0.heap.size w0 w) (hz : w.cell? ⟨gb, 0, none⟩ = some (.slice A 128 c)) :
    Calls Try.prog 61 #[.int .i64 2, .pointer (some ⟨gb, 0, none⟩)] w fun e w' => e = .returned (.int .i64 (dec8 l 52)) ∧ Below w.heap.size w w' := eight_calls hR hb hc 2 (by decide) gb hw hz
theorem eight_n3 {w0 w : World} {A : Option Addr} {c : Nat} {l : List Int} (hR : ReadsInt w0 .u8 A 128 l) (hb : ∀ x ∈ l, 0 ≤ x ∧ x ≤ 255) (hc : 128 ≤ c) (gb : Nat) (hw : Below w0.heap.size w0 w) (hz : w.cell? ⟨gb, 0, none⟩ = some (.slice A 128 c)) :
    Calls Try.prog 61 #[.int .i64 3, .pointer (some ⟨gb, 0, none⟩)] w fun e w' => e = .returned (.int .i64 (dec8 l 60)) ∧ Below w.heap.size w w' := eight_calls hR hb hc 3 (by decide) gb hw hz
set_option maxHeartbeats 8000000 in
set_option maxRecDepth 100000 in
theorem quicksetref_LabelDecoded.fine (k : Nat) (A0 : Option Addr) (c0 : Nat) (l0 : List Int) (r1 r2 r3 r4 r5 r6 r7 r8 r9 r10 r11 r12 r13 r14 : Int) (w : World) (hR : ReadsInt w .u8 A0 128 l0) (hc0 : 128 ≤ c0) (hb : ∀ x ∈ l0, 0 ≤ x ∧ x ≤ 255) (h : refDec k l0 = some (r1, r2, r3, r4, r5, r6, r7, r8, r9, r10, r11, r12, r13, r14)) :
    Calls Try.prog 20 #[.slice A0 128 c0] w fun e w' => e = .returned (.tuple #[.agg #[.int .i64 r1, .int .i64 r2, .int .i64 r3, .int .i64 r4, .int .i64 r5, .int .i64 r6, .int .i64 r7, .int .i64 r8, .int .i64 r9, .int .i64 r10, .int .i64 r11, .int .i64 r12, .int .i64 r13], .int .i64 r14]) ∧ Below w.heap.size w w' := by
  unfold refDec at h
  obtain ⟨⟨s1, s2, s3, s4, s5⟩, hsm, h⟩ := Option.bind_eq_some_iff.1 h
  obtain ⟨sb, hsb, h⟩ := Option.bind_eq_some_iff.1 h
  obtain ⟨t, ht, h⟩ := Option.bind_eq_some_iff.1 h
  have hl0 : l0.length = 128 := hR.1
  have hl96 : (l0.take 96).length = 96 := by rw [List.length_take, hl0]; rfl
  have hl32 : (l0.drop 96).length = 32 := by rw [List.length_drop, hl0]
  have HSM : Aside0 (∀ w', Below w.heap.size w w' → Calls Try.prog 54 #[.agg #[.int .i64 0, .int .i64 0, .int .i64 0, .int .i64 0], .slice A0 96 c0] w' fun e w'' => e = .returned (.tuple #[.agg #[.int .i64 s1, .int .i64 s2, .int .i64 s3, .int .i64 s4], .int .i64 s5]) ∧ Below w'.heap.size w' w'') := ⟨fun w' hw => by
    have h1 := quicksetref_SumMore.calls k 0 0 0 0 A0 c0 (l0.take 96) s1 s2 s3 s4 s5 w' (by rw [hl96]; exact Kd.C_below (Kd.C_of_reads (d := 0) (readsInt_of.1 (hR.take_ 96 (by decide)))) hw) (by rw [hl96]; omega) hsm
    rw [hl96] at h1
    exact h1⟩
  obtain ⟨i0, hi, hz0, hz1, hz2⟩ := info_parts infoB
  obtain ⟨A9, hcut, hA9⟩ := print_cut (P := Try.prog) 28 5 .i64 Try.underlying28 hi hz1 A0 128 c0 96 (by decide)
  have hcut9 : ∀ W : World, (Instr.slice 28 (.slice A0 128 c0) (some (.int .i64 96)) none none).run Try.prog W = .ok (.slice A9 32 (c0 - 96)) W := hcut
  have HQ : Aside0 (∀ w', Below w.heap.size w w' → ∀ Ab cb, Kd.C (Kd.int .u8) w' Ab sb.length sb → sb.length ≤ cb → Calls Try.prog 58 #[.slice Ab sb.length cb, .slice A9 32 (c0 - 96)] w' fun e w'' => e = .returned (.bool t) ∧ Drawn0 w' w'') := ⟨fun w' hw Ab cb h1 h2 => by
    have h3 := quicksetref_sameBytes.calls Ab cb sb A9 (c0 - 96) (l0.drop 96) t w' h1 h2 (by rw [hl32]; exact Kd.C_below (Kd.C_of_reads (d := 0) (readsInt_of.1 (hA9 w .u8 l0 hc0 hR))) hw) (by rw [hl32]; omega) ht
    rw [hl32] at h3
    exact h3⟩
  have HQ2 : Aside0 (∀ (lb : List Int) (t3 : Bool), quicksetref_sameBytes.f lb (l0.take 96) = some t3 → ∀ w', Below w.heap.size w w' → ∀ Ab cb, Kd.C (Kd.int .u8) w' Ab lb.length lb → lb.length ≤ cb → Calls Try.prog 58 #[.slice Ab lb.length cb, .slice A0 96 c0] w' fun e w'' => e = .returned (.bool t3) ∧ Drawn0 w' w'') := ⟨fun lb t3 ht3 w' hw Ab cb h1 h2 => by
    have h3 := quicksetref_sameBytes.calls Ab cb lb A0 c0 (l0.take 96) t3 w' h1 h2 (by rw [hl96]; exact Kd.C_below (Kd.C_of_reads (d := 0) (readsInt_of.1 (hR.take_ 96 (by decide)))) hw) (by rw [hl96]; omega) ht3
    rw [hl96] at h3
    exact h3⟩
  have HS := Aside0.mk (SL.start w)
  have HR := Aside0.mk hR
  have HB := Aside0.mk hb
  have HH := Aside0.mk h
  have HC0 := Aside0.mk hc0
  have HSB := Aside0.mk hsb
  have HSZ : Aside0 ((Try.prog.info? 27).map (·.size) = some 13) := ⟨by kernel_rfl⟩
  have HSZ4 : Aside0 ((Try.prog.info? 23).map (·.size) = some 4) := ⟨by kernel_rfl⟩
  have hul := Try.underlying27
  have hus := Try.underlying23
  have hup := Try.underlying25
  have hc96 : (96 ≤ c0) = True := eq_true (by omega)
  have hc96i : ((96 : Int) ≤ (c0 : Int)) = True := eq_true (by omega)
  clear h hR hb hc0 hsm hsb ht hl0 hl96 hl32 hi hz0 hz1 hz2 hcut hA9
  go_enter Try.func20, Try.ntmps20
  go_upto_region 1 with (first | ((with_reducible refine gate_dst (N := 1) rfl ?_); refine box_event ?hg (N := 1) ?hd (cs := #[.slice A0 128 c0]) (t := 28) ?hr ?_; (case hd => exact rfl); (case hg => exact rfl); (case hr => first | (go_simp; done) | (go_simp; rfl)); intro gb hgb_ w1 hbox_ hb_; have n1_ := Aside0.mk (Sep.SL.newBlk (by repeat (first | (with_reducible first | exact HS.out | apply Sep.SL.drewN | apply Sep.SL.drew | apply Sep.SL.alloc) | exact HS.out)) hb_ hgb_ hbox_); clear HS hgb_ hbox_ hb_; have HS := n1_; clear n1_) | ((with_reducible refine gate_dst (N := 2) rfl ?_); refine box_event ?hg (N := 2) ?hd (cs := #[.int .i64 0, .int .i64 0, .int .i64 0, .int .i64 0, .int .i64 0, .int .i64 0, .int .i64 0, .int .i64 0, .int .i64 0, .int .i64 0, .int .i64 0, .int .i64 0, .int .i64 0]) (t := 27) ?hr ?_; (case hd => exact rfl); (case hg => exact rfl); (case hr => first | (go_simp; done) | (go_simp; rfl)); intro ge hgb_ w2 hbox_ hb_; have n1_ := Aside0.mk (Sep.SL.newBlk (by repeat (first | (with_reducible first | exact HS.out | apply Sep.SL.drewN | apply Sep.SL.drew | apply Sep.SL.alloc) | exact HS.out)) hb_ hgb_ hbox_); clear HS hgb_ hbox_ hb_; have HS := n1_; clear n1_))
  have hz := HS.out.c0 1 rfl
  go_upto_region 4 with (go_at_call 54; (with_reducible refine (HSM.out _ ?hk_).mono ?_); (case hk_ => exact SL.below (w0 := w) (by repeat (first | (with_reducible first | exact HS.out | apply Sep.SL.drewN | apply Sep.SL.drew | apply Sep.SL.alloc) | exact HS.out))); rintro e w8 ⟨rfl, hb_⟩; have n1_ := Aside0.mk (SL.ext (by repeat (first | (with_reducible first | exact HS.out | apply Sep.SL.drewN | apply Sep.SL.drew | apply Sep.SL.alloc) | exact HS.out)) hb_); clear HS hb_ hz; have HS := n1_; clear n1_)
  have HS := Aside0.mk (HS.out.allocBlk #[.int .i64 s1, .int .i64 s2, .int .i64 s3, .int .i64 s4] 23)
  generalize w8.heap.size = gt at HS ⊢
  generalize World.alloc _ _ = w9 at HS ⊢
  (refine start_ (n := 6) (S := (fun w_ => SL w w_ [blkA gt #[.int .i64 s1, .int .i64 s2, .int .i64 s3, .int .i64 s4] 23, blkA ge #[.int .i64 0, .int .i64 0, .int .i64 0, .int .i64 0, .int .i64 0, .int .i64 0, .int .i64 0, .int .i64 0, .int .i64 0, .int .i64 0, .int .i64 0, .int .i64 0, .int .i64 0] 27, blkA gb #[.slice A0 128 c0] 28])) (ds := []) #[false, false, false, false, false, false] (by kernel_rfl) rfl rfl (by repeat (first | (with_reducible first | exact HS.out | apply Sep.SL.drewN | apply Sep.SL.drew | apply Sep.SL.alloc) | exact HS.out)) (fun hHeld => ?_); clear HS; have HS := Aside0.mk hHeld; clear hHeld; generalize World.drew _ = wr_ at HS ⊢)
  (refine take_ (i := 0) (N := some 20) (v := .agg #[.int .i64 s1, .int .i64 s2, .int .i64 s3, .int .i64 s4]) (a' := ?_) #[true, false, false, false, false, false] rfl rfl (by kernel_rfl) (fun _ _ _ h => h) (yields_row (by rfl) 23 (.tmp 4) rfl gt rfl 23 #[.int .i64 s1, .int .i64 s2, .int .i64 s3, .int .i64 s4] (0, 0) _ (fun w_ hS_ => Sep.SL.blk hS_ 0 rfl) hus rfl HSZ4.out) HS.out ?_ ?_; rotate_left; (simp only [Act.put, List.setIfInBounds_toArray, List.set_cons_zero, List.set_cons_succ, i64_w, i32_w]; rfl))
  (refine take_ (i := 2) (N := some 22) (v := (.slice A0 128 c0)) (a' := ?_) #[true, false, true, false, false, false] rfl rfl (by kernel_rfl) (fun _ _ _ h => h) (Or.inl ⟨by rfl, ?_⟩) HS.out ?_ ?_; (intro w_ hS_; (have hz := Sep.SL.c0 hS_ 2 rfl; go_simp)); rotate_left; (simp only [Act.put, List.setIfInBounds_toArray, List.set_cons_zero, List.set_cons_succ, i64_w, i32_w]; rfl))
  (refine pure_ (i := 3) (N := some 23) (v := ?_) (a' := ?_) #[true, false, true, true, false, false] rfl rfl (by kernel_rfl) (fun _ _ _ h => h) (Or.inl ⟨by rfl, ?_⟩) ?_ ?_; rotate_left; (intro w_; go_simp; with_reducible rfl); rotate_left; (simp only [Act.put, List.setIfInBounds_toArray, List.set_cons_zero, List.set_cons_succ, i64_w, i32_w]; rfl))
  (refine one_ (i := 1) (N := some 21) #[true, true, true, true, false, false] rfl rfl (by kernel_rfl) (by decide) (fun K hK => ?_); refine goes_ Try.func55 (by kernel_rfl) rfl #[.agg #[.int .i64 s1, .int .i64 s2, .int .i64 s3, .int .i64 s4]] (by rfl) rfl rfl (by simp only [List.map_toArray, List.map_cons, List.map_nil]; rfl) ?_; refine (quicksetref_sumBytes.calls k s1 s2 s3 s4 sb _ HSB.out).mono ?_; (rintro e w9 ⟨v0_, rfl, hR9, hb9⟩; obtain ⟨Ab, cb, e0⟩ := Kd.R_slice hR9; subst e0; have HR9 := Aside0.mk hR9; have n1_ := Aside0.mk (SL.ext HS.out hb9); clear HS hb9 hR9; have HS := n1_; clear n1_); refine ⟨(.slice Ab sb.length cb), rfl, ?_⟩; refine hK.out _ _ HS.out (fun hHeld => ?_); clear hK K hHeld; refine norm_ (a' := ?_) ?_ ?_; rotate_left; (show Act.put _ (some 21) _ = _; simp only [Act.put, List.setIfInBounds_toArray, List.set_cons_zero, List.set_cons_succ, i64_w, i32_w]; rfl))
  (refine one_ (i := 4) (N := some 24) #[true, true, true, true, true, false] rfl rfl (by kernel_rfl) (by decide) (fun K hK => ?_); refine goes_ Try.func58 (by kernel_rfl) rfl #[.slice Ab sb.length cb, .slice A9 32 (c0 - 96)] (by rfl) rfl rfl (by simp only [List.map_toArray, List.map_cons, List.map_nil]; rfl) ?_; refine (HQ.out _ (SL.below HS.out) Ab cb (Kd.R_reads' HR9.out).2.2 (Kd.R_reads' HR9.out).2.1).mono ?_; (rintro e w10 ⟨rfl, ⟨nd, rfl⟩⟩; have n1_ := Aside0.mk (SL.drewN HS.out nd); clear HS; have HS := n1_; clear n1_); refine ⟨(.bool t), rfl, ?_⟩; refine hK.out _ _ HS.out (fun hHeld => ?_); clear hK K hHeld; refine norm_ (a' := ?_) ?_ ?_; rotate_left; (show Act.put _ (some 24) _ = _; simp only [Act.put, List.setIfInBounds_toArray, List.set_cons_zero, List.set_cons_succ, i64_w, i32_w]; rfl))
  (refine pure_ (i := 5) (N := some 25) (v := ?_) (a' := ?_) #[true, true, true, true, true, true] rfl rfl (by kernel_rfl) (fun _ _ _ h => h) (Or.inl ⟨by rfl, ?_⟩) ?_ ?_; rotate_left; (intro w_; go_simp; with_reducible rfl); rotate_left; (simp only [Act.put, List.setIfInBounds_toArray, List.set_cons_zero, List.set_cons_succ, i64_w, i32_w]; rfl))
  refine done_ (by kernel_rfl) ?_
  generalize World.drewN _ _ = w11 at HS ⊢
  clear HR9 HQ HSM HSB
  cases t with
  | false =>
    have h1_ := HH.out
    rw [if_neg (by decide)] at h1_
    have HRR := Aside0.mk h1_
    clear h1_ HH
    have he0 := blk_at HS.out 1 rfl 0 _ rfl
    have he1 := blk_at HS.out 1 rfl 1 _ rfl
    have he2 := blk_at HS.out 1 rfl 2 _ rfl
    have he3 := blk_at HS.out 1 rfl 3 _ rfl
    have he4 := blk_at HS.out 1 rfl 4 _ rfl
    have he5 := blk_at HS.out 1 rfl 5 _ rfl
    have he6 := blk_at HS.out 1 rfl 6 _ rfl
    have he7 := blk_at HS.out 1 rfl 7 _ rfl
    have he8 := blk_at HS.out 1 rfl 8 _ rfl
    have he9 := blk_at HS.out 1 rfl 9 _ rfl
    have he10 := blk_at HS.out 1 rfl 10 _ rfl
    have he11 := blk_at HS.out 1 rfl 11 _ rfl
    have he12 := blk_at HS.out 1 rfl 12 _ rfl
    have hef := fun i => blk_frozen (HS.out.blk 1 rfl) i
    have h2_ := SL.putAll HS.out 1 rfl [.int .i64 0, .int .i64 0, .int .i64 0, .int .i64 0, .int .i64 0, .int .i64 0, .int .i64 0, .int .i64 0, .int .i64 0, .int .i64 0, .int .i64 0, .int .i64 0, .int .i64 0] rfl
    simp only [puts, Nat.zero_add, Nat.reduceAdd] at h2_
    have HS2 := Aside0.mk h2_
    clear h2_
    go_wp2_with (fail)
    refine bodyPost_ret (v := .tuple #[.agg #[.int .i64 0, .int .i64 0, .int .i64 0, .int .i64 0, .int .i64 0, .int .i64 0, .int .i64 0, .int .i64 0, .int .i64 0, .int .i64 0, .int .i64 0, .int .i64 0, .int .i64 0], .int .i64 11]) (results_cell_tmp rfl _ _ ge 27 #[.int .i64 0, .int .i64 0, .int .i64 0, .int .i64 0, .int .i64 0, .int .i64 0, .int .i64 0, .int .i64 0, .int .i64 0, .int .i64 0, .int .i64 0, .int .i64 0, .int .i64 0] (0, 0) _ rfl (HS2.out.blk 1 rfl) (.int .i64 11) rfl hul rfl HSZ.out) rfl ⟨?_, SL.below HS2.out⟩
    have h1 := Option.some.inj HRR.out
    try unfold badR at h1
    simp only [Prod.mk.injEq] at h1
    obtain ⟨rfl, rfl, rfl, rfl, rfl, rfl, rfl, rfl, rfl, rfl, rfl, rfl, rfl, rfl⟩ := h1
    rfl
  | true =>
    have h1_ := HH.out
    rw [if_pos rfl] at h1_
    obtain ⟨t2, ht2, h1_⟩ := Option.bind_eq_some_iff.1 h1_
    have HH := Aside0.mk h1_
    have HT2 := Aside0.mk ht2
    clear h1_ ht2
    go_upto_region 9 with (first | (go_at_call 59; (with_reducible refine (four_n0 HR.out HB.out HC0.out gb ?hw_ ?hz_).mono ?_); (case hw_ => exact SL.below (w0 := w) (by repeat (first | (with_reducible first | exact HS.out | apply Sep.SL.drewN | apply Sep.SL.drew | apply Sep.SL.alloc) | exact HS.out))); (case hz_ => exact (SL.c0 (by repeat (first | (with_reducible first | exact HS.out | apply Sep.SL.drewN | apply Sep.SL.drew | apply Sep.SL.alloc) | exact HS.out)) 2 rfl).1); rintro e w12 ⟨rfl, hb_⟩; have n1_ := Aside0.mk (SL.ext (by repeat (first | (with_reducible first | exact HS.out | apply Sep.SL.drewN | apply Sep.SL.drew | apply Sep.SL.alloc) | exact HS.out)) hb_); clear HS hb_; have HS := n1_; clear n1_) | (go_at_call 59; (with_reducible refine (four_n1 HR.out HB.out HC0.out gb ?hw_ ?hz_).mono ?_); (case hw_ => exact SL.below (w0 := w) (by repeat (first | (with_reducible first | exact HS.out | apply Sep.SL.drewN | apply Sep.SL.drew | apply Sep.SL.alloc) | exact HS.out))); (case hz_ => exact (SL.c0 (by repeat (first | (with_reducible first | exact HS.out | apply Sep.SL.drewN | apply Sep.SL.drew | apply Sep.SL.alloc) | exact HS.out)) 2 rfl).1); rintro e w12 ⟨rfl, hb_⟩; have n1_ := Aside0.mk (SL.ext (by repeat (first | (with_reducible first | exact HS.out | apply Sep.SL.drewN | apply Sep.SL.drew | apply Sep.SL.alloc) | exact HS.out)) hb_); clear HS hb_; have HS := n1_; clear n1_) | (go_at_call 59; (with_reducible refine (four_n2 HR.out HB.out HC0.out gb ?hw_ ?hz_).mono ?_); (case hw_ => exact SL.below (w0 := w) (by repeat (first | (with_reducible first | exact HS.out | apply Sep.SL.drewN | apply Sep.SL.drew | apply Sep.SL.alloc) | exact HS.out))); (case hz_ => exact (SL.c0 (by repeat (first | (with_reducible first | exact HS.out | apply Sep.SL.drewN | apply Sep.SL.drew | apply Sep.SL.alloc) | exact HS.out)) 2 rfl).1); rintro e w12 ⟨rfl, hb_⟩; have n1_ := Aside0.mk (SL.ext (by repeat (first | (with_reducible first | exact HS.out | apply Sep.SL.drewN | apply Sep.SL.drew | apply Sep.SL.alloc) | exact HS.out)) hb_); clear HS hb_; have HS := n1_; clear n1_) | (go_at_call 59; (with_reducible refine (four_n3 HR.out HB.out HC0.out gb ?hw_ ?hz_).mono ?_); (case hw_ => exact SL.below (w0 := w) (by repeat (first | (with_reducible first | exact HS.out | apply Sep.SL.drewN | apply Sep.SL.drew | apply Sep.SL.alloc) | exact HS.out))); (case hz_ => exact (SL.c0 (by repeat (first | (with_reducible first | exact HS.out | apply Sep.SL.drewN | apply Sep.SL.drew | apply Sep.SL.alloc) | exact HS.out)) 2 rfl).1); rintro e w12 ⟨rfl, hb_⟩; have n1_ := Aside0.mk (SL.ext (by repeat (first | (with_reducible first | exact HS.out | apply Sep.SL.drewN | apply Sep.SL.drew | apply Sep.SL.alloc) | exact HS.out)) hb_); clear HS hb_; have HS := n1_; clear n1_) | (go_at_call 59; (with_reducible refine (four_n4 HR.out HB.out HC0.out gb ?hw_ ?hz_).mono ?_); (case hw_ => exact SL.below (w0 := w) (by repeat (first | (with_reducible first | exact HS.out | apply Sep.SL.drewN | apply Sep.SL.drew | apply Sep.SL.alloc) | exact HS.out))); (case hz_ => exact (SL.c0 (by repeat (first | (with_reducible first | exact HS.out | apply Sep.SL.drewN | apply Sep.SL.drew | apply Sep.SL.alloc) | exact HS.out)) 2 rfl).1); rintro e w12 ⟨rfl, hb_⟩; have n1_ := Aside0.mk (SL.ext (by repeat (first | (with_reducible first | exact HS.out | apply Sep.SL.drewN | apply Sep.SL.drew | apply Sep.SL.alloc) | exact HS.out)) hb_); clear HS hb_; have HS := n1_; clear n1_))
    have HS := Aside0.mk (HS.out.allocBlk #[.int .i64 (dec4 l0 0), .int .i64 (dec4 l0 1), .int .i64 (dec4 l0 2), .int .i64 (dec4 l0 3), .int .i64 (dec4 l0 4), .int .i64 0, .int .i64 0, .int .i64 0, .int .i64 0, .int .i64 0, .int .i64 0, .int .i64 0, .int .i64 0] 27)
    generalize w12.heap.size = gx at HS ⊢
    generalize World.alloc _ _ = w13 at HS ⊢
    have hpv := fun (W : World) (q : SL w W [blkA gx #[.int .i64 (dec4 l0 0), .int .i64 (dec4 l0 1), .int .i64 (dec4 l0 2), .int .i64 (dec4 l0 3), .int .i64 (dec4 l0 4), .int .i64 0, .int .i64 0, .int .i64 0, .int .i64 0, .int .i64 0, .int .i64 0, .int .i64 0, .int .i64 0] 27, blkA gt #[.int .i64 s1, .int .i64 s2, .int .i64 s3, .int .i64 s4] 23, blkA ge #[.int .i64 0, .int .i64 0, .int .i64 0, .int .i64 0, .int .i64 0, .int .i64 0, .int .i64 0, .int .i64 0, .int .i64 0, .int .i64 0, .int .i64 0, .int .i64 0, .int .i64 0] 27, blkA gb #[.slice A0 128 c0] 28]) => SL.puts_go (#[.int .i64 (dec4 l0 5), .int .i64 (dec4 l0 6), .int .i64 (dec4 l0 7), .int .i64 (dec4 l0 8), .int .i64 (dec8 l0 36), .int .i64 (dec8 l0 44), .int .i64 (dec8 l0 52), .int .i64 (dec8 l0 60)].toList) (#[.int .i64 (dec4 l0 0), .int .i64 (dec4 l0 1), .int .i64 (dec4 l0 2), .int .i64 (dec4 l0 3), .int .i64 (dec4 l0 4)].toList) (#[.int .i64 0, .int .i64 0, .int .i64 0, .int .i64 0, .int .i64 0, .int .i64 0, .int .i64 0, .int .i64 0].toList) W _ 0 q rfl rfl
    have HPV := Aside0.mk hpv
    clear hpv
    go_upto_region 10 with (first | (go_at_call 59; (with_reducible refine (four_n5 HR.out HB.out HC0.out gb ?hw_ ?hz_).mono ?_); (case hw_ => exact SL.below (w0 := w) (by repeat (first | (with_reducible first | exact HS.out | apply Sep.SL.drewN | apply Sep.SL.drew | apply Sep.SL.alloc) | exact HS.out))); (case hz_ => exact (SL.c0 (by repeat (first | (with_reducible first | exact HS.out | apply Sep.SL.drewN | apply Sep.SL.drew | apply Sep.SL.alloc) | exact HS.out)) 3 rfl).1); rintro e w14 ⟨rfl, hb_⟩; have n1_ := Aside0.mk (SL.ext (by repeat (first | (with_reducible first | exact HS.out | apply Sep.SL.drewN | apply Sep.SL.drew | apply Sep.SL.alloc) | exact HS.out)) hb_); clear HS hb_; have HS := n1_; clear n1_) | (go_at_call 59; (with_reducible refine (four_n6 HR.out HB.out HC0.out gb ?hw_ ?hz_).mono ?_); (case hw_ => exact SL.below (w0 := w) (by repeat (first | (with_reducible first | exact HS.out | apply Sep.SL.drewN | apply Sep.SL.drew | apply Sep.SL.alloc) | exact HS.out))); (case hz_ => exact (SL.c0 (by repeat (first | (with_reducible first | exact HS.out | apply Sep.SL.drewN | apply Sep.SL.drew | apply Sep.SL.alloc) | exact HS.out)) 3 rfl).1); rintro e w14 ⟨rfl, hb_⟩; have n1_ := Aside0.mk (SL.ext (by repeat (first | (with_reducible first | exact HS.out | apply Sep.SL.drewN | apply Sep.SL.drew | apply Sep.SL.alloc) | exact HS.out)) hb_); clear HS hb_; have HS := n1_; clear n1_) | (go_at_call 59; (with_reducible refine (four_n7 HR.out HB.out HC0.out gb ?hw_ ?hz_).mono ?_); (case hw_ => exact SL.below (w0 := w) (by repeat (first | (with_reducible first | exact HS.out | apply Sep.SL.drewN | apply Sep.SL.drew | apply Sep.SL.alloc) | exact HS.out))); (case hz_ => exact (SL.c0 (by repeat (first | (with_reducible first | exact HS.out | apply Sep.SL.drewN | apply Sep.SL.drew | apply Sep.SL.alloc) | exact HS.out)) 3 rfl).1); rintro e w14 ⟨rfl, hb_⟩; have n1_ := Aside0.mk (SL.ext (by repeat (first | (with_reducible first | exact HS.out | apply Sep.SL.drewN | apply Sep.SL.drew | apply Sep.SL.alloc) | exact HS.out)) hb_); clear HS hb_; have HS := n1_; clear n1_) | (go_at_call 59; (with_reducible refine (four_n8 HR.out HB.out HC0.out gb ?hw_ ?hz_).mono ?_); (case hw_ => exact SL.below (w0 := w) (by repeat (first | (with_reducible first | exact HS.out | apply Sep.SL.drewN | apply Sep.SL.drew | apply Sep.SL.alloc) | exact HS.out))); (case hz_ => exact (SL.c0 (by repeat (first | (with_reducible first | exact HS.out | apply Sep.SL.drewN | apply Sep.SL.drew | apply Sep.SL.alloc) | exact HS.out)) 3 rfl).1); rintro e w14 ⟨rfl, hb_⟩; have n1_ := Aside0.mk (SL.ext (by repeat (first | (with_reducible first | exact HS.out | apply Sep.SL.drewN | apply Sep.SL.drew | apply Sep.SL.alloc) | exact HS.out)) hb_); clear HS hb_; have HS := n1_; clear n1_) | (go_at_call 61; (with_reducible refine (eight_n0 HR.out HB.out HC0.out gb ?hw_ ?hz_).mono ?_); (case hw_ => exact SL.below (w0 := w) (by repeat (first | (with_reducible first | exact HS.out | apply Sep.SL.drewN | apply Sep.SL.drew | apply Sep.SL.alloc) | exact HS.out))); (case hz_ => exact (SL.c0 (by repeat (first | (with_reducible first | exact HS.out | apply Sep.SL.drewN | apply Sep.SL.drew | apply Sep.SL.alloc) | exact HS.out)) 3 rfl).1); rintro e w14 ⟨rfl, hb_⟩; have n1_ := Aside0.mk (SL.ext (by repeat (first | (with_reducible first | exact HS.out | apply Sep.SL.drewN | apply Sep.SL.drew | apply Sep.SL.alloc) | exact HS.out)) hb_); clear HS hb_; have HS := n1_; clear n1_) | (go_at_call 61; (with_reducible refine (eight_n1 HR.out HB.out HC0.out gb ?hw_ ?hz_).mono ?_); (case hw_ => exact SL.below (w0 := w) (by repeat (first | (with_reducible first | exact HS.out | apply Sep.SL.drewN | apply Sep.SL.drew | apply Sep.SL.alloc) | exact HS.out))); (case hz_ => exact (SL.c0 (by repeat (first | (with_reducible first | exact HS.out | apply Sep.SL.drewN | apply Sep.SL.drew | apply Sep.SL.alloc) | exact HS.out)) 3 rfl).1); rintro e w14 ⟨rfl, hb_⟩; have n1_ := Aside0.mk (SL.ext (by repeat (first | (with_reducible first | exact HS.out | apply Sep.SL.drewN | apply Sep.SL.drew | apply Sep.SL.alloc) | exact HS.out)) hb_); clear HS hb_; have HS := n1_; clear n1_) | (go_at_call 61; (with_reducible refine (eight_n2 HR.out HB.out HC0.out gb ?hw_ ?hz_).mono ?_); (case hw_ => exact SL.below (w0 := w) (by repeat (first | (with_reducible first | exact HS.out | apply Sep.SL.drewN | apply Sep.SL.drew | apply Sep.SL.alloc) | exact HS.out))); (case hz_ => exact (SL.c0 (by repeat (first | (with_reducible first | exact HS.out | apply Sep.SL.drewN | apply Sep.SL.drew | apply Sep.SL.alloc) | exact HS.out)) 3 rfl).1); rintro e w14 ⟨rfl, hb_⟩; have n1_ := Aside0.mk (SL.ext (by repeat (first | (with_reducible first | exact HS.out | apply Sep.SL.drewN | apply Sep.SL.drew | apply Sep.SL.alloc) | exact HS.out)) hb_); clear HS hb_; have HS := n1_; clear n1_) | (go_at_call 61; (with_reducible refine (eight_n3 HR.out HB.out HC0.out gb ?hw_ ?hz_).mono ?_); (case hw_ => exact SL.below (w0 := w) (by repeat (first | (with_reducible first | exact HS.out | apply Sep.SL.drewN | apply Sep.SL.drew | apply Sep.SL.alloc) | exact HS.out))); (case hz_ => exact (SL.c0 (by repeat (first | (with_reducible first | exact HS.out | apply Sep.SL.drewN | apply Sep.SL.drew | apply Sep.SL.alloc) | exact HS.out)) 3 rfl).1); rintro e w14 ⟨rfl, hb_⟩; have n1_ := Aside0.mk (SL.ext (by repeat (first | (with_reducible first | exact HS.out | apply Sep.SL.drewN | apply Sep.SL.drew | apply Sep.SL.alloc) | exact HS.out)) hb_); clear HS hb_; have HS := n1_; clear n1_; have hx5 := blk_at HS.out 0 rfl 5 _ rfl; have hx6 := blk_at HS.out 0 rfl 6 _ rfl; have hx7 := blk_at HS.out 0 rfl 7 _ rfl; have hx8 := blk_at HS.out 0 rfl 8 _ rfl; have hx9 := blk_at HS.out 0 rfl 9 _ rfl; have hx10 := blk_at HS.out 0 rfl 10 _ rfl; have hx11 := blk_at HS.out 0 rfl 11 _ rfl; have hx12 := blk_at HS.out 0 rfl 12 _ rfl; have hxf := fun i => blk_frozen (HS.out.blk 0 rfl) i))
    have h2_ := HPV.out _ HS.out
    simp only [puts, List.length, Nat.zero_add, Nat.reduceAdd] at h2_
    have HS := Aside0.mk h2_
    clear h2_ HPV
    generalize World.setCell _ _ _ = w15 at HS ⊢
    cases t2 with
    | false =>
      have h1_ := HH.out
      rw [if_neg (by decide)] at h1_
      have HRR := Aside0.mk h1_
      clear h1_ HH
      (refine start_ (n := 11) (S := (fun w_ => SL w w_ [blkA gx #[.int .i64 (dec4 l0 0), .int .i64 (dec4 l0 1), .int .i64 (dec4 l0 2), .int .i64 (dec4 l0 3), .int .i64 (dec4 l0 4), .int .i64 (dec4 l0 5), .int .i64 (dec4 l0 6), .int .i64 (dec4 l0 7), .int .i64 (dec4 l0 8), .int .i64 (dec8 l0 36), .int .i64 (dec8 l0 44), .int .i64 (dec8 l0 52), .int .i64 (dec8 l0 60)] 27, blkA gt #[.int .i64 s1, .int .i64 s2, .int .i64 s3, .int .i64 s4] 23, blkA ge #[.int .i64 0, .int .i64 0, .int .i64 0, .int .i64 0, .int .i64 0, .int .i64 0, .int .i64 0, .int .i64 0, .int .i64 0, .int .i64 0, .int .i64 0, .int .i64 0, .int .i64 0] 27, blkA gb #[.slice A0 128 c0] 28])) (ds := []) #[false, false, false, false, false, false, false, false, false, false, false] (by kernel_rfl) rfl rfl (by repeat (first | (with_reducible first | exact HS.out | apply Sep.SL.drewN | apply Sep.SL.drew | apply Sep.SL.alloc) | exact HS.out)) (fun hHeld => ?_); clear HS; have HS := Aside0.mk hHeld; clear hHeld; generalize World.drew _ = wr_ at HS ⊢)
      (refine take_ (i := 0) (N := some 59) (v := .agg #[.int .i64 (dec4 l0 0), .int .i64 (dec4 l0 1), .int .i64 (dec4 l0 2), .int .i64 (dec4 l0 3), .int .i64 (dec4 l0 4), .int .i64 (dec4 l0 5), .int .i64 (dec4 l0 6), .int .i64 (dec4 l0 7), .int .i64 (dec4 l0 8), .int .i64 (dec8 l0 36), .int .i64 (dec8 l0 44), .int .i64 (dec8 l0 52), .int .i64 (dec8 l0 60)]) (a' := ?_) #[true, false, false, false, false, false, false, false, false, false, false] rfl rfl (by kernel_rfl) (fun _ _ _ h => h) (yields_row (by rfl) 27 (.tmp 8) rfl gx rfl 27 #[.int .i64 (dec4 l0 0), .int .i64 (dec4 l0 1), .int .i64 (dec4 l0 2), .int .i64 (dec4 l0 3), .int .i64 (dec4 l0 4), .int .i64 (dec4 l0 5), .int .i64 (dec4 l0 6), .int .i64 (dec4 l0 7), .int .i64 (dec4 l0 8), .int .i64 (dec8 l0 36), .int .i64 (dec8 l0 44), .int .i64 (dec8 l0 52), .int .i64 (dec8 l0 60)] (0, 0) _ (fun w_ hS_ => Sep.SL.blk hS_ 0 rfl) hul rfl HSZ.out) HS.out ?_ ?_; rotate_left; (simp only [Act.put, List.setIfInBounds_toArray, List.set_cons_zero, List.set_cons_succ, i64_w, i32_w]; rfl))
      (refine one_ (i := 1) (N := some 60) #[true, true, false, false, false, false, false, false, false, false, false] rfl rfl (by kernel_rfl) (by decide) (fun K hK => ?_); refine goes_ Try.func52 (by kernel_rfl) rfl #[.agg #[.int .i64 (dec4 l0 0), .int .i64 (dec4 l0 1), .int .i64 (dec4 l0 2), .int .i64 (dec4 l0 3), .int .i64 (dec4 l0 4), .int .i64 (dec4 l0 5), .int .i64 (dec4 l0 6), .int .i64 (dec4 l0 7), .int .i64 (dec4 l0 8), .int .i64 (dec8 l0 36), .int .i64 (dec8 l0 44), .int .i64 (dec8 l0 52), .int .i64 (dec8 l0 60)]] (by rfl) rfl rfl (by simp only [List.map_toArray, List.map_cons, List.map_nil]; rfl) ?_; refine (quicksetref_LabelMay.calls k (dec4 l0 0) (dec4 l0 1) (dec4 l0 2) (dec4 l0 3) (dec4 l0 4) (dec4 l0 5) (dec4 l0 6) (dec4 l0 7) (dec4 l0 8) (dec8 l0 36) (dec8 l0 44) (dec8 l0 52) (dec8 l0 60) false _ HT2.out).mono ?_; (rintro e w16 ⟨rfl, hb_⟩; have n1_ := Aside0.mk (SL.ext HS.out hb_); clear HS hb_; have HS := n1_; clear n1_); refine ⟨(.bool false), rfl, ?_⟩; refine hK.out _ _ HS.out (fun hHeld => ?_); clear hK K hHeld; refine norm_ (a' := ?_) ?_ ?_; rotate_left; (show Act.put _ (some 60) _ = _; simp only [Act.put, List.setIfInBounds_toArray, List.set_cons_zero, List.set_cons_succ, i64_w, i32_w]; rfl))
      (refine pure_ (i := 2) (N := some 61) (v := ?_) (a' := ?_) #[true, true, true, false, false, false, false, false, false, false, false] rfl rfl (by kernel_rfl) (fun _ _ _ h => h) (Or.inl ⟨by rfl, ?_⟩) ?_ ?_; rotate_left; (intro w_; go_simp; with_reducible rfl); rotate_left; (simp only [Act.put, List.setIfInBounds_toArray, List.set_cons_zero, List.set_cons_succ, i64_w, i32_w]; rfl))
      (refine pure_ (i := 3) (N := some 62) (v := ?_) (a' := ?_) #[true, true, true, true, false, false, false, false, false, false, false] rfl rfl (by kernel_rfl) (fun _ _ _ h => h) (Or.inl ⟨by rfl, ?_⟩) ?_ ?_; rotate_left; (intro w_; go_simp; with_reducible rfl); rotate_left; (simp only [Act.put, List.setIfInBounds_toArray, List.set_cons_zero, List.set_cons_succ, i64_w, i32_w]; rfl))
      (refine pure_ (i := 4) (N := some 63) (v := undef) (a' := ?_) #[true, true, true, true, true, false, false, false, false, false, false] rfl rfl (by kernel_rfl) (fun _ _ _ h => h) (Or.inr ⟨by rfl, rfl⟩) ?_ ?_; rotate_left; (simp only [Act.put, List.setIfInBounds_toArray, List.set_cons_zero, List.set_cons_succ, i64_w, i32_w]; rfl))
      (refine pure_ (i := 5) (N := some 64) (v := undef) (a' := ?_) #[true, true, true, true, true, true, false, false, false, false, false] rfl rfl (by kernel_rfl) (fun _ _ _ h => h) (Or.inr ⟨by rfl, rfl⟩) ?_ ?_; rotate_left; (simp only [Act.put, List.setIfInBounds_toArray, List.set_cons_zero, List.set_cons_succ, i64_w, i32_w]; rfl))
      (refine pure_ (i := 6) (N := some 65) (v := undef) (a' := ?_) #[true, true, true, true, true, true, true, false, false, false, false] rfl rfl (by kernel_rfl) (fun _ _ _ h => h) (Or.inr ⟨by rfl, rfl⟩) ?_ ?_; rotate_left; (simp only [Act.put, List.setIfInBounds_toArray, List.set_cons_zero, List.set_cons_succ, i64_w, i32_w]; rfl))
      (refine pure_ (i := 7) (N := some 66) (v := undef) (a' := ?_) #[true, true, true, true, true, true, true, true, false, false, false] rfl rfl (by kernel_rfl) (fun _ _ _ h => h) (Or.inr ⟨by rfl, rfl⟩) ?_ ?_; rotate_left; (simp only [Act.put, List.setIfInBounds_toArray, List.set_cons_zero, List.set_cons_succ, i64_w, i32_w]; rfl))
      (refine pure_ (i := 8) (N := some 67) (v := undef) (a' := ?_) #[true, true, true, true, true, true, true, true, true, false, false] rfl rfl (by kernel_rfl) (fun _ _ _ h => h) (Or.inr ⟨by rfl, rfl⟩) ?_ ?_; rotate_left; (simp only [Act.put, List.setIfInBounds_toArray, List.set_cons_zero, List.set_cons_succ, i64_w, i32_w]; rfl))
      (refine pure_ (i := 9) (N := some 68) (v := undef) (a' := ?_) #[true, true, true, true, true, true, true, true, true, true, false] rfl rfl (by kernel_rfl) (fun _ _ _ h => h) (Or.inr ⟨by rfl, rfl⟩) ?_ ?_; rotate_left; (simp only [Act.put, List.setIfInBounds_toArray, List.set_cons_zero, List.set_cons_succ, i64_w, i32_w]; rfl))
      (refine pure_ (i := 10) (N := some 69) (v := ?_) (a' := ?_) #[true, true, true, true, true, true, true, true, true, true, true] rfl rfl (by kernel_rfl) (fun _ _ _ h => h) (Or.inl ⟨by rfl, ?_⟩) ?_ ?_; rotate_left; (intro w_; go_simp; with_reducible rfl); rotate_left; (simp only [Act.put, List.setIfInBounds_toArray, List.set_cons_zero, List.set_cons_succ, i64_w, i32_w]; rfl))
      refine done_ (by kernel_rfl) ?_
      have he0 := blk_at HS.out 2 rfl 0 _ rfl
      have he1 := blk_at HS.out 2 rfl 1 _ rfl
      have he2 := blk_at HS.out 2 rfl 2 _ rfl
      have he3 := blk_at HS.out 2 rfl 3 _ rfl
      have he4 := blk_at HS.out 2 rfl 4 _ rfl
      have he5 := blk_at HS.out 2 rfl 5 _ rfl
      have he6 := blk_at HS.out 2 rfl 6 _ rfl
      have he7 := blk_at HS.out 2 rfl 7 _ rfl
      have he8 := blk_at HS.out 2 rfl 8 _ rfl
      have he9 := blk_at HS.out 2 rfl 9 _ rfl
      have he10 := blk_at HS.out 2 rfl 10 _ rfl
      have he11 := blk_at HS.out 2 rfl 11 _ rfl
      have he12 := blk_at HS.out 2 rfl 12 _ rfl
      have hef := fun i => blk_frozen (HS.out.blk 2 rfl) i
      have h2_ := SL.putAll HS.out 2 rfl [.int .i64 0, .int .i64 0, .int .i64 0, .int .i64 0, .int .i64 0, .int .i64 0, .int .i64 0, .int .i64 0, .int .i64 0, .int .i64 0, .int .i64 0, .int .i64 0, .int .i64 0] rfl
      simp only [puts, Nat.zero_add, Nat.reduceAdd] at h2_
      have HS2 := Aside0.mk h2_
      clear h2_
      go_wp2_with (fail)
      refine bodyPost_ret (v := .tuple #[.agg #[.int .i64 0, .int .i64 0, .int .i64 0, .int .i64 0, .int .i64 0, .int .i64 0, .int .i64 0, .int .i64 0, .int .i64 0, .int .i64 0, .int .i64 0, .int .i64 0, .int .i64 0], .int .i64 4]) (results_cell_tmp rfl _ _ ge 27 #[.int .i64 0, .int .i64 0, .int .i64 0, .int .i64 0, .int .i64 0, .int .i64 0, .int .i64 0, .int .i64 0, .int .i64 0, .int .i64 0, .int .i64 0, .int .i64 0, .int .i64 0] (0, 0) _ rfl (HS2.out.blk 2 rfl) (.int .i64 4) rfl hul rfl HSZ.out) rfl ⟨?_, SL.below HS2.out⟩
      have h1 := Option.some.inj HRR.out
      try unfold badR at h1
      simp only [Prod.mk.injEq] at h1
      obtain ⟨rfl, rfl, rfl, rfl, rfl, rfl, rfl, rfl, rfl, rfl, rfl, rfl, rfl, rfl⟩ := h1
      rfl
    | true =>
      have h1_ := HH.out
      rw [if_pos rfl] at h1_
      obtain ⟨lb, hlb, h1_⟩ := Option.bind_eq_some_iff.1 h1_
      obtain ⟨t3, ht3, h1_⟩ := Option.bind_eq_some_iff.1 h1_
      have HH := Aside0.mk h1_
      have HLB := Aside0.mk hlb
      have HT3 := Aside0.mk ht3
      clear h1_ hlb ht3
      (refine start_ (n := 11) (S := (fun w_ => SL w w_ [blkA gx #[.int .i64 (dec4 l0 0), .int .i64 (dec4 l0 1), .int .i64 (dec4 l0 2), .int .i64 (dec4 l0 3), .int .i64 (dec4 l0 4), .int .i64 (dec4 l0 5), .int .i64 (dec4 l0 6), .int .i64 (dec4 l0 7), .int .i64 (dec4 l0 8), .int .i64 (dec8 l0 36), .int .i64 (dec8 l0 44), .int .i64 (dec8 l0 52), .int .i64 (dec8 l0 60)] 27, blkA gt #[.int .i64 s1, .int .i64 s2, .int .i64 s3, .int .i64 s4] 23, blkA ge #[.int .i64 0, .int .i64 0, .int .i64 0, .int .i64 0, .int .i64 0, .int .i64 0, .int .i64 0, .int .i64 0, .int .i64 0, .int .i64 0, .int .i64 0, .int .i64 0, .int .i64 0] 27, blkA gb #[.slice A0 128 c0] 28])) (ds := []) #[false, false, false, false, false, false, false, false, false, false, false] (by kernel_rfl) rfl rfl (by repeat (first | (with_reducible first | exact HS.out | apply Sep.SL.drewN | apply Sep.SL.drew | apply Sep.SL.alloc) | exact HS.out)) (fun hHeld => ?_); clear HS; have HS := Aside0.mk hHeld; clear hHeld; generalize World.drew _ = wr_ at HS ⊢)
      (refine take_ (i := 0) (N := some 59) (v := .agg #[.int .i64 (dec4 l0 0), .int .i64 (dec4 l0 1), .int .i64 (dec4 l0 2), .int .i64 (dec4 l0 3), .int .i64 (dec4 l0 4), .int .i64 (dec4 l0 5), .int .i64 (dec4 l0 6), .int .i64 (dec4 l0 7), .int .i64 (dec4 l0 8), .int .i64 (dec8 l0 36), .int .i64 (dec8 l0 44), .int .i64 (dec8 l0 52), .int .i64 (dec8 l0 60)]) (a' := ?_) #[true, false, false, false, false, false, false, false, false, false, false] rfl rfl (by kernel_rfl) (fun _ _ _ h => h) (yields_row (by rfl) 27 (.tmp 8) rfl gx rfl 27 #[.int .i64 (dec4 l0 0), .int .i64 (dec4 l0 1), .int .i64 (dec4 l0 2), .int .i64 (dec4 l0 3), .int .i64 (dec4 l0 4), .int .i64 (dec4 l0 5), .int .i64 (dec4 l0 6), .int .i64 (dec4 l0 7), .int .i64 (dec4 l0 8), .int .i64 (dec8 l0 36), .int .i64 (dec8 l0 44), .int .i64 (dec8 l0 52), .int .i64 (dec8 l0 60)] (0, 0) _ (fun w_ hS_ => Sep.SL.blk hS_ 0 rfl) hul rfl HSZ.out) HS.out ?_ ?_; rotate_left; (simp only [Act.put, List.setIfInBounds_toArray, List.set_cons_zero, List.set_cons_succ, i64_w, i32_w]; rfl))
      (refine one_ (i := 1) (N := some 60) #[true, true, false, false, false, false, false, false, false, false, false] rfl rfl (by kernel_rfl) (by decide) (fun K hK => ?_); refine goes_ Try.func52 (by kernel_rfl) rfl #[.agg #[.int .i64 (dec4 l0 0), .int .i64 (dec4 l0 1), .int .i64 (dec4 l0 2), .int .i64 (dec4 l0 3), .int .i64 (dec4 l0 4), .int .i64 (dec4 l0 5), .int .i64 (dec4 l0 6), .int .i64 (dec4 l0 7), .int .i64 (dec4 l0 8), .int .i64 (dec8 l0 36), .int .i64 (dec8 l0 44), .int .i64 (dec8 l0 52), .int .i64 (dec8 l0 60)]] (by rfl) rfl rfl (by simp only [List.map_toArray, List.map_cons, List.map_nil]; rfl) ?_; refine (quicksetref_LabelMay.calls k (dec4 l0 0) (dec4 l0 1) (dec4 l0 2) (dec4 l0 3) (dec4 l0 4) (dec4 l0 5) (dec4 l0 6) (dec4 l0 7) (dec4 l0 8) (dec8 l0 36) (dec8 l0 44) (dec8 l0 52) (dec8 l0 60) true _ HT2.out).mono ?_; (rintro e w16 ⟨rfl, hb_⟩; have n1_ := Aside0.mk (SL.ext HS.out hb_); clear HS hb_; have HS := n1_; clear n1_); refine ⟨(.bool true), rfl, ?_⟩; refine hK.out _ _ HS.out (fun hHeld => ?_); clear hK K hHeld; refine norm_ (a' := ?_) ?_ ?_; rotate_left; (show Act.put _ (some 60) _ = _; simp only [Act.put, List.setIfInBounds_toArray, List.set_cons_zero, List.set_cons_succ, i64_w, i32_w]; rfl))
      (refine pure_ (i := 2) (N := some 61) (v := ?_) (a' := ?_) #[true, true, true, false, false, false, false, false, false, false, false] rfl rfl (by kernel_rfl) (fun _ _ _ h => h) (Or.inl ⟨by rfl, ?_⟩) ?_ ?_; rotate_left; (intro w_; go_simp; with_reducible rfl); rotate_left; (simp only [Act.put, List.setIfInBounds_toArray, List.set_cons_zero, List.set_cons_succ, i64_w, i32_w]; rfl))
      (refine pure_ (i := 3) (N := some 62) (v := ?_) (a' := ?_) #[true, true, true, true, false, false, false, false, false, false, false] rfl rfl (by kernel_rfl) (fun _ _ _ h => h) (Or.inl ⟨by rfl, ?_⟩) ?_ ?_; rotate_left; (intro w_; go_simp; with_reducible rfl); rotate_left; (simp only [Act.put, List.setIfInBounds_toArray, List.set_cons_zero, List.set_cons_succ, i64_w, i32_w]; rfl))
      (refine take_ (i := 4) (N := some 63) (v := .agg #[.int .i64 (dec4 l0 0), .int .i64 (dec4 l0 1), .int .i64 (dec4 l0 2), .int .i64 (dec4 l0 3), .int .i64 (dec4 l0 4), .int .i64 (dec4 l0 5), .int .i64 (dec4 l0 6), .int .i64 (dec4 l0 7), .int .i64 (dec4 l0 8), .int .i64 (dec8 l0 36), .int .i64 (dec8 l0 44), .int .i64 (dec8 l0 52), .int .i64 (dec8 l0 60)]) (a' := ?_) #[true, true, true, true, true, false, false, false, false, false, false] rfl rfl (by kernel_rfl) (fun _ _ _ h => h) (yields_row (by rfl) 27 (.tmp 8) rfl gx rfl 27 #[.int .i64 (dec4 l0 0), .int .i64 (dec4 l0 1), .int .i64 (dec4 l0 2), .int .i64 (dec4 l0 3), .int .i64 (dec4 l0 4), .int .i64 (dec4 l0 5), .int .i64 (dec4 l0 6), .int .i64 (dec4 l0 7), .int .i64 (dec4 l0 8), .int .i64 (dec8 l0 36), .int .i64 (dec8 l0 44), .int .i64 (dec8 l0 52), .int .i64 (dec8 l0 60)] (0, 0) _ (fun w_ hS_ => Sep.SL.blk hS_ 0 rfl) hul rfl HSZ.out) HS.out ?_ ?_; rotate_left; (simp only [Act.put, List.setIfInBounds_toArray, List.set_cons_zero, List.set_cons_succ, i64_w, i32_w]; rfl))
      (refine take_ (i := 6) (N := some 65) (v := (.slice A0 128 c0)) (a' := ?_) #[true, true, true, true, true, false, true, false, false, false, false] rfl rfl (by kernel_rfl) (fun _ _ _ h => h) (Or.inl ⟨by rfl, ?_⟩) HS.out ?_ ?_; (intro w_ hS_; (have hz := Sep.SL.c0 hS_ 3 rfl; go_simp)); rotate_left; (simp only [Act.put, List.setIfInBounds_toArray, List.set_cons_zero, List.set_cons_succ, i64_w, i32_w]; rfl))
      (refine pure_ (i := 7) (N := some 66) (v := ?_) (a' := ?_) #[true, true, true, true, true, false, true, true, false, false, false] rfl rfl (by kernel_rfl) (fun _ _ _ h => h) (Or.inl ⟨by rfl, ?_⟩) ?_ ?_; rotate_left; (intro w_; go_simp; with_reducible rfl); rotate_left; (simp only [Act.put, List.setIfInBounds_toArray, List.set_cons_zero, List.set_cons_succ, i64_w, i32_w]; rfl))
      (refine one_ (i := 5) (N := some 64) #[true, true, true, true, true, true, true, true, false, false, false] rfl rfl (by kernel_rfl) (by decide) (fun K hK => ?_); refine goes_ Try.func53 (by kernel_rfl) rfl #[.agg #[.int .i64 (dec4 l0 0), .int .i64 (dec4 l0 1), .int .i64 (dec4 l0 2), .int .i64 (dec4 l0 3), .int .i64 (dec4 l0 4), .int .i64 (dec4 l0 5), .int .i64 (dec4 l0 6), .int .i64 (dec4 l0 7), .int .i64 (dec4 l0 8), .int .i64 (dec8 l0 36), .int .i64 (dec8 l0 44), .int .i64 (dec8 l0 52), .int .i64 (dec8 l0 60)]] (by rfl) rfl rfl (by simp only [List.map_toArray, List.map_cons, List.map_nil]; rfl) ?_; refine (quicksetref_labelBytes.calls k (dec4 l0 0) (dec4 l0 1) (dec4 l0 2) (dec4 l0 3) (dec4 l0 4) (dec4 l0 5) (dec4 l0 6) (dec4 l0 7) (dec4 l0 8) (dec8 l0 36) (dec8 l0 44) (dec8 l0 52) (dec8 l0 60) lb _ HLB.out).mono ?_; (rintro e w9 ⟨v0_, rfl, hR9, hb9⟩; obtain ⟨Ab, cb, e0⟩ := Kd.R_slice hR9; subst e0; have HR9 := Aside0.mk hR9; have n1_ := Aside0.mk (SL.ext HS.out hb9); clear HS hb9 hR9; have HS := n1_; clear n1_); refine ⟨(.slice Ab lb.length cb), rfl, ?_⟩; refine hK.out _ _ HS.out (fun hHeld => ?_); clear hK K hHeld; refine norm_ (a' := ?_) ?_ ?_; rotate_left; (show Act.put _ (some 64) _ = _; simp only [Act.put, List.setIfInBounds_toArray, List.set_cons_zero, List.set_cons_succ, i64_w, i32_w]; rfl))
      (refine one_ (i := 8) (N := some 67) #[true, true, true, true, true, true, true, true, true, false, false] rfl rfl (by kernel_rfl) (by decide) (fun K hK => ?_); refine goes_ Try.func58 (by kernel_rfl) rfl #[.slice Ab lb.length cb, .slice A0 96 c0] (by rfl) rfl rfl (by simp only [List.map_toArray, List.map_cons, List.map_nil]; rfl) ?_; refine (HQ2.out lb t3 HT3.out _ (SL.below HS.out) Ab cb (Kd.R_reads' HR9.out).2.2 (Kd.R_reads' HR9.out).2.1).mono ?_; (rintro e w10 ⟨rfl, ⟨nd, rfl⟩⟩; have n1_ := Aside0.mk (SL.drewN HS.out nd); clear HS; have HS := n1_; clear n1_); refine ⟨(.bool t3), rfl, ?_⟩; refine hK.out _ _ HS.out (fun hHeld => ?_); clear hK K hHeld; refine norm_ (a' := ?_) ?_ ?_; rotate_left; (show Act.put _ (some 67) _ = _; simp only [Act.put, List.setIfInBounds_toArray, List.set_cons_zero, List.set_cons_succ, i64_w, i32_w]; rfl))
      (refine pure_ (i := 9) (N := some 68) (v := ?_) (a' := ?_) #[true, true, true, true, true, true, true, true, true, true, false] rfl rfl (by kernel_rfl) (fun _ _ _ h => h) (Or.inl ⟨by rfl, ?_⟩) ?_ ?_; rotate_left; (intro w_; go_simp; with_reducible rfl); rotate_left; (simp only [Act.put, List.setIfInBounds_toArray, List.set_cons_zero, List.set_cons_succ, i64_w, i32_w]; rfl))
      (refine pure_ (i := 10) (N := some 69) (v := ?_) (a' := ?_) #[true, true, true, true, true, true, true, true, true, true, true] rfl rfl (by kernel_rfl) (fun _ _ _ h => h) (Or.inl ⟨by rfl, ?_⟩) ?_ ?_; rotate_left; (intro w_; go_simp; with_reducible rfl); rotate_left; (simp only [Act.put, List.setIfInBounds_toArray, List.set_cons_zero, List.set_cons_succ, i64_w, i32_w]; rfl))
      refine done_ (by kernel_rfl) ?_
      generalize World.drewN _ _ = w17 at HS ⊢
      clear HR9 HQ2 HLB HT3
      cases t3 with
      | false =>
        have h1_ := HH.out
        rw [if_neg (by decide)] at h1_
        have HRR := Aside0.mk h1_
        clear h1_ HH
        have he0 := blk_at HS.out 2 rfl 0 _ rfl
        have he1 := blk_at HS.out 2 rfl 1 _ rfl
        have he2 := blk_at HS.out 2 rfl 2 _ rfl
        have he3 := blk_at HS.out 2 rfl 3 _ rfl
        have he4 := blk_at HS.out 2 rfl 4 _ rfl
        have he5 := blk_at HS.out 2 rfl 5 _ rfl
        have he6 := blk_at HS.out 2 rfl 6 _ rfl
        have he7 := blk_at HS.out 2 rfl 7 _ rfl
        have he8 := blk_at HS.out 2 rfl 8 _ rfl
        have he9 := blk_at HS.out 2 rfl 9 _ rfl
        have he10 := blk_at HS.out 2 rfl 10 _ rfl
        have he11 := blk_at HS.out 2 rfl 11 _ rfl
        have he12 := blk_at HS.out 2 rfl 12 _ rfl
        have hef := fun i => blk_frozen (HS.out.blk 2 rfl) i
        have h2_ := SL.putAll HS.out 2 rfl [.int .i64 0, .int .i64 0, .int .i64 0, .int .i64 0, .int .i64 0, .int .i64 0, .int .i64 0, .int .i64 0, .int .i64 0, .int .i64 0, .int .i64 0, .int .i64 0, .int .i64 0] rfl
        simp only [puts, Nat.zero_add, Nat.reduceAdd] at h2_
        have HS2 := Aside0.mk h2_
        clear h2_
        go_wp2_with (fail)
        refine bodyPost_ret (v := .tuple #[.agg #[.int .i64 0, .int .i64 0, .int .i64 0, .int .i64 0, .int .i64 0, .int .i64 0, .int .i64 0, .int .i64 0, .int .i64 0, .int .i64 0, .int .i64 0, .int .i64 0, .int .i64 0], .int .i64 4]) (results_cell_tmp rfl _ _ ge 27 #[.int .i64 0, .int .i64 0, .int .i64 0, .int .i64 0, .int .i64 0, .int .i64 0, .int .i64 0, .int .i64 0, .int .i64 0, .int .i64 0, .int .i64 0, .int .i64 0, .int .i64 0] (0, 0) _ rfl (HS2.out.blk 2 rfl) (.int .i64 4) rfl hul rfl HSZ.out) rfl ⟨?_, SL.below HS2.out⟩
        have h1 := Option.some.inj HRR.out
        try unfold badR at h1
        simp only [Prod.mk.injEq] at h1
        obtain ⟨rfl, rfl, rfl, rfl, rfl, rfl, rfl, rfl, rfl, rfl, rfl, rfl, rfl, rfl⟩ := h1
        rfl
      | true =>
        have h1_ := HH.out
        rw [if_pos rfl] at h1_
        have HRR := Aside0.mk h1_
        clear h1_ HH HT2
        generalize (dec4 l0 0) = y0 at HS HRR
        generalize (dec4 l0 1) = y1 at HS HRR
        generalize (dec4 l0 2) = y2 at HS HRR
        generalize (dec4 l0 3) = y3 at HS HRR
        generalize (dec4 l0 4) = y4 at HS HRR
        generalize (dec4 l0 5) = y5 at HS HRR
        generalize (dec4 l0 6) = y6 at HS HRR
        generalize (dec4 l0 7) = y7 at HS HRR
        generalize (dec4 l0 8) = y8 at HS HRR
        generalize (dec8 l0 36) = y9 at HS HRR
        generalize (dec8 l0 44) = y10 at HS HRR
        generalize (dec8 l0 52) = y11 at HS HRR
        generalize (dec8 l0 60) = y12 at HS HRR
        have hx0 := blk_at HS.out 0 rfl 0 _ rfl
        have hx1 := blk_at HS.out 0 rfl 1 _ rfl
        have hx2 := blk_at HS.out 0 rfl 2 _ rfl
        have hx3 := blk_at HS.out 0 rfl 3 _ rfl
        have hx4 := blk_at HS.out 0 rfl 4 _ rfl
        have hx5 := blk_at HS.out 0 rfl 5 _ rfl
        have hx6 := blk_at HS.out 0 rfl 6 _ rfl
        have hx7 := blk_at HS.out 0 rfl 7 _ rfl
        have hx8 := blk_at HS.out 0 rfl 8 _ rfl
        have hx9 := blk_at HS.out 0 rfl 9 _ rfl
        have hx10 := blk_at HS.out 0 rfl 10 _ rfl
        have hx11 := blk_at HS.out 0 rfl 11 _ rfl
        have hx12 := blk_at HS.out 0 rfl 12 _ rfl
        have he0 := blk_at HS.out 2 rfl 0 _ rfl
        have he1 := blk_at HS.out 2 rfl 1 _ rfl
        have he2 := blk_at HS.out 2 rfl 2 _ rfl
        have he3 := blk_at HS.out 2 rfl 3 _ rfl
        have he4 := blk_at HS.out 2 rfl 4 _ rfl
        have he5 := blk_at HS.out 2 rfl 5 _ rfl
        have he6 := blk_at HS.out 2 rfl 6 _ rfl
        have he7 := blk_at HS.out 2 rfl 7 _ rfl
        have he8 := blk_at HS.out 2 rfl 8 _ rfl
        have he9 := blk_at HS.out 2 rfl 9 _ rfl
        have he10 := blk_at HS.out 2 rfl 10 _ rfl
        have he11 := blk_at HS.out 2 rfl 11 _ rfl
        have he12 := blk_at HS.out 2 rfl 12 _ rfl
        have hef := fun i => blk_frozen (HS.out.blk 2 rfl) i
        have h2_ := SL.putAll HS.out 2 rfl [.int .i64 y0, .int .i64 y1, .int .i64 y2, .int .i64 y3, .int .i64 y4, .int .i64 y5, .int .i64 y6, .int .i64 y7, .int .i64 y8, .int .i64 y9, .int .i64 y10, .int .i64 y11, .int .i64 y12] rfl
        simp only [puts, Nat.zero_add, Nat.reduceAdd] at h2_
        have HS2 := Aside0.mk h2_
        clear h2_
        go_wp2_with (fail)
        refine bodyPost_ret (v := .tuple #[.agg #[.int .i64 y0, .int .i64 y1, .int .i64 y2, .int .i64 y3, .int .i64 y4, .int .i64 y5, .int .i64 y6, .int .i64 y7, .int .i64 y8, .int .i64 y9, .int .i64 y10, .int .i64 y11, .int .i64 y12], .int .i64 0]) (results_cell_tmp rfl _ _ ge 27 #[.int .i64 y0, .int .i64 y1, .int .i64 y2, .int .i64 y3, .int .i64 y4, .int .i64 y5, .int .i64 y6, .int .i64 y7, .int .i64 y8, .int .i64 y9, .int .i64 y10, .int .i64 y11, .int .i64 y12] (0, 0) _ rfl (HS2.out.blk 2 rfl) (.int .i64 0) rfl hul rfl HSZ.out) rfl ⟨?_, SL.below HS2.out⟩
        have h1 := Option.some.inj HRR.out
        try unfold badR at h1
        simp only [Prod.mk.injEq] at h1
        obtain ⟨rfl, rfl, rfl, rfl, rfl, rfl, rfl, rfl, rfl, rfl, rfl, rfl, rfl, rfl⟩ := h1
        rfl
set_option maxHeartbeats 4000000 in
set_option maxRecDepth 100000 in
theorem quicksetref_LabelDecoded.calls (k : Nat) (A0 : Option Addr) (c0 : Nat) (l0 : List Int) (r1 r2 r3 r4 r5 r6 r7 r8 r9 r10 r11 r12 r13 r14 : Int) (w : World) (hr0 : Kd.C (Kd.int .u8) w A0 l0.length l0) (hc0 : l0.length ≤ c0) (h : quicksetref_LabelDecoded.f k l0 = some (r1, r2, r3, r4, r5, r6, r7, r8, r9, r10, r11, r12, r13, r14)) :
    Calls Try.prog 20 #[.slice A0 l0.length c0] w fun e w' => e = .returned (.tuple #[.agg #[.int .i64 r1, .int .i64 r2, .int .i64 r3, .int .i64 r4, .int .i64 r5, .int .i64 r6, .int .i64 r7, .int .i64 r8, .int .i64 r9, .int .i64 r10, .int .i64 r11, .int .i64 r12, .int .i64 r13], .int .i64 r14]) ∧ Below w.heap.size w w' := by
  unfold quicksetref_LabelDecoded.f at h
  by_cases hl : l0.length = 128
  · rw [if_pos hl] at h
    by_cases ha : l0.all (fun x => decide (0 ≤ x ∧ x ≤ 255)) = true
    · rw [if_pos ha] at h
      have hR : ReadsInt w .u8 A0 128 l0 := by rw [← hl]; exact readsInt_of.2 (Kd.reads_of_C (d := 0) hr0)
      rw [hl]
      exact quicksetref_LabelDecoded.fine k A0 c0 l0 r1 r2 r3 r4 r5 r6 r7 r8 r9 r10 r11 r12 r13 r14 w hR (by omega) (fun x hx => of_decide_eq_true (List.all_eq_true.1 ha x hx)) h
    · rw [if_neg ha] at h; cases h
  · rw [if_neg hl] at h
    have HRR := Aside0.mk h
    clear h hr0
    have HS := Aside0.mk (SL.start w)
    have HSZ : Aside0 ((Try.prog.info? 27).map (·.size) = some 13) := ⟨by kernel_rfl⟩
    have hul := Try.underlying27
    have hnl : ((l0.length : Int) == 128) = false := by simp; omega
    have hnl2 : ((l0.length : Int) = 128) = False := eq_false (by omega)
    have hnl3 : (l0.length = 128) = False := eq_false hl
    clear hl
    go_enter Try.func20, Try.ntmps20
    go_upto_region 1 with (first | ((with_reducible refine gate_dst (N := 1) rfl ?_); refine box_event ?hg (N := 1) ?hd (cs := #[.slice A0 l0.length c0]) (t := 28) ?hr ?_; (case hd => exact rfl); (case hg => exact rfl); (case hr => first | (go_simp; done) | (go_simp; rfl)); intro gb hgb_ w1 hbox_ hb_; have n1_ := Aside0.mk (Sep.SL.newBlk (by repeat (first | (with_reducible first | exact HS.out | apply Sep.SL.drewN | apply Sep.SL.drew | apply Sep.SL.alloc) | exact HS.out)) hb_ hgb_ hbox_); clear HS hgb_ hbox_ hb_; have HS := n1_; clear n1_) | ((with_reducible refine gate_dst (N := 2) rfl ?_); refine box_event ?hg (N := 2) ?hd (cs := #[.int .i64 0, .int .i64 0, .int .i64 0, .int .i64 0, .int .i64 0, .int .i64 0, .int .i64 0, .int .i64 0, .int .i64 0, .int .i64 0, .int .i64 0, .int .i64 0, .int .i64 0]) (t := 27) ?hr ?_; (case hd => exact rfl); (case hg => exact rfl); (case hr => first | (go_simp; done) | (go_simp; rfl)); intro ge hgb_ w2 hbox_ hb_; have n1_ := Aside0.mk (Sep.SL.newBlk (by repeat (first | (with_reducible first | exact HS.out | apply Sep.SL.drewN | apply Sep.SL.drew | apply Sep.SL.alloc) | exact HS.out)) hb_ hgb_ hbox_); clear HS hgb_ hbox_ hb_; have HS := n1_; clear n1_))
    have hz := HS.out.c0 1 rfl
    have he0 := blk_at HS.out 0 rfl 0 _ rfl
    have he1 := blk_at HS.out 0 rfl 1 _ rfl
    have he2 := blk_at HS.out 0 rfl 2 _ rfl
    have he3 := blk_at HS.out 0 rfl 3 _ rfl
    have he4 := blk_at HS.out 0 rfl 4 _ rfl
    have he5 := blk_at HS.out 0 rfl 5 _ rfl
    have he6 := blk_at HS.out 0 rfl 6 _ rfl
    have he7 := blk_at HS.out 0 rfl 7 _ rfl
    have he8 := blk_at HS.out 0 rfl 8 _ rfl
    have he9 := blk_at HS.out 0 rfl 9 _ rfl
    have he10 := blk_at HS.out 0 rfl 10 _ rfl
    have he11 := blk_at HS.out 0 rfl 11 _ rfl
    have he12 := blk_at HS.out 0 rfl 12 _ rfl
    have hef := fun i => blk_frozen (HS.out.blk 0 rfl) i
    have h2_ := SL.putAll HS.out 0 rfl [.int .i64 0, .int .i64 0, .int .i64 0, .int .i64 0, .int .i64 0, .int .i64 0, .int .i64 0, .int .i64 0, .int .i64 0, .int .i64 0, .int .i64 0, .int .i64 0, .int .i64 0] rfl
    simp only [puts, Nat.zero_add, Nat.reduceAdd] at h2_
    have HS2 := Aside0.mk h2_
    clear h2_
    go_wp2_with (fail)
    refine bodyPost_ret (v := .tuple #[.agg #[.int .i64 0, .int .i64 0, .int .i64 0, .int .i64 0, .int .i64 0, .int .i64 0, .int .i64 0, .int .i64 0, .int .i64 0, .int .i64 0, .int .i64 0, .int .i64 0, .int .i64 0], .int .i64 1]) (results_cell_tmp rfl _ _ ge 27 #[.int .i64 0, .int .i64 0, .int .i64 0, .int .i64 0, .int .i64 0, .int .i64 0, .int .i64 0, .int .i64 0, .int .i64 0, .int .i64 0, .int .i64 0, .int .i64 0, .int .i64 0] (0, 0) _ rfl (HS2.out.blk 0 rfl) (.int .i64 1) rfl hul rfl HSZ.out) rfl ⟨?_, SL.below HS2.out⟩
    have h1 := Option.some.inj HRR.out
    unfold badR at h1
    simp only [Prod.mk.injEq] at h1
    obtain ⟨rfl, rfl, rfl, rfl, rfl, rfl, rfl, rfl, rfl, rfl, rfl, rfl, rfl, rfl⟩ := h1
    rfl

end Go.Proofs.Ythnchojddoefiaa.QLabelBests
