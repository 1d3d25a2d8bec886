/- Printed from a stub by wip/stub.py with the kit's print.py, then turned by hand. -/
import Derived.Test.YthnchojddoefiaaSep
import Derived.Test.YthnchojddoefiaaSortRow
import Derived.Test.YthnchojddoefiaaSortLay
import Derived.Deep.RegionLaw
import Derived.StillTailTactics
import Derived.Test.YthnchojddoefiaaQSpanAddsx0
import Derived.Test.YthnchojddoefiaaQSpanAddsx4
import Derived.Test.YthnchojddoefiaaQSpanAddsx5
namespace Go.Proofs.Ythnchojddoefiaa.QSpanAdds
open Go.RowKit Go.Proofs.YthnchojddoefiaaW.PrintWords Go.Proofs.YthnchojddoefiaaW.PrintLast Go.Proofs.YthnchojddoefiaaW.PrintMore
attribute [local go_sem] max2_int min2_int max_two min_two max_three min_three max_four min_four   -- for this text's walks alone
set_option linter.unusedVariables false
set_option linter.unusedSimpArgs false




-- NOT PRINTED: function 157 (sort_insertionSort_func)

-- NOT PRINTED: function 174 (sort_siftDown_func)

-- NOT PRINTED: function 158 (sort_heapSort_func)


-- NOT PRINTED: function 176 (sort_xorshift_Next)

-- NOT PRINTED: function 159 (sort_breakPatterns_func)

-- NOT PRINTED: function 185 (sort_order2_func)

-- NOT PRINTED: function 178 (sort_median_func)

-- NOT PRINTED: function 177 (sort_medianAdjacent_func)

-- NOT PRINTED: function 160 (sort_choosePivot_func)

-- NOT PRINTED: function 161 (sort_reverseRange_func)

-- NOT PRINTED: function 162 (sort_partialInsertionSort_func)

-- NOT PRINTED: function 163 (sort_partitionEqual_func)

-- NOT PRINTED: function 164 (sort_partition_func)

-- NOT PRINTED: function 139 (sort_pdqsort_func)

-- NOT PRINTED: function 116 (sort_Slice)

-- NOT PRINTED: function 82 (span_swept)

/-! ### span_edges: function 83 -/
def span_edges.l0 : Nat → Int → List (S194) → List (S79) → Int → Int → Option ((List (S194)))
  | 0, _, _, _, _, _ => none
  | k + 1, x1, x5, x8, x9, x10 => if x10 < x9 then (if 0 ≤ x10 then (if x10 < (x8.length : Int) then ((some (([(⟨(rd_T79 x8 x10).f0, x1⟩ : S194), (⟨(rd_T79 x8 x10).f1, wrap64 (-x1)⟩ : S194)] : List (S194)) : List (S194))).bind fun y120 => (if x5.length + y120.length < 8796093022208 then (span_edges.l0 k x1 (x5 ++ y120) x8 x9 (wrap64 (x10 + 1))) else (none))) else (none)) else (none)) else (some x5)
def span_edges.f (k : Nat) (l0 : List (S79)) (a1 : Int) : Option ((List (S194))) := span_edges.l0 k a1 ([] : List (S194)) l0 (l0.length : Int) 0
theorem span_edges.mono_l : ∀ k, (∀ y0 y1 y2 y3 y4, LeO (span_edges.l0 k y0 y1 y2 y3 y4) (span_edges.l0 (k + 1) y0 y1 y2 y3 y4))
  | 0 => fun _ _ _ _ _ r h => by simp [span_edges.l0] at h
  | k + 1 => by
    have ih0 := span_edges.mono_l k
    · intro y0 y1 y2 y3 y4
      unfold span_edges.l0
      repeat' first
      | (with_reducible exact ih0 _ _ _ _ _)
      | (with_reducible exact LeO.refl _)
      | (with_reducible exact LeO.none _)
      | (with_reducible refine LeO.ite ?_ ?_)
      | (with_reducible refine LeO.bind ?_ (fun _ => ?_))
      | exact ih0 _ _ _ _ _
      | exact LeO.none _
      | refine LeO.ite ?_ ?_
      | refine LeO.bind ?_ (fun _ => ?_)
theorem span_edges.mono : ∀ a0 a1 k, LeO (span_edges.f k a0 a1) (span_edges.f (k + 1) a0 a1) := by
  intro a0 a1 k
  have ih0 := span_edges.mono_l k
  unfold span_edges.f
  repeat' first
      | (with_reducible exact ih0 _ _ _ _ _)
      | (with_reducible exact LeO.refl _)
      | (with_reducible exact LeO.none _)
      | (with_reducible refine LeO.ite ?_ ?_)
      | (with_reducible refine LeO.bind ?_ (fun _ => ?_))
      | exact ih0 _ _ _ _ _
      | exact LeO.none _
      | refine LeO.ite ?_ ?_
      | refine LeO.bind ?_ (fun _ => ?_)
set_option maxHeartbeats 8000000 in
set_option maxRecDepth 100000 in
theorem span_edges.calls (k : Nat) (A0 : Option Addr) (c0 : Nat) (l0 : List (S79)) (a1 : Int) (r : List (S194)) (w : World) (hr0 : Kd.C k79 w A0 l0.length l0) (hc0 : l0.length ≤ c0) (h : span_edges.f k l0 a1 = some r) :
    Calls Try.prog 83 #[.slice A0 l0.length c0, .int .i64 a1] w fun e w' => ∃ v0_ : Value, e = .returned (v0_) ∧ Kd.R k194 194 w' w.heap.size (fun _ => True) v0_ r ∧ Below w.heap.size w w' := by
  have hu79 := Try.underlying79
  have hu194 := Try.underlying194
  have HR0 := Aside0.mk hr0
  have HC0 := Aside0.mk hc0
  clear hr0 hc0
  have HB := Aside0.mk (Below.refl w.heap.size w)
  have H : (span_edges.l0 k a1 ([] : List (S194)) l0 (l0.length : Int) 0) = some r := h
  clear h
  have H' := Aside0.mk H
  clear H
  go_enter Try.func83, Try.ntmps83
  go_wp2
  go_loopg [5, 10] k (fun kq v5 v10 w' => ∃ (x5_1 : List (S194)) (x10_1 : Int), v10 = .int .i64 x10_1 ∧ Aside0 (span_edges.l0 kq a1 x5_1 l0 (l0.length : Int) x10_1 = some r) ∧ Aside0 (kq ≤ k) ∧ Aside0 (Kd.R k194 194 w' w.heap.size (fun _ => True) v5 x5_1) ∧ Aside0 (Below w.heap.size w w'))
  case atStart => exact ⟨(([] : List (S194))), (0), (by first | rfl | (simp; done) | (simp [*]; done)), H', ⟨Nat.le_refl _⟩, ⟨by first | exact Kd.R_nil _ _ _ _ _ | exact Kd.N_nil _ _ _ _ _ | exact Kd.V_nil _ _ _ _ _ | exact Kd.Q_nil _ _ _ _ _ | exact Kd.S_nil _ _ _ _ _⟩, ⟨by repeat (first | (with_reducible first | exact HB.out | apply below_alloc | apply pw_below_drewN | apply below_drew1) | exact HB.out)⟩⟩
  case round =>
    clear H'
    try clear p2
    obtain ⟨x5_1, x10_1, rfl, HA, HK1, HO_5, HB⟩ := hrel
    cases gk with
    | zero => exact absurd HA.out (by simp [span_edges.l0])
    | succ k1 =>
      have H := HA.out
      clear HA
      simp only [span_edges.l0] at H
      by_cases c3 : x10_1 < (l0.length : Int)
      · rw [if_pos c3] at H
        have c3b0 : decide (x10_1 < (l0.length : Int)) = true := decide_eq_true c3
        clear c3
        by_cases c4 : 0 ≤ x10_1
        · rw [if_pos c4] at H
          have c4b0 : decide (0 ≤ x10_1) = true := decide_eq_true c4
          clear c4
          by_cases c5 : x10_1 < (l0.length : Int)
          · rw [if_pos c5] at H
            have c5b0 : decide (x10_1 < (l0.length : Int)) = true := decide_eq_true c5
            clear c5
            obtain ⟨y120, hy120⟩ : ∃ y_ : List (S194), y_ = (([(⟨(rd_T79 l0 x10_1).f0, a1⟩ : S194), (⟨(rd_T79 l0 x10_1).f1, wrap64 (-a1)⟩ : S194)] : List (S194))) := ⟨_, rfl⟩
            replace H : (if x5_1.length + y120.length < 8796093022208 then (span_edges.l0 k1 a1 (x5_1 ++ y120) l0 (l0.length : Int) (wrap64 (x10_1 + 1))) else (none)) = some r := by first | (rw [hy120]; with_reducible exact H) | (have H2_ := (Option.bind_some _ _).symm.trans H; rw [hy120]; with_reducible exact H2_) | (have H2_ := (Option.bind_some _ _).symm.trans H; with_reducible exact H2_) | with_reducible exact H | (rw [hy120]; exact H) | exact H
            have Ny120 := Aside0.mk hy120
            clear hy120
            by_cases c6 : x5_1.length + y120.length < 8796093022208
            · rw [if_pos c6] at H
              have LMc6 := Aside0.mk c6
              clear c6
              obtain ⟨y123, hy123⟩ : ∃ y_ : List (S194), y_ = (x5_1 ++ y120) := ⟨_, rfl⟩
              replace H : (span_edges.l0 k1 a1 y123 l0 (l0.length : Int) (wrap64 (x10_1 + 1))) = some r := by first | (rw [hy123]; with_reducible exact H) | (have H2_ := (Option.bind_some _ _).symm.trans H; rw [hy123]; with_reducible exact H2_) | (have H2_ := (Option.bind_some _ _).symm.trans H; with_reducible exact H2_) | with_reducible exact H | (rw [hy123]; exact H) | exact H
              have Ny123 := Aside0.mk hy123
              clear hy123
              have H' := Aside0.mk H
              clear H
              have p118 : 0 ≤ (x10_1 : Int) := of_decide_eq_true (by first | (with_reducible assumption) | assumption)
              have q118 : x10_1 < (l0.length : Int) := of_decide_eq_true (by first | (with_reducible assumption) | assumption)
              obtain ⟨ad118, e118, hx118_0, hx118_1⟩ := at_T79 HR0.out x10_1 p118 q118
              cases e118
              replace hx118_0 := (HB.out.cell (World.block_lt_of_cell? w _ hx118_0)).trans hx118_0
              replace hx118_1 := (HB.out.cell (World.block_lt_of_cell? w _ hx118_1)).trans hx118_1
              replace p118 := eq_true p118
              replace q118 := eq_true q118
              go_wp2_with (first | ((with_reducible refine gate_dst (N := 7) rfl ?_); refine box_event ?hg (N := 7) ?hd (cs := #[.int .i64 0, .int .i64 0]) (t := 79) ?hr ?_; (case hd => rfl); (case hg => rfl); (case hr => first | (go_simp; done) | (go_simp; rfl)); intro gb119 hg w7 hbox hb; have n0_ := Aside0.mk (Kd.R_below (by (with_reducible repeat (first | apply Kd.R_alloc | apply Kd.R_drewN | apply Kd.R_drew)); exact HO_5.out) hb); have n1_ := Aside0.mk (below_step (by repeat (first | (with_reducible first | exact HB.out | apply below_alloc | apply pw_below_drewN | apply below_drew1) | exact HB.out)) hb); have n2_ := Aside0.mk (hbox); have n3_ := Aside0.mk ((by rw [hg]; exact (below_size (by repeat (first | (with_reducible first | exact HB.out | apply below_alloc | apply pw_below_drewN | apply below_drew1) | exact HB.out))) : w.heap.size ≤ gb119)); have n4_ := Aside0.mk ((by rw [hg]; exact (below_size (by repeat (first | (with_reducible first | exact HB.out | apply below_alloc | apply pw_below_drewN | apply below_drew1) | exact HB.out))) : w.heap.size ≤ gb119)); clear HO_5; clear HB; have HO_5 := n0_; have HB := n1_; have BK119 := n2_; have GW119 := n3_; have GE119 := n4_; clear n0_ n1_ n2_ n3_ n4_; clear hb hbox hg; have hcz8_0 : w7.cell? ⟨gb119, 0, none⟩ = some (.int .i64 0) := (blk_cell BK119.out 0).trans rfl; have hcz8_1 : w7.cell? ⟨gb119, 1, none⟩ = some (.int .i64 0) := (blk_cell BK119.out 1).trans rfl; have hfz8_0 := blk_frozen BK119.out 0; have hfz8_1 := blk_frozen BK119.out 1) | ((with_reducible refine gate_dst (N := 24) rfl ?_); refine Kd.R_lit k194 _ 194 ?hg (N := 24) ?hd (xs := ([(⟨(rd_T79 l0 x10_1).f0, a1⟩ : S194), (⟨(rd_T79 l0 x10_1).f1, wrap64 (-a1)⟩ : S194)] : List (S194))) (inner := [.int .i64 ((rd_T79 l0 x10_1).f0), .int .i64 a1, .int .i64 ((rd_T79 l0 x10_1).f1), .int .i64 (wrap64 (-a1))]) (ok := fun _ => True) (okp := fun _ => True) ?hr ?hp (fun _ hk => hk) trivial (Below.refl _ _) (Nat.le_refl _) (by simp) ?_; (case hd => rfl); (case hg => rfl); (case hr => first | (go_simp; done) | (go_simp; rfl)); (case hp => exact (Reps.c2 (show Kd.M k194 _ _ _ (⟨(rd_T79 l0 x10_1).f0, a1⟩ : S194) [.int .i64 ((rd_T79 l0 x10_1).f0), .int .i64 a1] from (k194_mkM _ _ _ (⟨(rd_T79 l0 x10_1).f0, a1⟩ : S194) )) (Reps.c2 (show Kd.M k194 _ _ _ (⟨(rd_T79 l0 x10_1).f1, wrap64 (-a1)⟩ : S194) [.int .i64 ((rd_T79 l0 x10_1).f1), .int .i64 (wrap64 (-a1))] from (k194_mkM _ _ _ (⟨(rd_T79 l0 x10_1).f1, wrap64 (-a1)⟩ : S194) )) (Reps.none _ _)))); intro v121 w9 ho10 hb hg_ hnew_; clear hg_ hnew_; (first | rw [← Ny120.out] at ho10 | (simp only [Int.reduceToNat] at ho10; rw [← Ny120.out] at ho10)); have n0_ := Aside0.mk (Kd.R_elder' (by (with_reducible repeat (first | apply Kd.R_alloc | apply Kd.R_drewN | apply Kd.R_drew)); exact (Kd.R_mono (Kd.R_far (p := ⟨gb119, 1, none⟩) (Kd.R_far (p := ⟨gb119, 0, none⟩) (Kd.R_types HO_5.out BK119.out (by decide)) (fun _ hk => hk.2) (.int .i64 ((rd_T79 l0 x10_1).f0))) (fun _ hk => hk.2) (.int .i64 ((rd_T79 l0 x10_1).f1))) (fun _ h_ => h_.1))) (Kd.R_base ho10) hb); have n1_ := Aside0.mk (Kd.R_lower (Kd.R_new' ho10 (Kd.R_lt (by (with_reducible repeat (first | apply Kd.R_alloc | apply Kd.R_drewN | apply Kd.R_drew)); exact (Kd.R_mono (Kd.R_far (p := ⟨gb119, 1, none⟩) (Kd.R_far (p := ⟨gb119, 0, none⟩) (Kd.R_types HO_5.out BK119.out (by decide)) (fun _ hk => hk.2) (.int .i64 ((rd_T79 l0 x10_1).f0))) (fun _ hk => hk.2) (.int .i64 ((rd_T79 l0 x10_1).f1))) (fun _ h_ => h_.1))))) (below_size (by repeat (first | (with_reducible first | exact HB.out | apply below_alloc | apply pw_below_drewN | apply below_drew1 | refine below_set ?_ GE119.out) | exact HB.out)))); have n2_ := Aside0.mk (blk_below (g := gb119) (o := .cells #[.int .i64 ((rd_T79 l0 x10_1).f0), .int .i64 ((rd_T79 l0 x10_1).f1)] 79 (0, 0)) (by (with_reducible repeat (first | refine blk_drewN ?_ _ | refine blk_drew ?_ | refine blk_alloc ?_ _)); refine blk_put (cs := #[.int .i64 ((rd_T79 l0 x10_1).f0), .int .i64 0]) ?_ 1 _ rfl; (with_reducible repeat (first | refine blk_drewN ?_ _ | refine blk_drew ?_ | refine blk_alloc ?_ _)); refine blk_put (cs := #[.int .i64 0, .int .i64 0]) ?_ 0 _ rfl; (with_reducible repeat (first | refine blk_drewN ?_ _ | refine blk_drew ?_ | refine blk_alloc ?_ _)); exact BK119.out) hb); have n3_ := Aside0.mk (below_step (by repeat (first | (with_reducible first | exact HB.out | apply below_alloc | apply pw_below_drewN | apply below_drew1 | refine below_set ?_ GE119.out) | exact HB.out)) hb); clear HO_5; clear BK119; clear HB; have HO_5 := n0_; have HO122 := n1_; have BK119 := n2_; have HB := n3_; clear n0_ n1_ n2_ n3_; clear hb ho10; obtain ⟨Ao12, co12, eo12⟩ := Kd.R_slice HO122.out; subst eo12) | ((with_reducible refine gate_builtin (b := .append) (xs := #[.tmp 14, .tmp 24]) rfl ?_); at_builtin; refine Kd.R_append_rows k194 (w0 := w) w.heap.size rfl (.tmp 14) (.tmp 24) 155 194 (.agg #[(.int .i64 0), (.int .i64 0)]) 16 rfl Try.underlying155 info194 rfl (by decide) (by omega) u5 x5_1 y120 _ _ _ (fun k_ => some k_ ≠ (.slice Ao12 y120.length co12 : Value).ownBlock) (fun _ => False) rfl rfl ?aO ?aR (fun _ _ h => h) (fun _ h => h.elim) ?aF ?aB ?aS ?aL ?_; (case aR => repeat (first | exact (Kd.R_reads' HO122.out).2.2 | (with_reducible refine Kd.C_alloc ?_ _) | (with_reducible refine Kd.C_drewN ?_ _) | (with_reducible refine Kd.C_drew ?_))); (case aB => exact (by repeat (first | (with_reducible first | exact HB.out | apply below_alloc | apply pw_below_drewN | apply below_drew1 | refine below_set ?_ GE119.out) | exact HB.out))); (case aF => exact (fun k_ hk => Kd.fresh' (Kd.R_lt (by (with_reducible repeat (first | apply Kd.R_alloc | apply Kd.R_drewN | apply Kd.R_drew)); exact HO122.out)) k_ hk)); (case aO => exact (by (with_reducible repeat (first | apply Kd.R_alloc | apply Kd.R_drewN | apply Kd.R_drew)); exact Kd.R_mono HO_5.out (fun _ hk => hk.2))); (case aS => exact (below_size (by repeat (first | (with_reducible first | exact HB.out | apply below_alloc | apply pw_below_drewN | apply below_drew1 | refine below_set ?_ GE119.out) | exact HB.out)))); (case aL => have := LMc6.out; omega); intro v124 w11 ho hb hg hat; rw [← Ny123.out] at ho; have n0_ := Aside0.mk (blk_grown (g := gb119) (o := .cells #[.int .i64 ((rd_T79 l0 x10_1).f0), .int .i64 ((rd_T79 l0 x10_1).f1)] 79 (0, 0)) (by (with_reducible repeat (first | refine blk_drewN ?_ _ | refine blk_drew ?_ | refine blk_alloc ?_ _)); exact BK119.out) hg (Kd.R_ne HO_5.out BK119.out (by decide))); have n1_ := Aside0.mk (Kd.R_after (ok := (fun _ => True)) (by (with_reducible repeat (first | apply Kd.R_alloc | apply Kd.R_drewN | apply Kd.R_drew)); exact HO122.out) hg hat); have n2_ := Aside0.mk (hb); have n3_ := Aside0.mk (ho); clear BK119; clear HO122; clear HB; clear HO_5; have BK119 := n0_; have HO122 := n1_; have HB := n2_; have HO125 := n3_; clear n0_ n1_ n2_ n3_; clear ho hb hg hat))
              go_roundg k1
              case measure => have := HK1.out; omega
              case rel => exact ⟨(y123), (wrap64 (x10_1 + 1)), (by first | rfl | (simp; done) | (simp [*]; done)), H', ⟨by have := HK1.out; omega⟩, ⟨by (with_reducible repeat (first | apply Kd.R_alloc | apply Kd.R_drewN | apply Kd.R_drew)); exact Kd.R_mono HO125.out (fun _ hk => trivial)⟩, ⟨by repeat (first | (with_reducible first | exact HB.out | apply below_alloc | apply pw_below_drewN | apply below_drew1 | refine below_set ?_ GE119.out) | exact HB.out)⟩⟩
            · rw [if_neg c6] at H
              exact absurd H (by simp)
          · rw [if_neg c5] at H
            exact absurd H (by simp)
        · rw [if_neg c4] at H
          exact absurd H (by simp)
      · rw [if_neg c3] at H
        have c3b0 : decide (x10_1 < (l0.length : Int)) = false := decide_eq_false c3
        clear c3
        obtain rfl := Option.some.inj H
        go_wp2
        go_ret
        exact ⟨_, by first | rfl | (simp [errW_none, errW_some] <;> rfl) | (simp [*, errW_none, errW_some] <;> rfl), by (with_reducible repeat (first | apply Kd.R_alloc | apply Kd.R_drewN | apply Kd.R_drew)); exact HO_5.out, by repeat (first | (with_reducible first | exact HB.out | apply below_alloc | apply pw_below_drewN | apply below_drew1) | exact HB.out)⟩

/-! ### span_Add: function 41 -/
open Go.Proofs.Ythnchojddoefiaa.Sep Go.Proofs.Ythnchojddoefiaa.SortRow Go.Proofs.Ythnchojddoefiaa.SortLay Go.Sort
instance : Inhabited S194 := ⟨z194⟩
noncomputable def svT : TypeInfo := (Try.prog.info? 155).get (by kernel_rfl)
noncomputable def svE : TypeInfo := (Try.prog.info? 194).get (by kernel_rfl)
theorem svK (n : Nat) (h2 : 2 ≤ n) : Lib.swapperK n svE 25 = 9 := by
  have a : svE.hasPointers = false := by kernel_rfl
  have b : svE.bytes = 16 := by kernel_rfl
  have c : (n == 0) = false := by simp; omega
  have d : (n == 1) = false := by simp; omega
  simp [Lib.swapperK, a, b, c, d]
def encE (p : S194) : List Value := [.int .i64 p.f0, .int .i64 p.f1]
def ltE (a b : S194) : Bool := decide (a.f0 < b.f0)
theorem swo_ltE : SWO ltE where
  irrefl := fun x => by simp [ltE]
  trans := fun x y z h1 h2 => by simp [ltE] at *; omega
  ntrans := fun x y z h1 h2 => by simp [ltE] at *; omega
set_option maxHeartbeats 2000000 in
set_option maxRecDepth 100000 in
theorem span_less (blk off c Bs size : Nat) (W : World) (G : Nat → Int) (hs : W.cell? ⟨Bs, 0, none⟩ = some (.slice (some ⟨blk, off, none⟩) size c))
    (hc : ∀ t, t < size → W.cell? ⟨blk, off + t * 2, none⟩ = some (.int .i64 (G t))) (i j : Nat) (hi : i < size) (hj : j < size) :
    Calls Try.prog 117 #[.int .i64 i, .int .i64 j, .pointer (some ⟨Bs, 0, none⟩)] W fun e w' => e = .returned (.bool (decide (G i < G j))) ∧ ∃ q, w' = W.drewN q := by
  have hue := Try.underlying194
  have ci := hc i hi
  have cj := hc j hj
  clear hc
  go_enter Try.func117, Try.ntmps117
  go_wp2_with (fail)
  go_quiet (fail)
  go_wp2_with (fail)
  go_ret
  exact ⟨rfl, nq, rfl⟩
theorem sort_calls (g cap Bs : Nat) (d : Array S194) (h2 : 2 ≤ d.size) (hsz : d.size < 4611686018427387904) (w : World) (hH : HoldsK encE 2 w g 0 d) (hblk : g < w.heap.size)
    (hBs : w.cell? ⟨Bs, 0, none⟩ = some (.slice (some ⟨g, 0, none⟩) d.size cap)) (hB1 : Bs < w.heap.size) (hB2 : Bs ≠ g) :
    Calls Try.prog 116 #[.iface 155 (.slice (some ⟨g, 0, none⟩) d.size cap), .func (.func 117) #[] #[.pointer (some ⟨Bs, 0, none⟩)]] w fun e w' =>
      e = .returned (.tuple #[]) ∧ ∃ d' n os, PermIn 0 d.size d d' ∧ SortedIn ltE 0 d.size d' ∧ w' = grow (putRowK encE 2 (Sort.ahead w n) g 0 d') os := by
  have hless : LessReadsK Try.prog 117 #[.pointer (some ⟨Bs, 0, none⟩)] encE 2 ltE g 0 d.size w := by
    intro m os dk hs i j hi hj
    have e : sortWorldK encE 2 w g 0 m dk os = putRowK encE 2 (grow (Sort.ahead w m) os) g 0 dk := by
      unfold sortWorldK; rw [putRowK_grow _ _ (Sort.ahead w m) _ g 0 _ hblk]
    have hHg : HoldsK encE 2 (grow (Sort.ahead w m) os) g 0 d := holdsK_grow _ _ _ _ g 0 d hblk (holdsK_ahead _ _ _ _ _ _ _ hH)
    refine span_less g 0 cap Bs d.size _ (fun t => dk[t]!.f0) ?_ (fun t ht => ?_) i j hi hj
    · rw [e, cell?_putRowK_other _ _ _ g 0 dk _ (by exact hB2), cell?_grow _ _ _ (by exact hB1)]; exact hBs
    · rw [e]; exact ((holdsK_putRowK _ _ _ g 0 d dk hHg hs).cell (i := t) (c := 0) (by omega) (by omega)).1
  exact Any.sort_Slice_cells_sorted sv6 155 194 svT svE (by kernel_rfl) (by kernel_rfl) (by kernel_rfl) (by kernel_rfl) 25 (fun _ => by kernel_rfl) encE 2 (fun _ => rfl) (by kernel_rfl) (fun _ => by kernel_rfl)
    (fun x v hv => by simp [encE] at hv; rcases hv with rfl | rfl <;> rfl) ltE swo_ltE 117 _
    (enters_of Try.func117 (by kernel_rfl) rfl) g 0 cap d h2 hsz 154 (by rw [svK _ h2]; kernel_rfl) false
    (fun args W => run_callFunc_extern Try.func154 (by kernel_rfl) (by kernel_rfl) (by kernel_rfl) (e := Extern.ReflectliteSwapper.swap false) (by kernel_rfl) args W) w hless hH hblk
theorem sort_SL {w0 w : World} {l : List Asn} {g cap Bs : Nat} {xs : List S194} (h : SL w0 w l) (kb kr : Nat) (hb : l[kb]? = some (blkA Bs #[.slice (some ⟨g, 0, none⟩) xs.length cap] 155)) (hr : l[kr]? = some (rowA k194 194 (.slice (some ⟨g, 0, none⟩) xs.length cap) xs)) (h2 : 2 ≤ xs.length) (hsz : xs.length < 100000) :
    Calls Try.prog 116 #[.iface 155 (.slice (some ⟨g, 0, none⟩) xs.length cap), .func (.func 117) #[] #[.pointer (some ⟨Bs, 0, none⟩)]] w fun e w' =>
      e = .returned (.tuple #[]) ∧ ∃ ys, xs.Perm ys ∧ ys.Pairwise (fun a b => a.f0 ≤ b.f0) ∧ SL w0 w' (l.set kr (rowA k194 194 (.slice (some ⟨g, 0, none⟩) xs.length cap) ys)) := by
  have hR := h.row kr hr
  have hH := row_holds (d := k194) encE (fun _ => rfl) (by decide) (fun h => k194_openM h) hR
  obtain ⟨c1, c2, c3⟩ := h.c0 kb hb
  have hne := Kd.R_ne hR (h.blk kb hb) (by decide)
  have hg : g < w.heap.size := (Kd.R_bound hR).1 g (by simp [Value.ownBlock]) |>.2.2.1
  refine (sort_calls g cap Bs xs.toArray (by simpa using h2) (by simp; omega) w hH hg (by simpa using c1) c3 (fun e => hne (by rw [e]; simp [Value.ownBlock]))).mono ?_
  rintro e w' ⟨rfl, d', n, os, hp, hs, rfl⟩
  have hsz2 : d'.size = xs.length := by simpa using hp.1
  refine ⟨rfl, d'.toList, ?_, ?_, ?_⟩
  · have := hp.2.2
    rw [show xs.toArray.size = d'.size from by rw [hp.1], Array.extract_size] at this
    have e2 : xs.toArray.extract 0 d'.size = xs.toArray := by rw [hp.1]; exact Array.extract_size
    rw [e2] at this
    exact this.symm
  · rw [List.pairwise_iff_getElem]
    intro i j hi hj hij
    have := hs i j (by omega) hij (by have : j < d'.size := by simpa using hj
                                      rw [← hp.1]; exact this)
    rw [getElem!_pos d' i (by simpa using hi), getElem!_pos d' j (by simpa using hj)] at this
    have := of_decide_eq_false this
    simp only [Array.getElem_toList]
    omega
  · refine h.upd kr hr (fun S hS hA => ⟨wrote_sort encE 2 w g n d' os S (hA.1 g (by simp [Value.ownBlock])), ?_⟩)
    have hw : k194.R 194 (Sort.ahead w n) w0.heap.size S (.slice (some ⟨g, 0, none⟩) xs.length cap) xs := Kd.R_step hA (fun _ _ _ => rfl)
    have h3 := row_put (d := k194) encE (fun _ => rfl) (by decide) (fun w ok x => k194_mkM w _ ok x) hw d' hsz2
    exact Kd.R_mono (Kd.R_step h3 (fun k _ hk => heap_grow_old _ _ hk)) (fun j hj => .inl hj)
/-- What a sweep comes to: the ranges between the places where what is wanted begins and ends. -/
def sw (want : Int → Bool) : List S194 → Int → Int → List S79 → List S79
  | [], _, _, out => out
  | e :: es, dep, fr, out => if es.head?.map (·.f0) = some e.f0 then sw want es (dep + e.f1) fr out else
    if want (dep + e.f1) = true then (if fr < 0 then sw want es (dep + e.f1) e.f0 out else sw want es (dep + e.f1) fr out)
    else (if fr ≥ 0 then sw want es (dep + e.f1) (-1) (out ++ [⟨fr, e.f0⟩]) else sw want es (dep + e.f1) fr out)
def sw_at (want : Int → Bool) (a : Int) (es : List S194) (dep fr : Int) (out : List S79) : List S79 :=
  if es.head?.map (·.f0) = some a then sw want es dep fr out else
    if want dep = true then (if fr < 0 then sw want es dep a out else sw want es dep fr out)
    else (if fr ≥ 0 then sw want es dep (-1) (out ++ [⟨fr, a⟩]) else sw want es dep fr out)
theorem sw_cons (want : Int → Bool) (e : S194) (es : List S194) (dep fr : Int) (out : List S79) : sw want (e :: es) dep fr out = sw_at want e.f0 es (dep + e.f1) fr out := rfl
theorem rd_drop_ {α : Type} (z : α) (l : List α) (i : Int) (h0 : 0 ≤ i) (h1 : i < (l.length : Int)) : l.drop i.toNat = l.getD i.toNat z :: l.drop (i + 1).toNat ∧ l.getD i.toNat z ∈ l := by
  have e : l.getD i.toNat z = l[i.toNat]'(by omega) := by rw [List.getD_eq_getElem?_getD, List.getElem?_eq_getElem (by omega)]; rfl
  rw [e]
  exact ⟨by rw [List.drop_eq_getElem_cons (show i.toNat < l.length by omega), show i.toNat + 1 = (i + 1).toNat from by omega], List.getElem_mem _⟩
/-! the sweep, told by places -/
def edl (by_ : Int) : List S79 → List S194
  | [] => []
  | r :: l => ⟨r.f0, by_⟩ :: ⟨r.f1, -by_⟩ :: edl by_ l
def dsum (p : Int) : List S194 → Int
  | [] => 0
  | e :: es => (if e.f0 ≤ p then e.f1 else 0) + dsum p es
def pl : List S194 → List Int
  | [] => []
  | e :: es => if es.head?.map (·.f0) = some e.f0 then pl es else e.f0 :: pl es
def swp (want : Int → Bool) (D : Int → Int) : List Int → Int → List S79 → List S79
  | [], _, out => out
  | p :: ps, fr, out => if want (D p) = true then (if fr < 0 then swp want D ps p out else swp want D ps fr out)
    else (if fr ≥ 0 then swp want D ps (-1) (out ++ [⟨fr, p⟩]) else swp want D ps fr out)
theorem swp_congr (want : Int → Bool) (D D' : Int → Int) : ∀ (ps : List Int) (fr : Int) (out : List S79), (∀ p ∈ ps, D p = D' p) → swp want D ps fr out = swp want D' ps fr out
  | [], _, _, _ => rfl
  | p :: ps, fr, out, h => by
    have ih := fun fr out => swp_congr want D D' ps fr out (fun q hq => h q (List.mem_cons_of_mem _ hq))
    rw [swp, swp, h p List.mem_cons_self, ih, ih, ih]
theorem pl_mem : ∀ (ys : List S194) (x : Int), x ∈ pl ys ↔ ∃ e ∈ ys, e.f0 = x
  | [], x => by simp [pl]
  | e :: es, x => by
    rw [pl]
    have ih := pl_mem es x
    split
    · rename_i h
      rw [ih]
      constructor
      · rintro ⟨e', h1, h2⟩; exact ⟨e', List.mem_cons_of_mem _ h1, h2⟩
      · rintro ⟨e', h1, h2⟩
        rcases List.mem_cons.1 h1 with rfl | h1
        · cases es with
          | nil => simp at h
          | cons e2 es2 =>
            have h3 : e2.f0 = e'.f0 := by simpa using h
            exact ⟨e2, List.mem_cons_self, by rw [h3]; exact h2⟩
        · exact ⟨e', h1, h2⟩
    · rw [List.mem_cons, ih]
      constructor
      · rintro (rfl | ⟨e', h1, h2⟩)
        · exact ⟨e, List.mem_cons_self, rfl⟩
        · exact ⟨e', List.mem_cons_of_mem _ h1, h2⟩
      · rintro ⟨e', h1, h2⟩
        rcases List.mem_cons.1 h1 with rfl | h1
        · exact .inl h2.symm
        · exact .inr ⟨e', h1, h2⟩
theorem pl_sorted : ∀ (ys : List S194), ys.Pairwise (fun a b => a.f0 ≤ b.f0) → (pl ys).Pairwise (· < ·)
  | [], _ => List.Pairwise.nil
  | e :: es, h => by
    rw [List.pairwise_cons] at h
    have ih := pl_sorted es h.2
    rw [pl]
    split
    · exact ih
    · rename_i hne
      refine List.pairwise_cons.2 ⟨fun x hx => ?_, ih⟩
      obtain ⟨e', h1, rfl⟩ := (pl_mem es x).1 hx
      have h2 := h.1 e' h1
      cases es with
      | nil => cases h1
      | cons e2 es2 =>
        have h3 := h.1 e2 List.mem_cons_self
        have h4 : e2.f0 ≠ e.f0 := fun he => hne (by simp [he])
        have h5 : e2.f0 ≤ e'.f0 := by
          rcases List.mem_cons.1 h1 with rfl | h1
          · exact Int.le_refl _
          · exact (List.pairwise_cons.1 h.2).1 e' h1
        omega
theorem sw_swp (want : Int → Bool) : ∀ (ys : List S194) (dep fr : Int) (out : List S79), ys.Pairwise (fun a b => a.f0 ≤ b.f0) → sw want ys dep fr out = swp want (fun p => dep + dsum p ys) (pl ys) fr out
  | [], _, _, _, _ => rfl
  | e :: es, dep, fr, out, h => by
    rw [List.pairwise_cons] at h
    have hge : ∀ p ∈ pl es, e.f0 ≤ p := fun p hp => by
      obtain ⟨e', h1, rfl⟩ := (pl_mem es p).1 hp
      exact h.1 e' h1
    have hD : ∀ p ∈ pl es, dep + e.f1 + dsum p es = dep + dsum p (e :: es) := fun p hp => by
      rw [dsum, if_pos (hge p hp)]; omega
    have ih := fun fr out => (sw_swp want es (dep + e.f1) fr out h.2).trans (swp_congr want _ (fun p => dep + dsum p (e :: es)) (pl es) fr out hD)
    rw [sw, pl]
    by_cases hh : es.head?.map (·.f0) = some e.f0
    · rw [if_pos hh, if_pos hh]; exact ih fr out
    · rw [if_neg hh, if_neg hh, swp]
      have hz : ∀ (l : List S194), (∀ x ∈ l, e.f0 < x.f0) → dsum e.f0 l = 0 := by
        intro l
        induction l with
        | nil => intro _; rfl
        | cons x l ihl => intro hx; rw [dsum, if_neg (by have := hx x List.mem_cons_self; omega), ihl (fun y hy => hx y (List.mem_cons_of_mem _ hy))]; rfl
      have hlt : ∀ x ∈ es, e.f0 < x.f0 := fun x hx => by
        have h1 := h.1 x hx
        cases es with
        | nil => cases hx
        | cons e2 es2 =>
          have h3 := h.1 e2 List.mem_cons_self
          have h4 : e2.f0 ≠ e.f0 := fun he => hh (by simp [he])
          have h5 : e2.f0 ≤ x.f0 := by
            rcases List.mem_cons.1 hx with rfl | hx
            · exact Int.le_refl _
            · exact (List.pairwise_cons.1 h.2).1 x hx
          omega
      have hde : dep + dsum e.f0 (e :: es) = dep + e.f1 := by rw [dsum, if_pos (Int.le_refl _), hz es hlt]; omega
      simp only [hde]
      rw [ih, ih, ih]
theorem dsum_perm (p : Int) {xs ys : List S194} (h : xs.Perm ys) : dsum p xs = dsum p ys := by
  induction h with
  | nil => rfl
  | cons x _ ih => rw [dsum, dsum, ih]
  | swap x y l => rw [dsum, dsum, dsum, dsum]; omega
  | trans _ _ ih1 ih2 => exact ih1.trans ih2
theorem strict_ext : ∀ {a b : List Int}, a.Pairwise (· < ·) → b.Pairwise (· < ·) → (∀ x, x ∈ a ↔ x ∈ b) → a = b
  | [], [], _, _, _ => rfl
  | [], y :: b, _, _, h => by have := (h y).2 List.mem_cons_self; cases this
  | x :: a, [], _, _, h => by have := (h x).1 List.mem_cons_self; cases this
  | x :: a, y :: b, ha, hb, h => by
    rw [List.pairwise_cons] at ha hb
    have hxy : x = y := by
      have h1 := (h x).1 List.mem_cons_self
      have h2 := (h y).2 List.mem_cons_self
      rcases List.mem_cons.1 h1 with h1 | h1
      · exact h1
      · rcases List.mem_cons.1 h2 with h2 | h2
        · exact h2.symm
        · have := ha.1 y h2; have := hb.1 x h1; omega
    subst hxy
    congr 1
    refine strict_ext ha.2 hb.2 (fun z => ⟨fun hz => ?_, fun hz => ?_⟩)
    · rcases List.mem_cons.1 ((h z).1 (List.mem_cons_of_mem _ hz)) with h1 | h1
      · have := ha.1 z hz; omega
      · exact h1
    · rcases List.mem_cons.1 ((h z).2 (List.mem_cons_of_mem _ hz)) with h1 | h1
      · have := hb.1 z hz; omega
      · exact h1
/-- All places, each once, ascending. -/
def ins (n : Int) : List Int → List Int
  | [] => [n]
  | x :: l => if x < n then x :: ins n l else if x = n then x :: l else n :: x :: l
def ends1 : List S79 → List Int → List Int
  | [], out => out
  | r :: l, out => ends1 l (ins r.f1 (ins r.f0 out))
def endsF : List (List S79) → List Int → List Int
  | [], out => out
  | l :: ls, out => endsF ls (ends1 l out)
theorem ins_mem (n : Int) : ∀ (l : List Int) (x : Int), x ∈ ins n l ↔ x = n ∨ x ∈ l
  | [], x => by simp [ins]
  | y :: l, x => by
    rw [ins]
    split
    · rw [List.mem_cons, ins_mem n l x, List.mem_cons]
      constructor
      · rintro (h | h | h); exact .inr (.inl h); exact .inl h; exact .inr (.inr h)
      · rintro (h | h | h); exact .inr (.inl h); exact .inl h; exact .inr (.inr h)
    · split
      · rename_i h; subst h
        constructor
        · intro h; exact .inr h
        · rintro (rfl | h); exact List.mem_cons_self; exact h
      · rw [List.mem_cons]
theorem ins_sorted (n : Int) : ∀ (l : List Int), l.Pairwise (· < ·) → (ins n l).Pairwise (· < ·)
  | [], _ => by simp [ins]
  | y :: l, h => by
    have h' := h
    rw [List.pairwise_cons] at h
    rw [ins]
    split
    · refine List.pairwise_cons.2 ⟨fun x hx => ?_, ins_sorted n l h.2⟩
      rcases (ins_mem n l x).1 hx with rfl | hx
      · assumption
      · exact h.1 x hx
    · split
      · exact h'
      · refine List.pairwise_cons.2 ⟨fun x hx => ?_, h'⟩
        rcases List.mem_cons.1 hx with rfl | hx
        · omega
        · have := h.1 x hx; omega
theorem ends1_mem : ∀ (l : List S79) (out : List Int) (x : Int), x ∈ ends1 l out ↔ x ∈ out ∨ ∃ r ∈ l, x = r.f0 ∨ x = r.f1
  | [], out, x => by simp [ends1]
  | r :: l, out, x => by
    rw [ends1, ends1_mem l, ins_mem, ins_mem]
    constructor
    · rintro ((h | h | h) | ⟨r', h1, h2⟩)
      · exact .inr ⟨r, List.mem_cons_self, .inr h⟩
      · exact .inr ⟨r, List.mem_cons_self, .inl h⟩
      · exact .inl h
      · exact .inr ⟨r', List.mem_cons_of_mem _ h1, h2⟩
    · rintro (h | ⟨r', h1, h2⟩)
      · exact .inl (.inr (.inr h))
      · rcases List.mem_cons.1 h1 with rfl | h1
        · rcases h2 with h2 | h2
          · exact .inl (.inr (.inl h2))
          · exact .inl (.inl h2)
        · exact .inr ⟨r', h1, h2⟩
theorem ends1_sorted : ∀ (l : List S79) (out : List Int), out.Pairwise (· < ·) → (ends1 l out).Pairwise (· < ·)
  | [], _, h => h
  | r :: l, out, h => ends1_sorted l _ (ins_sorted _ _ (ins_sorted _ _ h))
theorem edl_mem (b : Int) : ∀ (l : List S79) (x : Int), (∃ e ∈ edl b l, e.f0 = x) ↔ ∃ r ∈ l, x = r.f0 ∨ x = r.f1
  | [], x => by simp [edl]
  | r :: l, x => by
    have ih := edl_mem b l x
    rw [edl]
    constructor
    · rintro ⟨e, h1, h2⟩
      rcases List.mem_cons.1 h1 with rfl | h1
      · exact ⟨r, List.mem_cons_self, .inl h2.symm⟩
      · rcases List.mem_cons.1 h1 with rfl | h1
        · exact ⟨r, List.mem_cons_self, .inr h2.symm⟩
        · obtain ⟨r', h3, h4⟩ := ih.1 ⟨e, h1, h2⟩
          exact ⟨r', List.mem_cons_of_mem _ h3, h4⟩
    · rintro ⟨r', h1, h2⟩
      rcases List.mem_cons.1 h1 with rfl | h1
      · rcases h2 with h2 | h2
        · exact ⟨_, List.mem_cons_self, h2.symm⟩
        · exact ⟨_, List.mem_cons_of_mem _ List.mem_cons_self, h2.symm⟩
      · obtain ⟨e, h3, h4⟩ := ih.2 ⟨r', h1, h2⟩
        exact ⟨e, List.mem_cons_of_mem _ (List.mem_cons_of_mem _ h3), h4⟩
/-- Whichever order the sort chose among equals: the sweep comes to the same. -/
theorem sw_canon (want : Int → Bool) (a b : Int) (l m : List S79) (ys : List S194) (hp : (edl a l ++ edl b m).Perm ys) (hs : ys.Pairwise (fun a b => a.f0 ≤ b.f0)) : sw want ys 0 (-1) [] = swp want (fun p => dsum p (edl a l ++ edl b m)) (endsF [l, m] []) (-1) [] := by
  rw [sw_swp want ys 0 (-1) [] hs]
  have e : pl ys = endsF [l, m] [] := by
    refine strict_ext (pl_sorted ys hs) (ends1_sorted _ _ (ends1_sorted _ _ List.Pairwise.nil)) (fun x => ?_)
    show _ ↔ x ∈ ends1 m (ends1 l [])
    rw [pl_mem, ends1_mem, ends1_mem]
    have h1 := edl_mem a l x
    have h2 := edl_mem b m x
    constructor
    · rintro ⟨e, he, hx⟩
      rcases List.mem_append.1 (hp.symm.subset he) with h3 | h3
      · exact .inl (.inr (h1.1 ⟨e, h3, hx⟩))
      · exact .inr (h2.1 ⟨e, h3, hx⟩)
    · rintro ((h3 | h3) | h3)
      · cases h3
      · obtain ⟨e, h4, h5⟩ := h1.2 h3
        exact ⟨e, hp.subset (List.mem_append_left _ h4), h5⟩
      · obtain ⟨e, h4, h5⟩ := h2.2 h3
        exact ⟨e, hp.subset (List.mem_append_right _ h4), h5⟩
  rw [e]
  refine swp_congr want _ _ _ _ _ (fun p _ => ?_)
  show 0 + dsum p ys = _
  rw [dsum_perm p hp, Int.zero_add]
theorem sa_stop0 : True := trivial
def sAdd.want (d : Int) : Bool := decide (d > 0)
set_option maxRecDepth 100000 in
theorem sAdd.clo (d : Int) (w : World) : Calls Try.prog 84 #[.int .i64 d] w fun e w' => e = .returned (.bool (sAdd.want d)) ∧ Drawn0 w w' := by
  go_enter Try.func84, Try.ntmps84
  go_wp2_with (fail)
  go_ret
  exact ⟨by unfold sAdd.want; simp, Drawn0.refl w⟩
set_option maxHeartbeats 4000000 in
set_option maxRecDepth 100000 in
theorem sAdd.swept (g cap : Nat) (xs : List S194) (F : List Asn) (w0 w : World) (h : SL w0 w (rowA k194 194 (.slice (some ⟨g, 0, none⟩) xs.length cap) xs :: F)) (h2 : 2 ≤ xs.length) (hsz : xs.length < 100000) (hby : ∀ e ∈ xs, -1 ≤ e.f1 ∧ e.f1 ≤ 1) :
    Calls Try.prog 82 #[.slice (some ⟨g, 0, none⟩) xs.length cap, .func (.func 84) #[] #[]] w fun e w' => ∃ (v0_ : Value) (ys : List S194), e = .returned v0_ ∧ xs.Perm ys ∧ ys.Pairwise (fun a b => a.f0 ≤ b.f0) ∧ SL w0 w' (rowA k79 79 v0_ (sw sAdd.want ys 0 (-1) []) :: F) := by
  have hue := Try.underlying194
  have hur := Try.underlying79
  have HS := Aside0.mk h
  have HBY := Aside0.mk hby
  clear h hby
  go_enter Try.func82, Try.ntmps82
  go_upto_region 2 with (first | ((with_reducible refine gate_dst (N := 2) rfl ?_); refine box_event ?hg (N := 2) ?hd (cs := #[.slice (some ⟨g, 0, none⟩) xs.length cap]) (t := 155) ?hr ?_; (case hd => exact rfl); (case hg => exact rfl); (case hr => first | (go_simp; done) | (go_simp; rfl)); intro Bs hgb_ w1 hbox_ hb_; have n1_ := Aside0.mk (Sep.SL.newBlk (by repeat (first | (with_reducible first | exact HS.out | apply Sep.SL.drewN | apply Sep.SL.drew | apply Sep.SL.alloc) | exact HS.out)) hb_ hgb_ hbox_); clear HS hgb_ hbox_ hb_; have HS := n1_; clear n1_; have hz := HS.out.c0 0 rfl; have hsort := sort_SL HS.out 0 1 rfl rfl h2 hsz) | (go_at_call 116; refine hsort.mono ?_; rintro e w3 ⟨rfl, ys, hp, hs, h3⟩; have HS3 := Aside0.mk h3; clear hsort hz h3))
  have HS := HS3
  clear HS3
  have hlen := hp.length_eq
  have HP := Aside0.mk (show xs.Perm ys ∧ ys.Pairwise (fun a b => a.f0 ≤ b.f0) ∧ ∀ e ∈ ys, -1 ≤ e.f1 ∧ e.f1 ≤ 1 from ⟨hp, hs, fun e he => HBY.out e (hp.symm.subset he)⟩)
  clear hp hs HBY
  rw [hlen] at h2 hsz HS ⊢
  clear hlen
  have hz := HS.out.c0 0 rfl
  go_upto_region 5 with (fail)
  have HS := Aside0.mk (SL.nilRow HS.out k79 79)
  clear hz
  go_loopg [5, 6, 7, 8] ys.length (fun kq v5 v6 v7 v8 wr => ∃ (i dep fr : Int) (out : List S79), v6 = .int .i64 dep ∧ v7 = .int .i64 fr ∧ v8 = .int .i64 i ∧ 0 ≤ i ∧ i + kq = (ys.length : Int) ∧ -i ≤ dep ∧ dep ≤ i ∧ (out.length : Int) ≤ i ∧ Aside0 (sw sAdd.want (ys.drop i.toNat) dep fr out = sw sAdd.want ys 0 (-1) []) ∧ Aside0 (SL w0 wr (rowA k79 79 v5 out :: blkA Bs #[.slice (some ⟨g, 0, none⟩) ys.length cap] 155 :: rowA k194 194 (.slice (some ⟨g, 0, none⟩) ys.length cap) ys :: F)))
  case atStart => exact ⟨0, 0, -1, [], rfl, rfl, rfl, by omega, by omega, by omega, by omega, by simp, ⟨by simp⟩, by repeat (first | exact HS | exact Aside0.mk (by repeat (first | (with_reducible first | exact HS.out | apply Sep.SL.drewN | apply Sep.SL.drew | apply Sep.SL.alloc) | exact HS.out)))⟩
  case round =>
    clear HS
    obtain ⟨i, dep, fr, out, rfl, rfl, rfl, hi0, hik, hd0, hd1, hol, HI, HS⟩ := hrel
    have hz := HS.out.c0 1 rfl
    cases gk with
    | zero =>
      have hit : decide (i < (ys.length : Int)) = false := decide_eq_false (by omega)
      have HI2 := HI.out
      rw [List.drop_eq_nil_of_le (by omega), sw] at HI2
      have HI := Aside0.mk HI2
      clear HI2
      go_wp2_with (fail)
      go_ret
      exact ⟨_, ys, rfl, HP.out.1, HP.out.2.1, by rw [← HI.out]; exact (Sep.SL.front (Sep.SL.drop (Sep.SL.front (Sep.SL.drop (Sep.SL.front (by repeat (first | (with_reducible first | exact HS.out | apply Sep.SL.drewN | apply Sep.SL.drew | apply Sep.SL.alloc) | exact HS.out)) 2 rfl)) 1 rfl)) 0 rfl)⟩
    | succ g1 =>
      have hit : decide (i < (ys.length : Int)) = true := decide_eq_true (by omega)
      have q8 : i < (ys.length : Int) := by omega
      obtain ⟨ad, he, hx0, hx1⟩ := at_T194 (HS.out.C 2 rfl) i hi0 q8
      have he2 : (⟨g, 0, none⟩ : Addr) = ad := Option.some.inj he
      subst he2
      clear he
      rw [add_plain] at hx0 hx1
      obtain ⟨hdr, hmem⟩ := rd_drop_ z194 ys i hi0 q8
      have hb_ := HP.out.2.2 _ hmem
      have HI2 := HI.out
      rw [hdr, sw_cons] at HI2
      change sw_at _ (rd_T194 ys i).f0 (ys.drop (i + 1).toNat) (dep + (rd_T194 ys i).f1) fr out = _ at HI2
      have p8 := eq_true hi0
      have ha : rd_T194 ys i = ys.getD i.toNat z194 := rfl
      have HST : Aside0 (sw_at sAdd.want (rd_T194 ys i).f0 (ys.drop i.toNat) dep fr out = sw sAdd.want ys 0 (-1) []) := ⟨by
        unfold sw_at
        rw [hdr, if_pos (by rfl), sw_cons]
        exact HI2⟩
      clear HI HI2 hdr hmem ha hb_
      obtain ⟨a, hae⟩ : ∃ a, a = (rd_T194 ys i).f0 := ⟨_, rfl⟩
      rw [← hae] at hx0 HST
      have HA := Aside0.mk hae
      clear hae
      have q8e := eq_true q8
      go_upto_block 2 with (fail)
      clear hx0 hx1 hit hz
      go_cut [6, 8] (fun v6 v8 wx => ∃ (j dp : Int), v6 = .int .i64 dp ∧ v8 = .int .i64 j ∧ i < j ∧ j ≤ (ys.length : Int) ∧ -j ≤ dp ∧ dp ≤ j ∧ Aside0 ((ys.drop j.toNat).head?.map (·.f0) ≠ some a ∧ sw_at sAdd.want a (ys.drop j.toNat) dp fr out = sw sAdd.want ys 0 (-1) []) ∧ Aside0 (SL w0 wx (rowA k79 79 u5 out :: blkA Bs #[.slice (some ⟨g, 0, none⟩) ys.length cap] 155 :: rowA k194 194 (.slice (some ⟨g, 0, none⟩) ys.length cap) ys :: F)))
      case first =>
        go_wp2_with (fail)
        go_loopg [6, 8] (g1 + 1) (fun kq v6 v8 wr => ∃ (j dp : Int), v6 = .int .i64 dp ∧ v8 = .int .i64 j ∧ i ≤ j ∧ (kq : Int) + j = (ys.length : Int) ∧ -j ≤ dp ∧ dp ≤ j ∧ Aside0 (j = i → (rd_T194 ys j).f0 = a) ∧ Aside0 (sw_at sAdd.want a (ys.drop j.toNat) dp fr out = sw sAdd.want ys 0 (-1) []) ∧ Aside0 (SL w0 wr (rowA k79 79 u5 out :: blkA Bs #[.slice (some ⟨g, 0, none⟩) ys.length cap] 155 :: rowA k194 194 (.slice (some ⟨g, 0, none⟩) ys.length cap) ys :: F)))
        case atStart => exact ⟨i, dep, rfl, rfl, by omega, by omega, by omega, by omega, ⟨fun _ => HA.out.symm⟩, HST, by repeat (first | exact HS | exact Aside0.mk (by repeat (first | (with_reducible first | exact HS.out | apply Sep.SL.drewN | apply Sep.SL.drew | apply Sep.SL.alloc) | exact HS.out)))⟩
        case round =>
          clear HS HST
          obtain ⟨j, dp, rfl, rfl, hj0, hjk, hp0, hp1, HJi, HJ, HS⟩ := hrel
          have hz := HS.out.c0 1 rfl
          cases gk with
          | zero =>
            have hjt : decide (j < (ys.length : Int)) = false := decide_eq_false (by omega)
            have hJ2 : Aside0 ((ys.drop j.toNat).head?.map (·.f0) ≠ some a ∧ sw_at sAdd.want a (ys.drop j.toNat) dp fr out = sw sAdd.want ys 0 (-1) []) := ⟨by rw [List.drop_eq_nil_of_le (by omega)]; simp, HJ.out⟩
            go_wp2_with (fail)
            go_meet
            exact ⟨j, dp, rfl, rfl, by omega, by omega, hp0, hp1, hJ2, HS⟩
          | succ g2 =>
            have hjt : decide (j < (ys.length : Int)) = true := decide_eq_true (by omega)
            have hj1 : (0 : Int) ≤ j := by omega
            have q9 : j < (ys.length : Int) := by omega
            obtain ⟨ad, he, hx0, hx1⟩ := at_T194 (HS.out.C 2 rfl) j hj1 q9
            have he2 : (⟨g, 0, none⟩ : Addr) = ad := Option.some.inj he
            subst he2
            clear he
            rw [add_plain] at hx0 hx1
            obtain ⟨hdr, hmem⟩ := rd_drop_ z194 ys j hj1 q9
            obtain ⟨hb0_, hb1_⟩ := HP.out.2.2 _ hmem
            change -1 ≤ (rd_T194 ys j).f1 at hb0_
            change (rd_T194 ys j).f1 ≤ 1 at hb1_
            have p9 := eq_true hj1
            have hw1_ : wrap64 (j + 1) = j + 1 := by unfold wrap64; omega
            by_cases hea : (rd_T194 ys j).f0 = a
            · have HJ2 := HJ.out
              rw [hdr] at HJ2
              unfold sw_at at HJ2
              rw [if_pos (by show some (rd_T194 ys j).f0 = some a; rw [hea]), sw_cons] at HJ2
              change sw_at _ (rd_T194 ys j).f0 (ys.drop (j + 1).toNat) (dp + (rd_T194 ys j).f1) fr out = _ at HJ2
              rw [hea] at HJ2 hx0
              have HJ := Aside0.mk HJ2
              clear HJ2 hdr hmem hea HJi
              generalize (rd_T194 ys j).f1 = by_ at HJ hx1 hb0_ hb1_
              have hw2_ : wrap64 (dp + by_) = dp + by_ := by unfold wrap64; omega
              replace q9 := eq_true q9
              go_wp2_with (fail)
              go_roundg g2
              case measure => omega
              case rel => exact ⟨j + 1, dp + by_, by first | rfl | (simp; done) | (simp [*]; done), by first | rfl | (simp; done) | (simp [*]; done), by omega, by omega, by omega, by omega, ⟨fun e => by omega⟩, HJ, Aside0.mk (by repeat (first | (with_reducible first | exact HS.out | apply Sep.SL.drewN | apply Sep.SL.drew | apply Sep.SL.alloc) | exact HS.out))⟩
            · have hJ2 : Aside0 ((ys.drop j.toNat).head?.map (·.f0) ≠ some a ∧ sw_at sAdd.want a (ys.drop j.toNat) dp fr out = sw sAdd.want ys 0 (-1) []) := ⟨by rw [hdr]; show some (rd_T194 ys j).f0 ≠ some a; exact fun e => hea (Option.some.inj e), HJ.out⟩
              have hij : i < j := by
                rcases Int.lt_or_eq_of_le hj0 with h_ | h_
                · exact h_
                · exact absurd (HJi.out h_.symm) hea
              have hjl : j ≤ (ys.length : Int) := by omega
              have hbn : ((rd_T194 ys j).f0 == a) = false := by simp [hea]
              clear hdr hmem hea HJi HJ
              generalize (rd_T194 ys j).f0 = a2 at hx0 hbn
              replace q9 := eq_true q9
              go_wp2_with (fail)
              go_meet
              exact ⟨j, dp, rfl, rfl, hij, hjl, hp0, hp1, hJ2, HS⟩
      case rest =>
        obtain ⟨j, dp, rfl, rfl, hj0, hj1, hp0, hp1, HJ, HS⟩ := hcut
        have hclo := sAdd.clo dp
        by_cases hw : sAdd.want dp = true
        · rw [hw] at hclo
          by_cases hf : fr < 0
          · have HJ2 := HJ.out.2
            unfold sw_at at HJ2
            rw [if_neg HJ.out.1, if_pos hw, if_pos hf] at HJ2
            have HI := Aside0.mk HJ2
            have hfb := decide_eq_true hf
            clear HJ HJ2 HST hw hf
            go_wp2_with (go_at_call 84; refine (hclo _).mono ?_; rintro e w1_ ⟨rfl, ⟨nd, rfl⟩⟩)
            go_roundg (ys.length - j.toNat)
            case measure => omega
            case rel => exact ⟨j, dp, a, out, rfl, rfl, rfl, by omega, by omega, hp0, hp1, by omega, HI, Aside0.mk (by repeat (first | (with_reducible first | exact HS.out | apply Sep.SL.drewN | apply Sep.SL.drew | apply Sep.SL.alloc) | exact HS.out))⟩
          · have HJ2 := HJ.out.2
            unfold sw_at at HJ2
            rw [if_neg HJ.out.1, if_pos hw, if_neg hf] at HJ2
            have HI := Aside0.mk HJ2
            have hfb := decide_eq_false hf
            clear HJ HJ2 HST hw hf
            go_wp2_with (go_at_call 84; refine (hclo _).mono ?_; rintro e w1_ ⟨rfl, ⟨nd, rfl⟩⟩)
            go_roundg (ys.length - j.toNat)
            case measure => omega
            case rel => exact ⟨j, dp, fr, out, rfl, rfl, rfl, by omega, by omega, hp0, hp1, by omega, HI, Aside0.mk (by repeat (first | (with_reducible first | exact HS.out | apply Sep.SL.drewN | apply Sep.SL.drew | apply Sep.SL.alloc) | exact HS.out))⟩
        · have hw2 : sAdd.want dp = false := by simpa using hw
          rw [hw2] at hclo
          by_cases hf : fr ≥ 0
          · have HJ2 := HJ.out.2
            unfold sw_at at HJ2
            rw [if_neg HJ.out.1, if_neg hw, if_pos hf] at HJ2
            have HI := Aside0.mk HJ2
            have hfb : decide (0 ≤ fr) = true := decide_eq_true hf
            clear HJ HJ2 HST hw hw2 hf
            go_wp2_with (first | (go_at_call 84; refine (hclo _).mono ?_; rintro e w1_ ⟨rfl, ⟨nd, rfl⟩⟩) | ((with_reducible refine gate_builtin (b := .append) (xs := #[.tmp 63, .tmp 67]) rfl ?_); at_builtin; (first | with_reducible apply Sep.append_row (d := k79) (t := 64) (e := 79) (s := .tmp 63) (x := .tmp 67) (p := (⟨fr, a⟩ : S79)) (cs := [.int .i64 fr, .int .i64 a])); (case hSL => exact (Sep.SL.plain (Sep.SL.front (by repeat (first | (with_reducible first | exact HS.out | apply Sep.SL.drewN | apply Sep.SL.drew | apply Sep.SL.alloc) | exact HS.out)) 0 rfl) _ _ (fun _ _ => k79_mkM _ _ _ _)).swap); (case hgd => exact rfl); (case ho => exact rfl); (case ht => exact Try.underlying64); (case hinfo => exact info79); (case hz => exact rfl); (case hs0 => decide); (case hb0 => omega); (case hs => exact rfl); (case hx => exact rfl); (case hl => omega); intro v1_ w1_ hs_; have n1_ := Aside0.mk hs_; clear HS hs_; have HS := n1_; clear n1_; obtain ⟨a1_, c1_, e1_⟩ := Sep.SL.slice HS.out 0 rfl; rw [List.length_append, List.length_singleton] at e1_; subst e1_))
            go_roundg (ys.length - j.toNat)
            case measure => omega
            case rel => exact ⟨j, dp, -1, out ++ [(⟨fr, a⟩ : S79)], rfl, rfl, rfl, by omega, by omega, hp0, hp1, by rw [List.length_append, List.length_singleton]; omega, HI, Aside0.mk (by repeat (first | (with_reducible first | exact HS.out | apply Sep.SL.drewN | apply Sep.SL.drew | apply Sep.SL.alloc) | exact HS.out))⟩
          · have HJ2 := HJ.out.2
            unfold sw_at at HJ2
            rw [if_neg HJ.out.1, if_neg hw, if_neg hf] at HJ2
            have HI := Aside0.mk HJ2
            have hfb : decide (0 ≤ fr) = false := decide_eq_false hf
            clear HJ HJ2 HST hw hw2 hf
            go_wp2_with (go_at_call 84; refine (hclo _).mono ?_; rintro e w1_ ⟨rfl, ⟨nd, rfl⟩⟩)
            go_roundg (ys.length - j.toNat)
            case measure => omega
            case rel => exact ⟨j, dp, fr, out, rfl, rfl, rfl, by omega, by omega, hp0, hp1, by omega, HI, Aside0.mk (by repeat (first | (with_reducible first | exact HS.out | apply Sep.SL.drewN | apply Sep.SL.drew | apply Sep.SL.alloc) | exact HS.out))⟩
theorem wrap_id {n : Int} (h0 : -9223372036854775808 ≤ n) (h1 : n ≤ 9223372036854775807) : wrap64 n = n := by unfold wrap64; omega
theorem edl_length (b : Int) : ∀ l : List S79, (edl b l).length = 2 * l.length
  | [] => rfl
  | r :: l => by rw [edl, List.length_cons, List.length_cons, List.length_cons, edl_length b l]; omega
theorem edl_by (b : Int) (hb : -1 ≤ b ∧ b ≤ 1) : ∀ l : List S79, ∀ e ∈ edl b l, -1 ≤ e.f1 ∧ e.f1 ≤ 1
  | [], e, h => by cases h
  | r :: l, e, h => by
    rw [edl] at h
    rcases List.mem_cons.1 h with rfl | h
    · exact hb
    · rcases List.mem_cons.1 h with rfl | h
      · show -1 ≤ -b ∧ -b ≤ 1; omega
      · exact edl_by b hb l e h
theorem edges_go (b : Int) (hb : -1 ≤ b ∧ b ≤ 1) (l : List S79) (hl : l.length ≤ 1000) : ∀ (n : Nat) (i : Int) (acc : List S194), 0 ≤ i → i + n = (l.length : Int) → (acc.length : Int) ≤ 2 * i → ∃ k, span_edges.l0 k b acc l (l.length : Int) i = some (acc ++ edl b (l.drop i.toNat))
  | 0, i, acc, h0, h1, h2 => ⟨1, by rw [span_edges.l0, if_neg (by omega), List.drop_eq_nil_of_le (by omega), edl, List.append_nil]⟩
  | n + 1, i, acc, h0, h1, h2 => by
    obtain ⟨hdr, _⟩ := rd_drop_ z79 l i h0 (by omega)
    obtain ⟨k, hk⟩ := edges_go b hb l hl n (i + 1) (acc ++ [⟨(rd_T79 l i).f0, b⟩, ⟨(rd_T79 l i).f1, -b⟩]) (by omega) (by omega) (by simp; omega)
    refine ⟨k + 1, ?_⟩
    rw [span_edges.l0, if_pos (by omega), if_pos h0, if_pos (by omega), wrap_id (by omega) (by omega), wrap_id (by omega) (by omega)]
    show (if acc.length + 2 < 8796093022208 then _ else _) = _
    rw [if_pos (by omega), hdr, edl, hk, List.append_assoc]
    rfl
theorem edges_is (b : Int) (hb : -1 ≤ b ∧ b ≤ 1) (l : List S79) (hl : l.length ≤ 1000) : ∃ k, span_edges.f k l b = some (edl b l) := edges_go b hb l hl l.length 0 [] (by omega) (by omega) (by simp)
theorem edges_SL {w0 w : World} {L : List Asn} (h : SL w0 w L) (b : Int) (hb : -1 ≤ b ∧ b ≤ 1) (l : List S79) (hl : l.length ≤ 1000) (A : Option Addr) (c : Nat) (hC : Kd.C k79 w A l.length l) (hc : l.length ≤ c) :
    Calls Try.prog 83 #[.slice A l.length c, .int .i64 b] w fun e w' => ∃ v0_ : Value, e = .returned v0_ ∧ SL w0 w' (rowA k194 194 v0_ (edl b l) :: L) ∧ Below w.heap.size w w' := by
  obtain ⟨k, hk⟩ := edges_is b hb l hl
  refine (span_edges.calls k A c l b _ w hC hc hk).mono ?_
  rintro e w' ⟨v0_, rfl, hR, hb'⟩
  exact ⟨v0_, rfl, h.newRow hb' hR, hb'⟩
def tld (l : List S79) : List S79 × Int := if (l.length : Int) > 200 then ([], 8) else (l, 0)
theorem told_SL {w0 w : World} {L : List Asn} {v : Value} {xs : List S79} (h : SL w0 w (rowA k79 79 v xs :: L)) :
    Calls Try.prog 81 #[v] w fun e w' => ∃ v0_ : Value, e = .returned (.tuple #[v0_, .int .i64 (tld xs).2]) ∧ SL w0 w' (rowA k79 79 v0_ (tld xs).1 :: L) := by
  obtain ⟨S, hA, _, hS⟩ := h.open1
  refine (span_told.calls S v xs (tld xs).1 (tld xs).2 w0 w h.1 hA (by unfold span_told.f tld; split <;> rfl)).mono ?_
  rintro e w' ⟨v0_, rfl, hR, hb', hK⟩
  exact ⟨v0_, rfl, hS w' (rowA k79 79 v0_ (tld xs).1) hb' hK hR⟩
/-- One range, as a literal lays it. -/
theorem C_one (W : World) (r : S79) : Kd.C k79 (W.alloc (.cells #[.int .i64 r.f0, .int .i64 r.f1] 79)) (some ⟨W.heap.size, 0, none⟩) [r].length [r] := by
  have hb := blk_new W (.cells #[.int .i64 r.f0, .int .i64 r.f1] 79)
  refine ⟨rfl, by simp, fun _ => ⟨_, rfl, fun j p hj => ?_⟩⟩
  have hj0 : j = 0 := by have := (List.getElem?_eq_some_iff.1 hj).1; simp at this; exact this
  subst hj0
  have hp : r = p := by simpa using hj
  subst hp
  refine ⟨[.int .i64 r.f0, .int .i64 r.f1], rfl, k79_mk _ _, fun i u hu => ?_⟩
  rw [add_plain, blk_cell hb]
  simpa using hu
theorem edges_one {w0 w : World} {L : List Asn} (h : SL w0 w L) (b : Int) (hb : -1 ≤ b ∧ b ≤ 1) (r : S79) (A : Option Addr) (hC : Kd.C k79 w A 1 [r]) :
    Calls Try.prog 83 #[.slice A 1 1, .int .i64 b] w fun e w' => ∃ (A6 : Option Addr) (c6 : Nat), e = .returned (.slice A6 2 c6) ∧ SL w0 w' (rowA k194 194 (.slice A6 2 c6) (edl b [r]) :: L) := by
  refine (edges_SL h b hb [r] (by simp) A 1 hC (Nat.le_refl 1)).mono ?_
  rintro e w' ⟨v, rfl, h1, _⟩
  obtain ⟨A6, c6, e6⟩ := Sep.SL.slice h1 0 rfl
  subst e6
  exact ⟨A6, c6, rfl, h1⟩
theorem sa_stop1 : True := trivial
set_option maxHeartbeats 4000000 in
set_option maxRecDepth 100000 in
theorem sAdd.fine (A0 : Option Addr) (c0 : Nat) (l0 : List S79) (a b : Int) (w : World) (k : Nat) (hr0 : Kd.C k79 w A0 l0.length l0) (hc0 : l0.length ≤ c0) (hm : span_May.f k l0 = some true) (ho : span_one.f a b = some true) (hl : l0.length ≤ 200) :
    Calls Try.prog 41 #[.slice A0 l0.length c0, .agg #[.int .i64 a, .int .i64 b]] w fun e w' => ∃ v0_ : Value, e = .returned (.tuple #[v0_, .int .i64 (tld (swp sAdd.want (fun p => dsum p (edl 1 l0 ++ edl (1) [⟨a, b⟩])) (endsF [l0, [⟨a, b⟩]] []) (-1) [])).2]) ∧ Kd.R k79 79 w' w.heap.size (fun _ => True) v0_ (tld (swp sAdd.want (fun p => dsum p (edl 1 l0 ++ edl (1) [⟨a, b⟩])) (endsF [l0, [⟨a, b⟩]] []) (-1) [])).1 ∧ Below w.heap.size w w' := by
  have hur := Try.underlying79
  have HS := Aside0.mk (SL.start w)
  have HC := Aside0.mk hr0
  clear hr0
  go_enter Try.func41, Try.ntmps41
  go_upto_region 3 with (first | ((with_reducible refine gate_dst (N := 3) rfl ?_); refine box_event ?hg (N := 3) ?hd (cs := #[.int .i64 a, .int .i64 b]) (t := 79) ?hr ?_; (case hd => exact rfl); (case hg => exact rfl); (case hr => first | (go_simp; done) | (go_simp; rfl)); intro gr hgb_ w1 hbox_ hb_; have n1_ := Aside0.mk (Sep.SL.newBlk (by repeat (first | (with_reducible first | exact HS.out | apply Sep.SL.drewN | apply Sep.SL.drew | apply Sep.SL.alloc) | exact HS.out)) hb_ hgb_ hbox_); clear HS hgb_ hbox_ hb_; have HS := n1_; clear n1_; have hz0 := HS.out.c0 0 rfl; have hz1 := HS.out.c1 0 rfl) | (go_at_call 79; refine (span_May.calls k A0 c0 l0 true _ (Kd.C_below HC.out (SL.below (by repeat (first | (with_reducible first | exact HS.out | apply Sep.SL.drewN | apply Sep.SL.drew | apply Sep.SL.alloc) | exact HS.out)))) hc0 hm).mono ?_; rintro e w2 ⟨rfl, hb2⟩; have n1_ := Aside0.mk (SL.ext (by repeat (first | (with_reducible first | exact HS.out | apply Sep.SL.drewN | apply Sep.SL.drew | apply Sep.SL.alloc) | exact HS.out)) hb2); clear HS hb2 hz0 hz1; have HS := n1_; clear n1_; have hz0 := HS.out.c0 0 rfl; have hz1 := HS.out.c1 0 rfl) | (go_at_call 80; refine (span_one.calls a b true _ ho).mono ?_; rintro e w3 ⟨rfl, hb3⟩; have n1_ := Aside0.mk (SL.ext (by repeat (first | (with_reducible first | exact HS.out | apply Sep.SL.drewN | apply Sep.SL.drew | apply Sep.SL.alloc) | exact HS.out)) hb3); clear HS hb3 hz0 hz1; have HS := n1_; clear n1_; have hz0 := HS.out.c0 0 rfl; have hz1 := HS.out.c1 0 rfl))
  clear hm ho
  obtain ⟨xs, hxs⟩ : ∃ xs, xs = edl 1 l0 ++ edl (1) [(⟨a, b⟩ : S79)] := ⟨_, rfl⟩
  have hxl : xs.length = 2 * l0.length + 2 := by rw [hxs, List.length_append, edl_length, edl_length]; rfl
  have HBY : Aside0 (∀ e ∈ xs, -1 ≤ e.f1 ∧ e.f1 ≤ 1) := ⟨fun e he => by
    rw [hxs] at he
    rcases List.mem_append.1 he with h_ | h_
    · exact edl_by 1 (by omega) _ e h_
    · exact edl_by (1) (by omega) _ e h_⟩
  have HX := Aside0.mk hxs
  have HXL := Aside0.mk hxl
  clear hxs hxl
  go_region_law (first | ((revert HS6; intro HS6); (with_reducible apply Sep.append_rows_step (d := k194) (t := 155) (e := 194) (s := .tmp 15) (x := .tmp 18) (xs := edl 1 l0) (ys := edl (1) [(⟨a, b⟩ : S79)])); (case hSL => exact Sep.SL.front (by repeat (first | (with_reducible first | exact HS6.out | apply Sep.SL.drewN | apply Sep.SL.drew | apply Sep.SL.alloc) | exact HS6.out)) 1 rfl); (case hgd => exact rfl); (case ho => exact rfl); (case ht => exact Try.underlying155); (case hinfo => exact info194); (case hz => exact rfl); (case hs0 => decide); (case hb0 => omega); (case hs => exact rfl); (case hx => exact rfl); (case hl => rw [edl_length]; omega); intro v7 w7 h7; rw [← HX.out] at h7; obtain ⟨g7, cp7, e7⟩ := Sep.SL.form h7 0 rfl (by rw [HXL.out]; omega); subst e7; have HS7 := Aside0.mk h7; clear h7 HS6) | (go_simp; go_wp2_with (first | (go_at_call 83; (with_reducible refine (edges_SL (w0 := w) (L := [blkA gr #[.int .i64 a, .int .i64 b] 79]) ?hs5 1 (by omega) l0 (by omega) A0 c0 ?hc5 hc0).mono ?_); (case hs5 => exact (by repeat (first | (with_reducible first | exact HS.out | apply Sep.SL.drewN | apply Sep.SL.drew | apply Sep.SL.alloc) | exact HS.out))); (case hc5 => exact Kd.C_below HC.out (Sep.SL.below (w0 := w) (by repeat (first | (with_reducible first | exact HS.out | apply Sep.SL.drewN | apply Sep.SL.drew | apply Sep.SL.alloc) | exact HS.out)))); rintro e w5 ⟨v5, rfl, h5, hb5⟩; have HS5 := Aside0.mk h5; have HB5 := Aside0.mk hb5; clear hz0 hz1; have hz0 := HS5.out.c0 1 rfl; have hz1 := HS5.out.c1 1 rfl; clear h5 hb5) | (go_at_call 83; (with_reducible refine (edges_one (w0 := w) (L := [rowA k194 194 v5 (edl 1 l0), blkA gr #[.int .i64 a, .int .i64 b] 79]) ?hs6 (1) (by omega) (⟨a, b⟩ : S79) _ ?hc6).mono ?_); (case hs6 => exact (by repeat (first | (with_reducible first | exact HS5.out | apply Sep.SL.drewN | apply Sep.SL.drew | apply Sep.SL.alloc) | exact HS5.out))); (case hc6 => first | exact C_one _ ⟨a, b⟩ | exact Kd.C_below (C_one _ ⟨a, b⟩) (below_drew (Below.refl _ _)) | exact Kd.C_below (C_one _ ⟨a, b⟩) HB5.out | exact Kd.C_below (Kd.C_below (C_one _ ⟨a, b⟩) (below_drew (Below.refl _ _))) HB5.out); rintro e w6 ⟨A6, c6, rfl, h6⟩; have HS6 := Aside0.mk h6; clear h6 HS5 hz0 hz1) | (go_at_call 82; refine (sAdd.swept g7 cp7 xs _ w _ (by repeat (first | (with_reducible first | exact HS7.out | apply Sep.SL.drewN | apply Sep.SL.drew | apply Sep.SL.alloc) | exact HS7.out)) (by have := HXL.out; omega) (by have := HXL.out; omega) HBY.out).mono ?_; rintro e w8 ⟨v8, ys, rfl, hp8, hs8, h8⟩; rw [HX.out] at hp8; rw [sw_canon sAdd.want 1 (1) l0 [(⟨a, b⟩ : S79)] ys hp8 hs8] at h8; have HS8 := Aside0.mk h8; clear hp8 hs8 h8) | (go_at_call 81; refine (told_SL (by repeat (first | (with_reducible first | exact HS8.out | apply Sep.SL.drewN | apply Sep.SL.drew | apply Sep.SL.alloc) | exact HS8.out))).mono ?_; rintro e w9 ⟨v9, rfl, h9⟩; have HS9 := Aside0.mk h9; clear h9))))
  all_goals
    go_wp2_with (fail)
    go_ret2
    exact ⟨_, rfl, HS9.out.row 0 rfl, HS9.out.1⟩
def span_Add.f (k : Nat) (l0 : List S79) (a b : Int) : Option (List S79 × Int) :=
  (span_May.f k l0).bind fun t => if t = true then (span_one.f a b).bind fun u => if u = true then (if l0.length ≤ 200 then some (tld (swp sAdd.want (fun p => dsum p (edl 1 l0 ++ edl (1) [⟨a, b⟩])) (endsF [l0, [⟨a, b⟩]] []) (-1) [])) else none) else some ([], 4) else some ([], 4)
theorem span_Add.mono : ∀ l0 a b k, LeO (span_Add.f k l0 a b) (span_Add.f (k + 1) l0 a b) := fun l0 a b k => LeO.bind (span_May.mono l0 k) (fun _ => LeO.refl _)
set_option maxHeartbeats 4000000 in
set_option maxRecDepth 100000 in
theorem span_Add.calls (k : Nat) (A0 : Option Addr) (c0 : Nat) (l0 : List (S79)) (a1_0 : Int) (a1_1 : Int) (r1 : List (S79)) (r2 : Int) (w : World) (hr0 : Kd.C k79 w A0 l0.length l0) (hc0 : l0.length ≤ c0) (h : span_Add.f k l0 a1_0 a1_1 = some (r1, r2)) :
    Calls Try.prog 41 #[.slice A0 l0.length c0, .agg #[.int .i64 a1_0, .int .i64 a1_1]] w fun e w' => ∃ v0_ : Value, e = .returned (.tuple #[v0_, .int .i64 r2]) ∧ Kd.R k79 79 w' w.heap.size (fun _ => True) v0_ r1 ∧ Below w.heap.size w w' := by
  unfold span_Add.f at h
  have hur := Try.underlying79
  cases hm : span_May.f k l0 with
  | none => rw [hm] at h; cases h
  | some t =>
    rw [hm] at h
    simp only [Option.bind_some] at h
    cases t with
    | false =>
      rw [if_neg (by simp)] at h
      simp only [Option.some.injEq, Prod.mk.injEq] at h
      obtain ⟨rfl, rfl⟩ := h
      have HS := Aside0.mk (SL.start w)
      have HC := Aside0.mk hr0
      clear hr0
      go_enter Try.func41, Try.ntmps41
      go_wp2_with (first | ((with_reducible refine gate_dst (N := 3) rfl ?_); refine box_event ?hg (N := 3) ?hd (cs := #[.int .i64 a1_0, .int .i64 a1_1]) (t := 79) ?hr ?_; (case hd => exact rfl); (case hg => exact rfl); (case hr => first | (go_simp; done) | (go_simp; rfl)); intro gr hgb_ w1 hbox_ hb_; have n1_ := Aside0.mk (Sep.SL.newBlk (by repeat (first | (with_reducible first | exact HS.out | apply Sep.SL.drewN | apply Sep.SL.drew | apply Sep.SL.alloc) | exact HS.out)) hb_ hgb_ hbox_); clear HS hgb_ hbox_ hb_; have HS := n1_; clear n1_) | (go_at_call 79; refine (span_May.calls k A0 c0 l0 false _ (Kd.C_below HC.out (SL.below (by repeat (first | (with_reducible first | exact HS.out | apply Sep.SL.drewN | apply Sep.SL.drew | apply Sep.SL.alloc) | exact HS.out)))) hc0 hm).mono ?_; rintro e w2 ⟨rfl, hb2⟩; have n1_ := Aside0.mk (SL.ext (by repeat (first | (with_reducible first | exact HS.out | apply Sep.SL.drewN | apply Sep.SL.drew | apply Sep.SL.alloc) | exact HS.out)) hb2); clear HS hb2; have HS := n1_; clear n1_))
      go_ret2
      exact ⟨_, rfl, Kd.R_nil _ _ _ _ _, SL.below (by repeat (first | (with_reducible first | exact HS.out | apply Sep.SL.drewN | apply Sep.SL.drew | apply Sep.SL.alloc) | exact HS.out))⟩
    | true =>
      rw [if_pos rfl] at h
      cases ho : span_one.f a1_0 a1_1 with
      | none => rw [ho] at h; cases h
      | some u =>
        rw [ho] at h
        simp only [Option.bind_some] at h
        cases u with
        | false =>
          rw [if_neg (by simp)] at h
          simp only [Option.some.injEq, Prod.mk.injEq] at h
          obtain ⟨rfl, rfl⟩ := h
          have HS := Aside0.mk (SL.start w)
          have HC := Aside0.mk hr0
          clear hr0
          go_enter Try.func41, Try.ntmps41
          go_wp2_with (first | ((with_reducible refine gate_dst (N := 3) rfl ?_); refine box_event ?hg (N := 3) ?hd (cs := #[.int .i64 a1_0, .int .i64 a1_1]) (t := 79) ?hr ?_; (case hd => exact rfl); (case hg => exact rfl); (case hr => first | (go_simp; done) | (go_simp; rfl)); intro gr hgb_ w1 hbox_ hb_; have n1_ := Aside0.mk (Sep.SL.newBlk (by repeat (first | (with_reducible first | exact HS.out | apply Sep.SL.drewN | apply Sep.SL.drew | apply Sep.SL.alloc) | exact HS.out)) hb_ hgb_ hbox_); clear HS hgb_ hbox_ hb_; have HS := n1_; clear n1_; have hz0 := HS.out.c0 0 rfl; have hz1 := HS.out.c1 0 rfl) | (go_at_call 79; refine (span_May.calls k A0 c0 l0 true _ (Kd.C_below HC.out (SL.below (by repeat (first | (with_reducible first | exact HS.out | apply Sep.SL.drewN | apply Sep.SL.drew | apply Sep.SL.alloc) | exact HS.out)))) hc0 hm).mono ?_; rintro e w2 ⟨rfl, hb2⟩; have n1_ := Aside0.mk (SL.ext (by repeat (first | (with_reducible first | exact HS.out | apply Sep.SL.drewN | apply Sep.SL.drew | apply Sep.SL.alloc) | exact HS.out)) hb2); clear HS hb2 hz0 hz1; have HS := n1_; clear n1_; have hz0 := HS.out.c0 0 rfl; have hz1 := HS.out.c1 0 rfl) | (go_at_call 80; refine (span_one.calls a1_0 a1_1 false _ ho).mono ?_; rintro e w3 ⟨rfl, hb3⟩; have n1_ := Aside0.mk (SL.ext (by repeat (first | (with_reducible first | exact HS.out | apply Sep.SL.drewN | apply Sep.SL.drew | apply Sep.SL.alloc) | exact HS.out)) hb3); clear HS hb3 hz0 hz1; have HS := n1_; clear n1_))
          go_ret2
          exact ⟨_, rfl, Kd.R_nil _ _ _ _ _, SL.below (by repeat (first | (with_reducible first | exact HS.out | apply Sep.SL.drewN | apply Sep.SL.drew | apply Sep.SL.alloc) | exact HS.out))⟩
        | true =>
          rw [if_pos rfl] at h
          by_cases hl : l0.length ≤ 200
          · rw [if_pos hl] at h
            have h1 := congrArg Prod.fst (Option.some.inj h)
            have h2 := congrArg Prod.snd (Option.some.inj h)
            simp only at h1 h2
            rw [← h1, ← h2]
            exact sAdd.fine A0 c0 l0 a1_0 a1_1 w k hr0 hc0 hm ho hl
          · rw [if_neg hl] at h; cases h
theorem sa_stop : True := trivial

-- NOT PRINTED: function 87 (quicksetref_those)

-- NOT PRINTED: function 88 (quicksetref_ends)

end Go.Proofs.Ythnchojddoefiaa.QSpanAdds
