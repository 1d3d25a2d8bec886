/- Printed from a stub by wip/stub.py with the kit's print.py, then turned by hand. -/
import Derived.Test.YtgibkbiofdmiaaaQSpanHasesx0
import Derived.Test.YtgibkbiofdmiaaaQSpanHasesx1
namespace Go.Proofs.Ytgibkbiofdmiaaa.QSpanHases
open Go.RowKit Go.Proofs.YtgibkbiofdmiaaaW.PrintWords Go.Proofs.YtgibkbiofdmiaaaW.PrintLast Go.Proofs.YtgibkbiofdmiaaaW.PrintMore
attribute [local go_sem] max2_int min2_int max_two min_two max_three min_three max_four min_four   -- for this text's walks alone
set_option linter.unusedVariables false
set_option linter.unusedSimpArgs false

/-! ### span_Has: function 37 -/
def span_Has.s0 : Nat → List S63 → Int → Int → Int → Option Int
  | 0, _, _, _, _ => none
  | k + 1, l, n, i, j => if i < j then (if (rd_T63 l ((i + j) / 2)).f1 > n then span_Has.s0 k l n i ((i + j) / 2) else span_Has.s0 k l n ((i + j) / 2 + 1) j) else some i
theorem span_Has.mono_s : ∀ k, (∀ l n i j, LeO (span_Has.s0 k l n i j) (span_Has.s0 (k + 1) l n i j))
  | 0 => fun _ _ _ _ r h => by simp [span_Has.s0] at h
  | k + 1 => fun l n i j => by
    have ih := span_Has.mono_s k
    unfold span_Has.s0
    exact LeO.ite (LeO.ite (ih _ _ _ _) (ih _ _ _ _)) (LeO.refl _)
def span_Has.f (k : Nat) (l0 : List (S63)) (a1 : Int) : Option (Bool) := (span_May.f k l0).bind fun t => if t = true then (if l0.length ≤ 1048576 then (span_Has.s0 k l0 a1 0 (l0.length : Int)).bind fun i => (if 0 ≤ i then (if i < (l0.length : Int) then some (decide ((rd_T63 l0 i).f0 ≤ a1)) else some false) else none) else none) else some false
theorem span_Has.mono : ∀ a0 a1 k, LeO (span_Has.f k a0 a1) (span_Has.f (k + 1) a0 a1) := by
  intro a0 a1 k
  unfold span_Has.f
  refine LeO.bind (span_May.mono _ _) (fun _ => ?_)
  refine LeO.ite (LeO.ite (LeO.bind (span_Has.mono_s k _ _ _ _) (fun _ => LeO.refl _)) (LeO.none _)) (LeO.refl _)
set_option maxHeartbeats 400000 in
theorem span_Has.clo (B1 B2 : Nat) (A : Option Addr) (cap : Nat) (l : List S63) (n i : Int) (w : World) (h1 : w.cell? ⟨B1, 0, none⟩ = some (.slice A l.length cap)) (h2 : w.cell? ⟨B2, 0, none⟩ = some (.int .i64 n)) (hC : Kd.C k63 w A l.length l) (h0 : 0 ≤ i) (hlt : i < (l.length : Int)) :
    Calls Try.prog 54 #[.int .i64 i, .pointer (some ⟨B1, 0, none⟩), .pointer (some ⟨B2, 0, none⟩)] w fun e w' => e = .returned (.bool (decide (n < (rd_T63 l i).f1))) ∧ Drawn0 w w' := by
  obtain ⟨ad, e2, hx0, hx1⟩ := at_T63 hC i h0 hlt
  subst e2
  clear hC hx0
  have p0 := decide_eq_true h0
  have p1 := decide_eq_true hlt
  go_enter Try.func54, Try.ntmps54
  go_wp2_with (fail)
  go_quiet (fail)
  go_wp2_with (fail)
  go_ret
  exact ⟨rfl, ⟨_, rfl⟩⟩
set_option maxHeartbeats 1000000 in
theorem span_Has.search (k : Nat) (B1 B2 : Nat) (A : Option Addr) (cap : Nat) (l : List S63) (n q : Int) (w : World) (h1 : w.cell? ⟨B1, 0, none⟩ = some (.slice A l.length cap)) (h2 : w.cell? ⟨B2, 0, none⟩ = some (.int .i64 n)) (hC : Kd.C k63 w A l.length l) (hl : l.length ≤ 1048576)
    (h : span_Has.s0 k l n 0 (l.length : Int) = some q) :
    Calls Try.prog 53 #[.int .i64 (l.length : Int), .func (.func 54) #[] #[.pointer (some ⟨B1, 0, none⟩), .pointer (some ⟨B2, 0, none⟩)]] w fun e w' => e = .returned (.int .i64 q) ∧ Drawn0 w w' := by
  have HC := Aside0.mk hC
  have H1 := Aside0.mk h1
  have H2 := Aside0.mk h2
  have HH := Aside0.mk h
  clear hC h1 h2 h
  go_enter Try.func53, Try.ntmps53
  go_wp2_with (fail)
  go_loopg [5, 6, 7] k (fun kq v5 v6 v7 wr => ∃ i j : Int, v5 = .int .i64 i ∧ v6 = .int .i64 j ∧ 0 ≤ i ∧ j ≤ (l.length : Int) ∧ Aside0 (span_Has.s0 kq l n i j = some q) ∧ Aside0 (Drawn0 w wr))
  case atStart => exact ⟨0, _, rfl, rfl, Int.le_refl 0, Int.le_refl _, HH, Aside0.mk (Drawn0.refl _)⟩
  case round =>
    obtain ⟨i, j, rfl, rfl, hi, hj, HI, HB⟩ := hrel
    cases gk with
    | zero => exact absurd HI.out (by simp [span_Has.s0])
    | succ g1 =>
      have H := HI.out
      rw [span_Has.s0] at H
      clear HI HH
      by_cases hlt : i < j
      · rw [if_pos hlt] at H
        have hcl := span_Has.clo B1 B2 A cap l n ((i + j) / 2) wr ((HB.out.below.cell (World.block_lt_of_cell? w _ H1.out)).trans H1.out) ((HB.out.below.cell (World.block_lt_of_cell? w _ H2.out)).trans H2.out) (Kd.C_below HC.out HB.out.below) (by omega) (by omega)
        by_cases c : (rd_T63 l ((i + j) / 2)).f1 > n
        · rw [if_pos c] at H
          rw [decide_eq_true (show n < (rd_T63 l ((i + j) / 2)).f1 from c)] at hcl
          have HH := Aside0.mk H
          clear H c
          go_wp2_with (go_at_call 54; refine hcl.mono ?_; rintro e w1 ⟨rfl, ⟨nd, rfl⟩⟩)
          go_roundg g1
          case measure => omega
          case rel => exact ⟨i, _, rfl, rfl, hi, by omega, HH, Aside0.mk (HB.out.step nd)⟩
        · rw [if_neg c] at H
          rw [decide_eq_false (show ¬ n < (rd_T63 l ((i + j) / 2)).f1 from c)] at hcl
          have HH := Aside0.mk H
          clear H c
          go_wp2_with (go_at_call 54; refine hcl.mono ?_; rintro e w1 ⟨rfl, ⟨nd, rfl⟩⟩)
          go_roundg g1
          case measure => omega
          case rel => exact ⟨_, j, rfl, rfl, by omega, hj, HH, Aside0.mk (HB.out.step nd)⟩
      · rw [if_neg hlt] at H
        obtain rfl := Option.some.inj H
        clear H
        go_wp2_with (fail)
        go_ret
        exact ⟨rfl, HB.out⟩
set_option maxHeartbeats 1000000 in
theorem span_Has.calls (k : Nat) (A0 : Option Addr) (c0 : Nat) (l0 : List (S63)) (a1 : Int) (r : Bool) (w : World) (hr0 : Kd.C k63 w A0 l0.length l0) (hc0 : l0.length ≤ c0) (h : span_Has.f k l0 a1 = some r) :
    Calls Try.prog 37 #[.slice A0 l0.length c0, .int .i64 a1] w fun e w' => e = .returned (.bool r) ∧ Below w.heap.size w w' := by
  have HC := Aside0.mk hr0
  have HL := Aside0.mk hc0
  clear hr0 hc0
  unfold span_Has.f at h
  obtain ⟨t, ht, h⟩ := Option.bind_eq_some_iff.mp h
  have HT := Aside0.mk ht
  clear ht
  have hbb : ∀ o1 o2 : Obj, Below w.heap.size w ((w.alloc o1).alloc o2) := fun o1 o2 => ((Below.refl _ _).alloc (Nat.le_refl _) _).alloc (by simp) _
  have HBB := Aside0.mk hbb
  clear hbb
  cases t with
  | false =>
    obtain rfl := Option.some.inj h
    clear h
    go_enter Try.func37, Try.ntmps37
    go_wp2_with (go_at_call 46; refine (span_May.calls k A0 c0 l0 false _ (Kd.C_alloc (Kd.C_alloc HC.out _) _) HL.out HT.out).mono ?_; rintro e w1 ⟨rfl, hb1⟩)
    go_ret
    exact ⟨rfl, (HBB.out _ _).trans (hb1.mono (HBB.out _ _).size)⟩
  | true =>
    replace h : (if l0.length ≤ 1048576 then (span_Has.s0 k l0 a1 0 (l0.length : Int)).bind fun i => (if 0 ≤ i then (if i < (l0.length : Int) then some (decide ((rd_T63 l0 i).f0 ≤ a1)) else some false) else none) else none) = some r := h
    by_cases hl : l0.length ≤ 1048576
    · rw [if_pos hl] at h
      obtain ⟨i, hs, h⟩ := Option.bind_eq_some_iff.mp h
      have HS := Aside0.mk hs
      clear hs
      by_cases h0 : 0 ≤ i
      · replace h : (if i < (l0.length : Int) then some (decide ((rd_T63 l0 i).f0 ≤ a1)) else some false) = some r := by simpa [h0] using h
        by_cases h1 : i < (l0.length : Int)
        · rw [if_pos h1] at h
          obtain rfl := Option.some.inj h
          clear h
          obtain ⟨ad, e2, hx0, hx1⟩ := at_T63 HC.out i h0 h1
          subst e2
          have HX := Aside0.mk hx0
          clear hx0 hx1
          have p0 := decide_eq_true h0
          have p1 := decide_eq_true h1
          go_enter Try.func37, Try.ntmps37
          go_wp2_with (first | (go_at_call 46; refine (span_May.calls k (some ad) c0 l0 true _ (Kd.C_alloc (Kd.C_alloc HC.out _) _) HL.out HT.out).mono ?_; rintro e w1 ⟨rfl, hb1⟩; have HB1 := Aside0.mk ((HBB.out _ _).trans (hb1.mono (HBB.out _ _).size)); have q1 := (hb1.cell (p := ⟨w.heap.size, 0, none⟩) (by simp; omega)).trans (show _ = some (Value.slice (some ad) l0.length c0) by go_simp); have q2 := (hb1.cell (p := ⟨w.heap.size + 1, 0, none⟩) (by simp)).trans (show _ = some (Value.int .i64 a1) by go_simp); have hx0 := (HB1.out.cell (World.block_lt_of_cell? w _ HX.out)).trans HX.out; clear hb1) | (go_at_call 53; refine (span_Has.search k w.heap.size (w.heap.size + 1) (some ad) c0 l0 a1 i _ q1 q2 (Kd.C_below HC.out HB1.out) hl HS.out).mono ?_; rintro e w2 ⟨rfl, ⟨nd, rfl⟩⟩))
          go_quiet (fail)
          go_wp2_with (fail)
          go_ret
          exact ⟨by simp [*], pw_below_drewN (pw_below_drewN HB1.out _) _⟩
        · rw [if_neg h1] at h
          obtain rfl := Option.some.inj h
          clear h
          have p1 := decide_eq_false h1
          go_enter Try.func37, Try.ntmps37
          go_wp2_with (first | (go_at_call 46; refine (span_May.calls k A0 c0 l0 true _ (Kd.C_alloc (Kd.C_alloc HC.out _) _) HL.out HT.out).mono ?_; rintro e w1 ⟨rfl, hb1⟩; have HB1 := Aside0.mk ((HBB.out _ _).trans (hb1.mono (HBB.out _ _).size)); have q1 := (hb1.cell (p := ⟨w.heap.size, 0, none⟩) (by simp; omega)).trans (show _ = some (Value.slice A0 l0.length c0) by go_simp); have q2 := (hb1.cell (p := ⟨w.heap.size + 1, 0, none⟩) (by simp)).trans (show _ = some (Value.int .i64 a1) by go_simp); clear hb1) | (go_at_call 53; refine (span_Has.search k w.heap.size (w.heap.size + 1) A0 c0 l0 a1 i _ q1 q2 (Kd.C_below HC.out HB1.out) hl HS.out).mono ?_; rintro e w2 ⟨rfl, ⟨nd, rfl⟩⟩))
          go_quiet (fail)
          go_wp2_with (fail)
          go_ret
          exact ⟨by simp [*], pw_below_drewN (pw_below_drewN HB1.out _) _⟩
      · simp [h0] at h
    · rw [if_neg hl] at h
      cases h

/-! ### quicksetref_RangeMay: function 58 -/
def quicksetref_RangeMay.f (a0_0 : Int) (a0_1 : Int) : Option (Bool) := if 0 ≤ a0_0 then (if a0_0 < a0_1 then (some (decide (a0_1 ≤ 1048576))) else (some false)) else (some false)
set_option maxHeartbeats 8000000 in
set_option maxRecDepth 100000 in
theorem quicksetref_RangeMay.calls (a0_0 : Int) (a0_1 : Int) (r : Bool) (w : World) (h : quicksetref_RangeMay.f a0_0 a0_1 = some r) :
    Calls Try.prog 58 #[.agg #[.int .i64 a0_0, .int .i64 a0_1]] w fun e w' => e = .returned (.bool r) ∧ Below w.heap.size w w' := by
  have hu63 := Try.underlying63
  have HB := Aside0.mk (Below.refl w.heap.size w)
  have H : (if 0 ≤ a0_0 then (if a0_0 < a0_1 then (some (decide (a0_1 ≤ 1048576))) else (some false)) else (some false)) = some r := h
  clear h
  by_cases c2 : 0 ≤ a0_0
  · rw [if_pos c2] at H
    have c2b0 : decide (0 ≤ a0_0) = true := decide_eq_true c2
    clear c2
    by_cases c3 : a0_0 < a0_1
    · rw [if_pos c3] at H
      have c3b0 : decide (a0_0 < a0_1) = true := decide_eq_true c3
      clear c3
      obtain rfl := Option.some.inj H
      go_enter Try.func58, Try.ntmps58
      go_wp2_with (first | ((with_reducible refine gate_dst (N := 1) rfl ?_); refine box_event ?hg (N := 1) ?hd (cs := #[.int .i64 a0_0, .int .i64 a0_1]) (t := 63) ?hr ?_; (case hd => rfl); (case hg => rfl); (case hr => first | (go_simp; done) | (go_simp; rfl)); intro gb109 hg w4 hbox hb; have n0_ := Aside0.mk (below_step (by repeat (first | (with_reducible first | exact HB.out | apply below_alloc | apply pw_below_drewN | apply below_drew1) | exact HB.out)) hb); have n1_ := Aside0.mk (hbox); have n2_ := Aside0.mk ((by rw [hg]; exact (below_size (by repeat (first | (with_reducible first | exact HB.out | apply below_alloc | apply pw_below_drewN | apply below_drew1) | exact HB.out))) : w.heap.size ≤ gb109)); have n3_ := Aside0.mk ((by rw [hg]; exact (below_size (by repeat (first | (with_reducible first | exact HB.out | apply below_alloc | apply pw_below_drewN | apply below_drew1) | exact HB.out))) : w.heap.size ≤ gb109)); clear HB; have HB := n0_; have BK109 := n1_; have GW109 := n2_; have GE109 := n3_; clear n0_ n1_ n2_ n3_; clear hb hbox hg; have hcz5_0 : w4.cell? ⟨gb109, 0, none⟩ = some (.int .i64 a0_0) := (blk_cell BK109.out 0).trans rfl; have hcz5_1 : w4.cell? ⟨gb109, 1, none⟩ = some (.int .i64 a0_1) := (blk_cell BK109.out 1).trans rfl; have hfz5_0 := blk_frozen BK109.out 0; have hfz5_1 := blk_frozen BK109.out 1))
      go_ret
      exact ⟨by first | rfl | (simp [errW_none, errW_some] <;> rfl) | (simp [*, errW_none, errW_some] <;> rfl), by repeat (first | (with_reducible first | exact HB.out | apply below_alloc | apply pw_below_drewN | apply below_drew1 | refine below_set ?_ GE109.out) | exact HB.out)⟩
    · rw [if_neg c3] at H
      have c3b0 : decide (a0_0 < a0_1) = false := decide_eq_false c3
      clear c3
      obtain rfl := Option.some.inj H
      go_enter Try.func58, Try.ntmps58
      go_wp2_with (first | ((with_reducible refine gate_dst (N := 1) rfl ?_); refine box_event ?hg (N := 1) ?hd (cs := #[.int .i64 a0_0, .int .i64 a0_1]) (t := 63) ?hr ?_; (case hd => rfl); (case hg => rfl); (case hr => first | (go_simp; done) | (go_simp; rfl)); intro gb109 hg w6 hbox hb; have n0_ := Aside0.mk (below_step (by repeat (first | (with_reducible first | exact HB.out | apply below_alloc | apply pw_below_drewN | apply below_drew1) | exact HB.out)) hb); have n1_ := Aside0.mk (hbox); have n2_ := Aside0.mk ((by rw [hg]; exact (below_size (by repeat (first | (with_reducible first | exact HB.out | apply below_alloc | apply pw_below_drewN | apply below_drew1) | exact HB.out))) : w.heap.size ≤ gb109)); have n3_ := Aside0.mk ((by rw [hg]; exact (below_size (by repeat (first | (with_reducible first | exact HB.out | apply below_alloc | apply pw_below_drewN | apply below_drew1) | exact HB.out))) : w.heap.size ≤ gb109)); clear HB; have HB := n0_; have BK109 := n1_; have GW109 := n2_; have GE109 := n3_; clear n0_ n1_ n2_ n3_; clear hb hbox hg; have hcz7_0 : w6.cell? ⟨gb109, 0, none⟩ = some (.int .i64 a0_0) := (blk_cell BK109.out 0).trans rfl; have hcz7_1 : w6.cell? ⟨gb109, 1, none⟩ = some (.int .i64 a0_1) := (blk_cell BK109.out 1).trans rfl; have hfz7_0 := blk_frozen BK109.out 0; have hfz7_1 := blk_frozen BK109.out 1))
      go_ret
      exact ⟨by first | rfl | (simp [errW_none, errW_some] <;> rfl) | (simp [*, errW_none, errW_some] <;> rfl), by repeat (first | (with_reducible first | exact HB.out | apply below_alloc | apply pw_below_drewN | apply below_drew1 | refine below_set ?_ GE109.out) | exact HB.out)⟩
  · rw [if_neg c2] at H
    have c2b0 : decide (0 ≤ a0_0) = false := decide_eq_false c2
    clear c2
    obtain rfl := Option.some.inj H
    go_enter Try.func58, Try.ntmps58
    go_wp2_with (first | ((with_reducible refine gate_dst (N := 1) rfl ?_); refine box_event ?hg (N := 1) ?hd (cs := #[.int .i64 a0_0, .int .i64 a0_1]) (t := 63) ?hr ?_; (case hd => rfl); (case hg => rfl); (case hr => first | (go_simp; done) | (go_simp; rfl)); intro gb109 hg w8 hbox hb; have n0_ := Aside0.mk (below_step (by repeat (first | (with_reducible first | exact HB.out | apply below_alloc | apply pw_below_drewN | apply below_drew1) | exact HB.out)) hb); have n1_ := Aside0.mk (hbox); have n2_ := Aside0.mk ((by rw [hg]; exact (below_size (by repeat (first | (with_reducible first | exact HB.out | apply below_alloc | apply pw_below_drewN | apply below_drew1) | exact HB.out))) : w.heap.size ≤ gb109)); have n3_ := Aside0.mk ((by rw [hg]; exact (below_size (by repeat (first | (with_reducible first | exact HB.out | apply below_alloc | apply pw_below_drewN | apply below_drew1) | exact HB.out))) : w.heap.size ≤ gb109)); clear HB; have HB := n0_; have BK109 := n1_; have GW109 := n2_; have GE109 := n3_; clear n0_ n1_ n2_ n3_; clear hb hbox hg; have hcz9_0 : w8.cell? ⟨gb109, 0, none⟩ = some (.int .i64 a0_0) := (blk_cell BK109.out 0).trans rfl; have hcz9_1 : w8.cell? ⟨gb109, 1, none⟩ = some (.int .i64 a0_1) := (blk_cell BK109.out 1).trans rfl; have hfz9_0 := blk_frozen BK109.out 0; have hfz9_1 := blk_frozen BK109.out 1))
    go_ret
    exact ⟨by first | rfl | (simp [errW_none, errW_some] <;> rfl) | (simp [*, errW_none, errW_some] <;> rfl), by repeat (first | (with_reducible first | exact HB.out | apply below_alloc | apply pw_below_drewN | apply below_drew1 | refine below_set ?_ GE109.out) | exact HB.out)⟩

end Go.Proofs.Ytgibkbiofdmiaaa.QSpanHases
