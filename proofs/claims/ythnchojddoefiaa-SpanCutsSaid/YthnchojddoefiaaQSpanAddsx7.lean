/- Printed from a stub by wip/stub.py with the kit's print.py, then turned by hand. -/
import Derived.Test.YthnchojddoefiaaSpanCutR
import Derived.StillTailTactics
import Derived.Test.YthnchojddoefiaaSep
import Derived.Test.YthnchojddoefiaaSortRow
import Derived.Test.YthnchojddoefiaaSortLay
import Derived.Deep.RegionLaw
import Derived.StillTailTactics
import Derived.Test.YthnchojddoefiaaSpanAddR
import Derived.StillTailTactics
import Derived.Test.YthnchojddoefiaaQSpanAddsx0
import Derived.Test.YthnchojddoefiaaQSpanAddsx2
import Derived.Test.YthnchojddoefiaaQSpanAddsx3
import Derived.Test.YthnchojddoefiaaQSpanAddsx4
import Derived.Test.YthnchojddoefiaaQSpanAddsx5
import Derived.Test.YthnchojddoefiaaQSpanAddsx6
namespace Go.Proofs.Ythnchojddoefiaa.QSpanAdds
open Go.RowKit Go.Proofs.YthnchojddoefiaaW.PrintWords Go.Proofs.YthnchojddoefiaaW.PrintLast Go.Proofs.YthnchojddoefiaaW.PrintMore
attribute [local go_sem] max2_int min2_int max_two min_two max_three min_three max_four min_four   -- for this text's walks alone
set_option linter.unusedVariables false
set_option linter.unusedSimpArgs false

/-! ### quicksetref_SpanAdd: function 42 -/
open Go.Proofs.Ythnchojddoefiaa.Sep
def quicksetref_SpanAdd.f (k : Nat) (l0 : List S79) (a b : Int) : Option (List S79 × Int) :=
  (quicksetref_SpanMay.f k l0).bind fun t => if t = true then (quicksetref_RangeMay.f a b).bind fun u => if u = true then some (tld (th (sAdd.so l0 [⟨a, b⟩]) (endsF [l0, [⟨a, b⟩]] []) [])) else some ([], 4) else some ([], 4)
theorem quicksetref_SpanAdd.mono : ∀ l0 a b k, LeO (quicksetref_SpanAdd.f k l0 a b) (quicksetref_SpanAdd.f (k + 1) l0 a b) := fun l0 a b k => LeO.bind (quicksetref_SpanMay.mono l0 k) (fun _ => LeO.refl _)
set_option maxHeartbeats 4000000 in
set_option maxRecDepth 100000 in
theorem quicksetref_SpanAdd.calls (k : Nat) (A0 : Option Addr) (c0 : Nat) (l0 : List (S79)) (a1_0 : Int) (a1_1 : Int) (r1 : List (S79)) (r2 : Int) (w : World) (hr0 : Kd.C k79 w A0 l0.length l0) (hc0 : l0.length ≤ c0) (h : quicksetref_SpanAdd.f k l0 a1_0 a1_1 = some (r1, r2)) :
    Calls Try.prog 42 #[.slice A0 l0.length c0, .agg #[.int .i64 a1_0, .int .i64 a1_1]] w fun e w' => ∃ v0_ : Value, e = .returned (.tuple #[v0_, .int .i64 r2]) ∧ Kd.R k79 79 w' w.heap.size (fun _ => True) v0_ r1 ∧ Below w.heap.size w w' := by
  unfold quicksetref_SpanAdd.f at h
  have hur := Try.underlying79
  cases hm : quicksetref_SpanMay.f k l0 with
  | none => rw [hm] at h; cases h
  | some t =>
    rw [hm] at h
    simp only [Option.bind_some] at h
    cases t with
    | false =>
      rw [if_neg (by simp)] at h
      simp only [Option.some.injEq, Prod.mk.injEq] at h
      obtain ⟨rfl, rfl⟩ := h
      have HS := Aside0.mk (SL.start w)
      have HC := Aside0.mk hr0
      clear hr0
      go_enter Try.func42, Try.ntmps42
      go_wp2_with (first | ((with_reducible refine gate_dst (N := 2) rfl ?_); refine box_event ?hg (N := 2) ?hd (cs := #[.slice A0 l0.length c0]) (t := 64) ?hr ?_; (case hd => exact rfl); (case hg => exact rfl); (case hr => first | (go_simp; done) | (go_simp; rfl)); intro pb hgb_ w0_ hbox_ hb_; have n1_ := Aside0.mk (Sep.SL.newBlk (by repeat (first | (with_reducible first | exact HS.out | apply Sep.SL.drewN | apply Sep.SL.drew | apply Sep.SL.alloc) | exact HS.out)) hb_ hgb_ hbox_); clear HS hgb_ hbox_ hb_; have HS := n1_; clear n1_; have hz := HS.out.c0 0 rfl) | ((with_reducible refine gate_dst (N := 3) rfl ?_); refine box_event ?hg (N := 3) ?hd (cs := #[.int .i64 a1_0, .int .i64 a1_1]) (t := 79) ?hr ?_; (case hd => exact rfl); (case hg => exact rfl); (case hr => first | (go_simp; done) | (go_simp; rfl)); intro gr hgb_ w1 hbox_ hb_; have n1_ := Aside0.mk (Sep.SL.newBlk (by repeat (first | (with_reducible first | exact HS.out | apply Sep.SL.drewN | apply Sep.SL.drew | apply Sep.SL.alloc) | exact HS.out)) hb_ hgb_ hbox_); clear HS hgb_ hbox_ hb_; have HS := n1_; clear n1_; have hz := HS.out.c0 1 rfl) | (go_at_call 85; refine (quicksetref_SpanMay.calls k A0 c0 l0 false _ (Kd.C_below HC.out (SL.below (by repeat (first | (with_reducible first | exact HS.out | apply Sep.SL.drewN | apply Sep.SL.drew | apply Sep.SL.alloc) | exact HS.out)))) hc0 hm).mono ?_; rintro e w2 ⟨rfl, hb2⟩; have n1_ := Aside0.mk (SL.ext (by repeat (first | (with_reducible first | exact HS.out | apply Sep.SL.drewN | apply Sep.SL.drew | apply Sep.SL.alloc) | exact HS.out)) hb2); clear HS hb2; have HS := n1_; clear n1_))
      go_ret2
      exact ⟨_, rfl, Kd.R_nil _ _ _ _ _, SL.below (by repeat (first | (with_reducible first | exact HS.out | apply Sep.SL.drewN | apply Sep.SL.drew | apply Sep.SL.alloc) | exact HS.out))⟩
    | true =>
      rw [if_pos rfl] at h
      cases ho : quicksetref_RangeMay.f a1_0 a1_1 with
      | none => rw [ho] at h; cases h
      | some u =>
        rw [ho] at h
        simp only [Option.bind_some] at h
        cases u with
        | false =>
          rw [if_neg (by simp)] at h
          simp only [Option.some.injEq, Prod.mk.injEq] at h
          obtain ⟨rfl, rfl⟩ := h
          have HS := Aside0.mk (SL.start w)
          have HC := Aside0.mk hr0
          clear hr0
          go_enter Try.func42, Try.ntmps42
          go_wp2_with (first | ((with_reducible refine gate_dst (N := 2) rfl ?_); refine box_event ?hg (N := 2) ?hd (cs := #[.slice A0 l0.length c0]) (t := 64) ?hr ?_; (case hd => exact rfl); (case hg => exact rfl); (case hr => first | (go_simp; done) | (go_simp; rfl)); intro pb hgb_ w0_ hbox_ hb_; have n1_ := Aside0.mk (Sep.SL.newBlk (by repeat (first | (with_reducible first | exact HS.out | apply Sep.SL.drewN | apply Sep.SL.drew | apply Sep.SL.alloc) | exact HS.out)) hb_ hgb_ hbox_); clear HS hgb_ hbox_ hb_; have HS := n1_; clear n1_) | ((with_reducible refine gate_dst (N := 3) rfl ?_); refine box_event ?hg (N := 3) ?hd (cs := #[.int .i64 a1_0, .int .i64 a1_1]) (t := 79) ?hr ?_; (case hd => exact rfl); (case hg => exact rfl); (case hr => first | (go_simp; done) | (go_simp; rfl)); intro gr hgb_ w1 hbox_ hb_; have n1_ := Aside0.mk (Sep.SL.newBlk (by repeat (first | (with_reducible first | exact HS.out | apply Sep.SL.drewN | apply Sep.SL.drew | apply Sep.SL.alloc) | exact HS.out)) hb_ hgb_ hbox_); clear HS hgb_ hbox_ hb_; have HS := n1_; clear n1_; have hz := HS.out.c0 1 rfl; have hz0 := HS.out.c0 0 rfl; have hz1 := HS.out.c1 0 rfl) | (go_at_call 85; refine (quicksetref_SpanMay.calls k A0 c0 l0 true _ (Kd.C_below HC.out (SL.below (by repeat (first | (with_reducible first | exact HS.out | apply Sep.SL.drewN | apply Sep.SL.drew | apply Sep.SL.alloc) | exact HS.out)))) hc0 hm).mono ?_; rintro e w2 ⟨rfl, hb2⟩; have n1_ := Aside0.mk (SL.ext (by repeat (first | (with_reducible first | exact HS.out | apply Sep.SL.drewN | apply Sep.SL.drew | apply Sep.SL.alloc) | exact HS.out)) hb2); clear HS hb2 hz hz0 hz1; have HS := n1_; clear n1_; have hz0 := HS.out.c0 0 rfl; have hz1 := HS.out.c1 0 rfl) | (go_at_call 86; refine (quicksetref_RangeMay.calls a1_0 a1_1 false _ ho).mono ?_; rintro e w3 ⟨rfl, hb3⟩; have n1_ := Aside0.mk (SL.ext (by repeat (first | (with_reducible first | exact HS.out | apply Sep.SL.drewN | apply Sep.SL.drew | apply Sep.SL.alloc) | exact HS.out)) hb3); clear HS hb3 hz0 hz1; have HS := n1_; clear n1_))
          go_ret2
          exact ⟨_, rfl, Kd.R_nil _ _ _ _ _, SL.below (by repeat (first | (with_reducible first | exact HS.out | apply Sep.SL.drewN | apply Sep.SL.drew | apply Sep.SL.alloc) | exact HS.out))⟩
        | true =>
          rw [if_pos rfl] at h
          have h1 := congrArg Prod.fst (Option.some.inj h)
          have h2 := congrArg Prod.snd (Option.some.inj h)
          simp only at h1 h2
          rw [← h1, ← h2]
          exact sAdd.ref A0 c0 l0 a1_0 a1_1 w k hr0 hc0 hm ho

/-! ### quicksetlaw_SpanAdds: function 12 -/
def quicksetlaw_SpanAdds.f (k : Nat) (l0 : List (S79)) (a1_0 : Int) (a1_1 : Int) : Option (Bool) := (span_Add.f k l0 a1_0 a1_1).bind fun bt164 => ((quicksetref_SpanAdd.f k l0 a1_0 a1_1).bind fun bt168 => ((quicksetlaw_sameRanges.f k bt164.1 bt168.1).bind fun t172 => (if t172 = true then (some (bt164.2 == bt168.2)) else (some false))))
theorem quicksetlaw_SpanAdds.mono : ∀ a0 a1 a2 k, LeO (quicksetlaw_SpanAdds.f k a0 a1 a2) (quicksetlaw_SpanAdds.f (k + 1) a0 a1 a2) := by
  intro a0 a1 a2 k
  unfold quicksetlaw_SpanAdds.f
  repeat' first
      | (with_reducible exact quicksetlaw_sameRanges.mono _ _ _)
      | (with_reducible exact quicksetref_SpanAdd.mono _ _ _ _)
      | (with_reducible exact span_Add.mono _ _ _ _)
      | (with_reducible exact LeO.refl _)
      | (with_reducible exact LeO.none _)
      | (with_reducible refine LeO.ite ?_ ?_)
      | (with_reducible refine LeO.bind ?_ (fun _ => ?_))
      | exact quicksetlaw_sameRanges.mono _ _ _
      | exact quicksetref_SpanAdd.mono _ _ _ _
      | exact span_Add.mono _ _ _ _
      | exact LeO.none _
      | refine LeO.ite ?_ ?_
      | refine LeO.bind ?_ (fun _ => ?_)
set_option maxHeartbeats 8000000 in
set_option maxRecDepth 100000 in
theorem quicksetlaw_SpanAdds.calls (k : Nat) (A0 : Option Addr) (c0 : Nat) (l0 : List (S79)) (a1_0 : Int) (a1_1 : Int) (r : Bool) (w : World) (hr0 : Kd.C k79 w A0 l0.length l0) (hc0 : l0.length ≤ c0) (h : quicksetlaw_SpanAdds.f k l0 a1_0 a1_1 = some r) :
    Calls Try.prog 12 #[.slice A0 l0.length c0, .agg #[.int .i64 a1_0, .int .i64 a1_1]] w fun e w' => e = .returned (.bool r) ∧ Below w.heap.size w w' := by
  have hu79 := Try.underlying79
  have HR0 := Aside0.mk hr0
  have HC0 := Aside0.mk hc0
  clear hr0 hc0
  have HB := Aside0.mk (Below.refl w.heap.size w)
  have H : ((span_Add.f k l0 a1_0 a1_1).bind fun bt164 => ((quicksetref_SpanAdd.f k l0 a1_0 a1_1).bind fun bt168 => ((quicksetlaw_sameRanges.f k bt164.1 bt168.1).bind fun t172 => (if t172 = true then (some (bt164.2 == bt168.2)) else (some false))))) = some r := h
  clear h
  replace H := Option.bind_eq_some_iff.mp H
  obtain ⟨⟨t164, t167⟩, A30, H⟩ := H
  replace H : ((quicksetref_SpanAdd.f k l0 a1_0 a1_1).bind fun bt168 => ((quicksetlaw_sameRanges.f k t164 bt168.1).bind fun t172 => (if t172 = true then (some (t167 == bt168.2)) else (some false)))) = some r := H
  have A3 := Aside0.mk A30
  clear A30
  replace H := Option.bind_eq_some_iff.mp H
  obtain ⟨⟨t168, t171⟩, A40, H⟩ := H
  replace H : ((quicksetlaw_sameRanges.f k t164 t168).bind fun t172 => (if t172 = true then (some (t167 == t171)) else (some false))) = some r := H
  have A4 := Aside0.mk A40
  clear A40
  replace H := Option.bind_eq_some_iff.mp H
  obtain ⟨t172, A50, H⟩ := H
  replace H : (if t172 = true then (some (t167 == t171)) else (some false)) = some r := H
  have A5 := Aside0.mk A50
  clear A50
  by_cases c6 : t172 = true
  · subst c6
    have H1 : (some (t167 == t171)) = some r := by rw [if_pos rfl] at H; exact H
    clear H
    have H := H1
    clear H1
    obtain rfl := Option.some.inj H
    go_enter Try.func12, Try.ntmps12
    go_wp2_with (first | ((with_reducible refine gate_dst (N := 3) rfl ?_); refine box_event ?hg (N := 3) ?hd (cs := #[.int .i64 a1_0, .int .i64 a1_1]) (t := 79) ?hr ?_; (case hd => rfl); (case hg => rfl); (case hr => first | (go_simp; done) | (go_simp; rfl)); intro gb163 hg w7 hbox hb; have n0_ := Aside0.mk (below_step (by repeat (first | (with_reducible first | exact HB.out | apply below_alloc | apply pw_below_drewN | apply below_drew1) | exact HB.out)) hb); have n1_ := Aside0.mk (hbox); have n2_ := Aside0.mk ((by rw [hg]; exact (below_size (by repeat (first | (with_reducible first | exact HB.out | apply below_alloc | apply pw_below_drewN | apply below_drew1) | exact HB.out))) : w.heap.size ≤ gb163)); have n3_ := Aside0.mk ((by rw [hg]; exact (below_size (by repeat (first | (with_reducible first | exact HB.out | apply below_alloc | apply pw_below_drewN | apply below_drew1) | exact HB.out))) : w.heap.size ≤ gb163)); clear HB; have HB := n0_; have BK163 := n1_; have GW163 := n2_; have GE163 := n3_; clear n0_ n1_ n2_ n3_; clear hb hbox hg; have hcz8_0 : w7.cell? ⟨gb163, 0, none⟩ = some (.int .i64 a1_0) := (blk_cell BK163.out 0).trans rfl; have hcz8_1 : w7.cell? ⟨gb163, 1, none⟩ = some (.int .i64 a1_1) := (blk_cell BK163.out 1).trans rfl; have hfz8_0 := blk_frozen BK163.out 0; have hfz8_1 := blk_frozen BK163.out 1) | ((with_reducible refine gate_callee (f := 41) rfl ?_); refine goesL_ (some 12) rfl rfl Try.func41 (by kernel_rfl) rfl #[.slice A0 l0.length c0, .agg #[.int .i64 a1_0, .int .i64 a1_1]] rfl (by (try simp only [List.map_toArray, List.map_cons, List.map_nil]); first | done | rfl | (simp only [List.length_drop, List.length_take]; rfl)) ?_; (with_reducible refine (span_Add.calls k _ _ l0 a1_0 a1_1 t164 t167 _ ?side1 ?side2 A3.out).mono ?_); (case side1 => repeat (first | exact (Kd.C_below HR0.out HB.out) | (with_reducible refine Kd.C_alloc ?_ _) | (with_reducible refine Kd.C_drewN ?_ _) | (with_reducible refine Kd.C_drew ?_))); (case side2 => exact HC0.out); rintro e w9 ⟨v165, rfl, ho0, hb⟩; refine ⟨_, rfl, ?_⟩; have n0_ := Aside0.mk (Kd.R_lower (Kd.R_newB ho0 (g := gb163) (o := .cells #[.int .i64 a1_0, .int .i64 a1_1] 79 (0, 0)) (by (with_reducible repeat (first | refine blk_drewN ?_ _ | refine blk_drew ?_ | refine blk_alloc ?_ _)); exact BK163.out)) (below_size (by repeat (first | (with_reducible first | exact HB.out | apply below_alloc | apply pw_below_drewN | apply below_drew1 | refine below_set ?_ GE163.out) | exact HB.out)))); have n1_ := Aside0.mk (blk_below (g := gb163) (o := .cells #[.int .i64 a1_0, .int .i64 a1_1] 79 (0, 0)) (by (with_reducible repeat (first | refine blk_drewN ?_ _ | refine blk_drew ?_ | refine blk_alloc ?_ _)); exact BK163.out) hb); have n2_ := Aside0.mk (below_step (by repeat (first | (with_reducible first | exact HB.out | apply below_alloc | apply pw_below_drewN | apply below_drew1 | refine below_set ?_ GE163.out) | exact HB.out)) hb); clear BK163; clear HB; have HO166 := n0_; have BK163 := n1_; have HB := n2_; clear n0_ n1_ n2_; (try clear hb); (try clear hb2); (try clear hk); (try clear hi); (try clear ho0); have hcz10_0 : w9.cell? ⟨gb163, 0, none⟩ = some (.int .i64 a1_0) := (blk_cell BK163.out 0).trans rfl; have hcz10_1 : w9.cell? ⟨gb163, 1, none⟩ = some (.int .i64 a1_1) := (blk_cell BK163.out 1).trans rfl; have hfz10_0 := blk_frozen BK163.out 0; have hfz10_1 := blk_frozen BK163.out 1) | ((with_reducible refine gate_callee (f := 42) rfl ?_); refine goesL_ (some 18) rfl rfl Try.func42 (by kernel_rfl) rfl #[.slice A0 l0.length c0, .agg #[.int .i64 a1_0, .int .i64 a1_1]] rfl (by (try simp only [List.map_toArray, List.map_cons, List.map_nil]); first | done | rfl | (simp only [List.length_drop, List.length_take]; rfl)) ?_; (with_reducible refine (quicksetref_SpanAdd.calls k _ _ l0 a1_0 a1_1 t168 t171 _ ?side1 ?side2 A4.out).mono ?_); (case side1 => repeat (first | exact (Kd.C_below HR0.out HB.out) | (with_reducible refine Kd.C_alloc ?_ _) | (with_reducible refine Kd.C_drewN ?_ _) | (with_reducible refine Kd.C_drew ?_))); (case side2 => exact HC0.out); rintro e w11 ⟨v169, rfl, ho0, hb⟩; refine ⟨_, rfl, ?_⟩; have n0_ := Aside0.mk (Kd.R_elder' (by (with_reducible repeat (first | apply Kd.R_alloc | apply Kd.R_drewN | apply Kd.R_drew)); exact HO166.out) (Kd.R_base ho0) hb); have n1_ := Aside0.mk (Kd.R_lower (Kd.R_newB (Kd.R_new' ho0 (Kd.R_lt (by (with_reducible repeat (first | apply Kd.R_alloc | apply Kd.R_drewN | apply Kd.R_drew)); exact HO166.out))) (g := gb163) (o := .cells #[.int .i64 a1_0, .int .i64 a1_1] 79 (0, 0)) (by (with_reducible repeat (first | refine blk_drewN ?_ _ | refine blk_drew ?_ | refine blk_alloc ?_ _)); exact BK163.out)) (below_size (by repeat (first | (with_reducible first | exact HB.out | apply below_alloc | apply pw_below_drewN | apply below_drew1 | refine below_set ?_ GE163.out) | exact HB.out)))); have n2_ := Aside0.mk (blk_below (g := gb163) (o := .cells #[.int .i64 a1_0, .int .i64 a1_1] 79 (0, 0)) (by (with_reducible repeat (first | refine blk_drewN ?_ _ | refine blk_drew ?_ | refine blk_alloc ?_ _)); exact BK163.out) hb); have n3_ := Aside0.mk (below_step (by repeat (first | (with_reducible first | exact HB.out | apply below_alloc | apply pw_below_drewN | apply below_drew1 | refine below_set ?_ GE163.out) | exact HB.out)) hb); clear HO166; clear BK163; clear HB; have HO166 := n0_; have HO170 := n1_; have BK163 := n2_; have HB := n3_; clear n0_ n1_ n2_ n3_; (try clear hb); (try clear hb2); (try clear hk); (try clear hi); (try clear ho0); obtain ⟨Ao12, co12, eo12⟩ := Kd.R_slice HO166.out; subst eo12; obtain ⟨Ao13, co13, eo13⟩ := Kd.R_slice HO170.out; subst eo13) | ((with_reducible refine gate_callee (f := 34) rfl ?_); refine goesL_ (some 23) rfl rfl Try.func34 (by kernel_rfl) rfl #[.slice Ao12 t164.length co12, .slice Ao13 t168.length co13] rfl (by (try simp only [List.map_toArray, List.map_cons, List.map_nil]); first | done | rfl | (simp only [List.length_drop, List.length_take]; rfl)) ?_; (with_reducible refine (quicksetlaw_sameRanges.calls k _ _ t164 _ _ t168 true _ ?side1 ?side2 ?side3 ?side4 A5.out).mono ?_); (case side1 => repeat (first | exact (Kd.R_reads' HO166.out).2.2 | (with_reducible refine Kd.C_alloc ?_ _) | (with_reducible refine Kd.C_drewN ?_ _) | (with_reducible refine Kd.C_drew ?_))); (case side2 => exact (Kd.R_reads' HO166.out).2.1); (case side3 => repeat (first | exact (Kd.R_reads' HO170.out).2.2 | (with_reducible refine Kd.C_alloc ?_ _) | (with_reducible refine Kd.C_drewN ?_ _) | (with_reducible refine Kd.C_drew ?_))); (case side4 => exact (Kd.R_reads' HO170.out).2.1); rintro e w' ⟨rfl, ⟨nd, rfl⟩⟩; refine ⟨_, rfl, ?_⟩))
    go_ret
    exact ⟨by first | rfl | (simp [errW_none, errW_some] <;> rfl) | (simp [*, errW_none, errW_some] <;> rfl), by repeat (first | (with_reducible first | exact HB.out | apply below_alloc | apply pw_below_drewN | apply below_drew1 | refine below_set ?_ GE163.out) | exact HB.out)⟩
  · replace c6 := Bool.eq_false_iff.mpr c6
    subst c6
    have H1 : (some false) = some r := by rw [if_neg (show ¬ (false = true) by decide)] at H; exact H
    clear H
    have H := H1
    clear H1
    obtain rfl := Option.some.inj H
    go_enter Try.func12, Try.ntmps12
    go_wp2_with (first | ((with_reducible refine gate_dst (N := 3) rfl ?_); refine box_event ?hg (N := 3) ?hd (cs := #[.int .i64 a1_0, .int .i64 a1_1]) (t := 79) ?hr ?_; (case hd => rfl); (case hg => rfl); (case hr => first | (go_simp; done) | (go_simp; rfl)); intro gb163 hg w14 hbox hb; have n0_ := Aside0.mk (below_step (by repeat (first | (with_reducible first | exact HB.out | apply below_alloc | apply pw_below_drewN | apply below_drew1) | exact HB.out)) hb); have n1_ := Aside0.mk (hbox); have n2_ := Aside0.mk ((by rw [hg]; exact (below_size (by repeat (first | (with_reducible first | exact HB.out | apply below_alloc | apply pw_below_drewN | apply below_drew1) | exact HB.out))) : w.heap.size ≤ gb163)); have n3_ := Aside0.mk ((by rw [hg]; exact (below_size (by repeat (first | (with_reducible first | exact HB.out | apply below_alloc | apply pw_below_drewN | apply below_drew1) | exact HB.out))) : w.heap.size ≤ gb163)); clear HB; have HB := n0_; have BK163 := n1_; have GW163 := n2_; have GE163 := n3_; clear n0_ n1_ n2_ n3_; clear hb hbox hg; have hcz15_0 : w14.cell? ⟨gb163, 0, none⟩ = some (.int .i64 a1_0) := (blk_cell BK163.out 0).trans rfl; have hcz15_1 : w14.cell? ⟨gb163, 1, none⟩ = some (.int .i64 a1_1) := (blk_cell BK163.out 1).trans rfl; have hfz15_0 := blk_frozen BK163.out 0; have hfz15_1 := blk_frozen BK163.out 1) | ((with_reducible refine gate_callee (f := 41) rfl ?_); refine goesL_ (some 12) rfl rfl Try.func41 (by kernel_rfl) rfl #[.slice A0 l0.length c0, .agg #[.int .i64 a1_0, .int .i64 a1_1]] rfl (by (try simp only [List.map_toArray, List.map_cons, List.map_nil]); first | done | rfl | (simp only [List.length_drop, List.length_take]; rfl)) ?_; (with_reducible refine (span_Add.calls k _ _ l0 a1_0 a1_1 t164 t167 _ ?side1 ?side2 A3.out).mono ?_); (case side1 => repeat (first | exact (Kd.C_below HR0.out HB.out) | (with_reducible refine Kd.C_alloc ?_ _) | (with_reducible refine Kd.C_drewN ?_ _) | (with_reducible refine Kd.C_drew ?_))); (case side2 => exact HC0.out); rintro e w16 ⟨v165, rfl, ho0, hb⟩; refine ⟨_, rfl, ?_⟩; have n0_ := Aside0.mk (Kd.R_lower (Kd.R_newB ho0 (g := gb163) (o := .cells #[.int .i64 a1_0, .int .i64 a1_1] 79 (0, 0)) (by (with_reducible repeat (first | refine blk_drewN ?_ _ | refine blk_drew ?_ | refine blk_alloc ?_ _)); exact BK163.out)) (below_size (by repeat (first | (with_reducible first | exact HB.out | apply below_alloc | apply pw_below_drewN | apply below_drew1 | refine below_set ?_ GE163.out) | exact HB.out)))); have n1_ := Aside0.mk (blk_below (g := gb163) (o := .cells #[.int .i64 a1_0, .int .i64 a1_1] 79 (0, 0)) (by (with_reducible repeat (first | refine blk_drewN ?_ _ | refine blk_drew ?_ | refine blk_alloc ?_ _)); exact BK163.out) hb); have n2_ := Aside0.mk (below_step (by repeat (first | (with_reducible first | exact HB.out | apply below_alloc | apply pw_below_drewN | apply below_drew1 | refine below_set ?_ GE163.out) | exact HB.out)) hb); clear BK163; clear HB; have HO166 := n0_; have BK163 := n1_; have HB := n2_; clear n0_ n1_ n2_; (try clear hb); (try clear hb2); (try clear hk); (try clear hi); (try clear ho0); have hcz17_0 : w16.cell? ⟨gb163, 0, none⟩ = some (.int .i64 a1_0) := (blk_cell BK163.out 0).trans rfl; have hcz17_1 : w16.cell? ⟨gb163, 1, none⟩ = some (.int .i64 a1_1) := (blk_cell BK163.out 1).trans rfl; have hfz17_0 := blk_frozen BK163.out 0; have hfz17_1 := blk_frozen BK163.out 1) | ((with_reducible refine gate_callee (f := 42) rfl ?_); refine goesL_ (some 18) rfl rfl Try.func42 (by kernel_rfl) rfl #[.slice A0 l0.length c0, .agg #[.int .i64 a1_0, .int .i64 a1_1]] rfl (by (try simp only [List.map_toArray, List.map_cons, List.map_nil]); first | done | rfl | (simp only [List.length_drop, List.length_take]; rfl)) ?_; (with_reducible refine (quicksetref_SpanAdd.calls k _ _ l0 a1_0 a1_1 t168 t171 _ ?side1 ?side2 A4.out).mono ?_); (case side1 => repeat (first | exact (Kd.C_below HR0.out HB.out) | (with_reducible refine Kd.C_alloc ?_ _) | (with_reducible refine Kd.C_drewN ?_ _) | (with_reducible refine Kd.C_drew ?_))); (case side2 => exact HC0.out); rintro e w18 ⟨v169, rfl, ho0, hb⟩; refine ⟨_, rfl, ?_⟩; have n0_ := Aside0.mk (Kd.R_elder' (by (with_reducible repeat (first | apply Kd.R_alloc | apply Kd.R_drewN | apply Kd.R_drew)); exact HO166.out) (Kd.R_base ho0) hb); have n1_ := Aside0.mk (Kd.R_lower (Kd.R_newB (Kd.R_new' ho0 (Kd.R_lt (by (with_reducible repeat (first | apply Kd.R_alloc | apply Kd.R_drewN | apply Kd.R_drew)); exact HO166.out))) (g := gb163) (o := .cells #[.int .i64 a1_0, .int .i64 a1_1] 79 (0, 0)) (by (with_reducible repeat (first | refine blk_drewN ?_ _ | refine blk_drew ?_ | refine blk_alloc ?_ _)); exact BK163.out)) (below_size (by repeat (first | (with_reducible first | exact HB.out | apply below_alloc | apply pw_below_drewN | apply below_drew1 | refine below_set ?_ GE163.out) | exact HB.out)))); have n2_ := Aside0.mk (blk_below (g := gb163) (o := .cells #[.int .i64 a1_0, .int .i64 a1_1] 79 (0, 0)) (by (with_reducible repeat (first | refine blk_drewN ?_ _ | refine blk_drew ?_ | refine blk_alloc ?_ _)); exact BK163.out) hb); have n3_ := Aside0.mk (below_step (by repeat (first | (with_reducible first | exact HB.out | apply below_alloc | apply pw_below_drewN | apply below_drew1 | refine below_set ?_ GE163.out) | exact HB.out)) hb); clear HO166; clear BK163; clear HB; have HO166 := n0_; have HO170 := n1_; have BK163 := n2_; have HB := n3_; clear n0_ n1_ n2_ n3_; (try clear hb); (try clear hb2); (try clear hk); (try clear hi); (try clear ho0); obtain ⟨Ao19, co19, eo19⟩ := Kd.R_slice HO166.out; subst eo19; obtain ⟨Ao20, co20, eo20⟩ := Kd.R_slice HO170.out; subst eo20) | ((with_reducible refine gate_callee (f := 34) rfl ?_); refine goesL_ (some 23) rfl rfl Try.func34 (by kernel_rfl) rfl #[.slice Ao19 t164.length co19, .slice Ao20 t168.length co20] rfl (by (try simp only [List.map_toArray, List.map_cons, List.map_nil]); first | done | rfl | (simp only [List.length_drop, List.length_take]; rfl)) ?_; (with_reducible refine (quicksetlaw_sameRanges.calls k _ _ t164 _ _ t168 false _ ?side1 ?side2 ?side3 ?side4 A5.out).mono ?_); (case side1 => repeat (first | exact (Kd.R_reads' HO166.out).2.2 | (with_reducible refine Kd.C_alloc ?_ _) | (with_reducible refine Kd.C_drewN ?_ _) | (with_reducible refine Kd.C_drew ?_))); (case side2 => exact (Kd.R_reads' HO166.out).2.1); (case side3 => repeat (first | exact (Kd.R_reads' HO170.out).2.2 | (with_reducible refine Kd.C_alloc ?_ _) | (with_reducible refine Kd.C_drewN ?_ _) | (with_reducible refine Kd.C_drew ?_))); (case side4 => exact (Kd.R_reads' HO170.out).2.1); rintro e w' ⟨rfl, ⟨nd, rfl⟩⟩; refine ⟨_, rfl, ?_⟩))
    go_ret
    exact ⟨by first | rfl | (simp [errW_none, errW_some] <;> rfl) | (simp [*, errW_none, errW_some] <;> rfl), by repeat (first | (with_reducible first | exact HB.out | apply below_alloc | apply pw_below_drewN | apply below_drew1 | refine below_set ?_ GE163.out) | exact HB.out)⟩

/-! ### span_Cut: function 43 -/
open Go.Proofs.Ythnchojddoefiaa.Sep Go.Proofs.Ythnchojddoefiaa.SortRow Go.Proofs.Ythnchojddoefiaa.SortLay Go.Sort
def sCut.want (d : Int) : Bool := decide (d > 0)
set_option maxRecDepth 100000 in
theorem sCut.clo (d : Int) (w : World) : Calls Try.prog 91 #[.int .i64 d] w fun e w' => e = .returned (.bool (sCut.want d)) ∧ Drawn0 w w' := by
  go_enter Try.func91, Try.ntmps91
  go_wp2_with (fail)
  go_ret
  exact ⟨by unfold sCut.want; simp, Drawn0.refl w⟩
set_option maxHeartbeats 4000000 in
set_option maxRecDepth 100000 in
theorem sCut.swept (g cap : Nat) (xs : List S194) (F : List Asn) (w0 w : World) (h : SL w0 w (rowA k194 194 (.slice (some ⟨g, 0, none⟩) xs.length cap) xs :: F)) (h2 : 2 ≤ xs.length) (hsz : xs.length < 100000) (hby : ∀ e ∈ xs, -1 ≤ e.f1 ∧ e.f1 ≤ 1) :
    Calls Try.prog 82 #[.slice (some ⟨g, 0, none⟩) xs.length cap, .func (.func 91) #[] #[]] w fun e w' => ∃ (v0_ : Value) (ys : List S194), e = .returned v0_ ∧ xs.Perm ys ∧ ys.Pairwise (fun a b => a.f0 ≤ b.f0) ∧ SL w0 w' (rowA k79 79 v0_ (sw sCut.want ys 0 (-1) []) :: F) := by
  have hue := Try.underlying194
  have hur := Try.underlying79
  have HS := Aside0.mk h
  have HBY := Aside0.mk hby
  clear h hby
  go_enter Try.func82, Try.ntmps82
  go_upto_region 2 with (first | ((with_reducible refine gate_dst (N := 2) rfl ?_); refine box_event ?hg (N := 2) ?hd (cs := #[.slice (some ⟨g, 0, none⟩) xs.length cap]) (t := 155) ?hr ?_; (case hd => exact rfl); (case hg => exact rfl); (case hr => first | (go_simp; done) | (go_simp; rfl)); intro Bs hgb_ w1 hbox_ hb_; have n1_ := Aside0.mk (Sep.SL.newBlk (by repeat (first | (with_reducible first | exact HS.out | apply Sep.SL.drewN | apply Sep.SL.drew | apply Sep.SL.alloc) | exact HS.out)) hb_ hgb_ hbox_); clear HS hgb_ hbox_ hb_; have HS := n1_; clear n1_; have hz := HS.out.c0 0 rfl; have hsort := sort_SL HS.out 0 1 rfl rfl h2 hsz) | (go_at_call 116; refine hsort.mono ?_; rintro e w3 ⟨rfl, ys, hp, hs, h3⟩; have HS3 := Aside0.mk h3; clear hsort hz h3))
  have HS := HS3
  clear HS3
  have hlen := hp.length_eq
  have HP := Aside0.mk (show xs.Perm ys ∧ ys.Pairwise (fun a b => a.f0 ≤ b.f0) ∧ ∀ e ∈ ys, -1 ≤ e.f1 ∧ e.f1 ≤ 1 from ⟨hp, hs, fun e he => HBY.out e (hp.symm.subset he)⟩)
  clear hp hs HBY
  rw [hlen] at h2 hsz HS ⊢
  clear hlen
  have hz := HS.out.c0 0 rfl
  go_upto_region 5 with (fail)
  have HS := Aside0.mk (SL.nilRow HS.out k79 79)
  clear hz
  go_loopg [5, 6, 7, 8] ys.length (fun kq v5 v6 v7 v8 wr => ∃ (i dep fr : Int) (out : List S79), v6 = .int .i64 dep ∧ v7 = .int .i64 fr ∧ v8 = .int .i64 i ∧ 0 ≤ i ∧ i + kq = (ys.length : Int) ∧ -i ≤ dep ∧ dep ≤ i ∧ (out.length : Int) ≤ i ∧ Aside0 (sw sCut.want (ys.drop i.toNat) dep fr out = sw sCut.want ys 0 (-1) []) ∧ Aside0 (SL w0 wr (rowA k79 79 v5 out :: blkA Bs #[.slice (some ⟨g, 0, none⟩) ys.length cap] 155 :: rowA k194 194 (.slice (some ⟨g, 0, none⟩) ys.length cap) ys :: F)))
  case atStart => exact ⟨0, 0, -1, [], rfl, rfl, rfl, by omega, by omega, by omega, by omega, by simp, ⟨by simp⟩, by repeat (first | exact HS | exact Aside0.mk (by repeat (first | (with_reducible first | exact HS.out | apply Sep.SL.drewN | apply Sep.SL.drew | apply Sep.SL.alloc) | exact HS.out)))⟩
  case round =>
    clear HS
    obtain ⟨i, dep, fr, out, rfl, rfl, rfl, hi0, hik, hd0, hd1, hol, HI, HS⟩ := hrel
    have hz := HS.out.c0 1 rfl
    cases gk with
    | zero =>
      have hit : decide (i < (ys.length : Int)) = false := decide_eq_false (by omega)
      have HI2 := HI.out
      rw [List.drop_eq_nil_of_le (by omega), sw] at HI2
      have HI := Aside0.mk HI2
      clear HI2
      go_wp2_with (fail)
      go_ret
      exact ⟨_, ys, rfl, HP.out.1, HP.out.2.1, by rw [← HI.out]; exact (Sep.SL.front (Sep.SL.drop (Sep.SL.front (Sep.SL.drop (Sep.SL.front (by repeat (first | (with_reducible first | exact HS.out | apply Sep.SL.drewN | apply Sep.SL.drew | apply Sep.SL.alloc) | exact HS.out)) 2 rfl)) 1 rfl)) 0 rfl)⟩
    | succ g1 =>
      have hit : decide (i < (ys.length : Int)) = true := decide_eq_true (by omega)
      have q8 : i < (ys.length : Int) := by omega
      obtain ⟨ad, he, hx0, hx1⟩ := at_T194 (HS.out.C 2 rfl) i hi0 q8
      have he2 : (⟨g, 0, none⟩ : Addr) = ad := Option.some.inj he
      subst he2
      clear he
      rw [add_plain] at hx0 hx1
      obtain ⟨hdr, hmem⟩ := rd_drop_ z194 ys i hi0 q8
      have hb_ := HP.out.2.2 _ hmem
      have HI2 := HI.out
      rw [hdr, sw_cons] at HI2
      change sw_at _ (rd_T194 ys i).f0 (ys.drop (i + 1).toNat) (dep + (rd_T194 ys i).f1) fr out = _ at HI2
      have p8 := eq_true hi0
      have ha : rd_T194 ys i = ys.getD i.toNat z194 := rfl
      have HST : Aside0 (sw_at sCut.want (rd_T194 ys i).f0 (ys.drop i.toNat) dep fr out = sw sCut.want ys 0 (-1) []) := ⟨by
        unfold sw_at
        rw [hdr, if_pos (by rfl), sw_cons]
        exact HI2⟩
      clear HI HI2 hdr hmem ha hb_
      obtain ⟨a, hae⟩ : ∃ a, a = (rd_T194 ys i).f0 := ⟨_, rfl⟩
      rw [← hae] at hx0 HST
      have HA := Aside0.mk hae
      clear hae
      have q8e := eq_true q8
      go_upto_block 2 with (fail)
      clear hx0 hx1 hit hz
      go_cut [6, 8] (fun v6 v8 wx => ∃ (j dp : Int), v6 = .int .i64 dp ∧ v8 = .int .i64 j ∧ i < j ∧ j ≤ (ys.length : Int) ∧ -j ≤ dp ∧ dp ≤ j ∧ Aside0 ((ys.drop j.toNat).head?.map (·.f0) ≠ some a ∧ sw_at sCut.want a (ys.drop j.toNat) dp fr out = sw sCut.want ys 0 (-1) []) ∧ Aside0 (SL w0 wx (rowA k79 79 u5 out :: blkA Bs #[.slice (some ⟨g, 0, none⟩) ys.length cap] 155 :: rowA k194 194 (.slice (some ⟨g, 0, none⟩) ys.length cap) ys :: F)))
      case first =>
        go_wp2_with (fail)
        go_loopg [6, 8] (g1 + 1) (fun kq v6 v8 wr => ∃ (j dp : Int), v6 = .int .i64 dp ∧ v8 = .int .i64 j ∧ i ≤ j ∧ (kq : Int) + j = (ys.length : Int) ∧ -j ≤ dp ∧ dp ≤ j ∧ Aside0 (j = i → (rd_T194 ys j).f0 = a) ∧ Aside0 (sw_at sCut.want a (ys.drop j.toNat) dp fr out = sw sCut.want ys 0 (-1) []) ∧ Aside0 (SL w0 wr (rowA k79 79 u5 out :: blkA Bs #[.slice (some ⟨g, 0, none⟩) ys.length cap] 155 :: rowA k194 194 (.slice (some ⟨g, 0, none⟩) ys.length cap) ys :: F)))
        case atStart => exact ⟨i, dep, rfl, rfl, by omega, by omega, by omega, by omega, ⟨fun _ => HA.out.symm⟩, HST, by repeat (first | exact HS | exact Aside0.mk (by repeat (first | (with_reducible first | exact HS.out | apply Sep.SL.drewN | apply Sep.SL.drew | apply Sep.SL.alloc) | exact HS.out)))⟩
        case round =>
          clear HS HST
          obtain ⟨j, dp, rfl, rfl, hj0, hjk, hp0, hp1, HJi, HJ, HS⟩ := hrel
          have hz := HS.out.c0 1 rfl
          cases gk with
          | zero =>
            have hjt : decide (j < (ys.length : Int)) = false := decide_eq_false (by omega)
            have hJ2 : Aside0 ((ys.drop j.toNat).head?.map (·.f0) ≠ some a ∧ sw_at sCut.want a (ys.drop j.toNat) dp fr out = sw sCut.want ys 0 (-1) []) := ⟨by rw [List.drop_eq_nil_of_le (by omega)]; simp, HJ.out⟩
            go_wp2_with (fail)
            go_meet
            exact ⟨j, dp, rfl, rfl, by omega, by omega, hp0, hp1, hJ2, HS⟩
          | succ g2 =>
            have hjt : decide (j < (ys.length : Int)) = true := decide_eq_true (by omega)
            have hj1 : (0 : Int) ≤ j := by omega
            have q9 : j < (ys.length : Int) := by omega
            obtain ⟨ad, he, hx0, hx1⟩ := at_T194 (HS.out.C 2 rfl) j hj1 q9
            have he2 : (⟨g, 0, none⟩ : Addr) = ad := Option.some.inj he
            subst he2
            clear he
            rw [add_plain] at hx0 hx1
            obtain ⟨hdr, hmem⟩ := rd_drop_ z194 ys j hj1 q9
            obtain ⟨hb0_, hb1_⟩ := HP.out.2.2 _ hmem
            change -1 ≤ (rd_T194 ys j).f1 at hb0_
            change (rd_T194 ys j).f1 ≤ 1 at hb1_
            have p9 := eq_true hj1
            have hw1_ : wrap64 (j + 1) = j + 1 := by unfold wrap64; omega
            by_cases hea : (rd_T194 ys j).f0 = a
            · have HJ2 := HJ.out
              rw [hdr] at HJ2
              unfold sw_at at HJ2
              rw [if_pos (by show some (rd_T194 ys j).f0 = some a; rw [hea]), sw_cons] at HJ2
              change sw_at _ (rd_T194 ys j).f0 (ys.drop (j + 1).toNat) (dp + (rd_T194 ys j).f1) fr out = _ at HJ2
              rw [hea] at HJ2 hx0
              have HJ := Aside0.mk HJ2
              clear HJ2 hdr hmem hea HJi
              generalize (rd_T194 ys j).f1 = by_ at HJ hx1 hb0_ hb1_
              have hw2_ : wrap64 (dp + by_) = dp + by_ := by unfold wrap64; omega
              replace q9 := eq_true q9
              go_wp2_with (fail)
              go_roundg g2
              case measure => omega
              case rel => exact ⟨j + 1, dp + by_, by first | rfl | (simp; done) | (simp [*]; done), by first | rfl | (simp; done) | (simp [*]; done), by omega, by omega, by omega, by omega, ⟨fun e => by omega⟩, HJ, Aside0.mk (by repeat (first | (with_reducible first | exact HS.out | apply Sep.SL.drewN | apply Sep.SL.drew | apply Sep.SL.alloc) | exact HS.out))⟩
            · have hJ2 : Aside0 ((ys.drop j.toNat).head?.map (·.f0) ≠ some a ∧ sw_at sCut.want a (ys.drop j.toNat) dp fr out = sw sCut.want ys 0 (-1) []) := ⟨by rw [hdr]; show some (rd_T194 ys j).f0 ≠ some a; exact fun e => hea (Option.some.inj e), HJ.out⟩
              have hij : i < j := by
                rcases Int.lt_or_eq_of_le hj0 with h_ | h_
                · exact h_
                · exact absurd (HJi.out h_.symm) hea
              have hjl : j ≤ (ys.length : Int) := by omega
              have hbn : ((rd_T194 ys j).f0 == a) = false := by simp [hea]
              clear hdr hmem hea HJi HJ
              generalize (rd_T194 ys j).f0 = a2 at hx0 hbn
              replace q9 := eq_true q9
              go_wp2_with (fail)
              go_meet
              exact ⟨j, dp, rfl, rfl, hij, hjl, hp0, hp1, hJ2, HS⟩
      case rest =>
        obtain ⟨j, dp, rfl, rfl, hj0, hj1, hp0, hp1, HJ, HS⟩ := hcut
        have hclo := sCut.clo dp
        by_cases hw : sCut.want dp = true
        · rw [hw] at hclo
          by_cases hf : fr < 0
          · have HJ2 := HJ.out.2
            unfold sw_at at HJ2
            rw [if_neg HJ.out.1, if_pos hw, if_pos hf] at HJ2
            have HI := Aside0.mk HJ2
            have hfb := decide_eq_true hf
            clear HJ HJ2 HST hw hf
            go_wp2_with (go_at_call 91; refine (hclo _).mono ?_; rintro e w1_ ⟨rfl, ⟨nd, rfl⟩⟩)
            go_roundg (ys.length - j.toNat)
            case measure => omega
            case rel => exact ⟨j, dp, a, out, rfl, rfl, rfl, by omega, by omega, hp0, hp1, by omega, HI, Aside0.mk (by repeat (first | (with_reducible first | exact HS.out | apply Sep.SL.drewN | apply Sep.SL.drew | apply Sep.SL.alloc) | exact HS.out))⟩
          · have HJ2 := HJ.out.2
            unfold sw_at at HJ2
            rw [if_neg HJ.out.1, if_pos hw, if_neg hf] at HJ2
            have HI := Aside0.mk HJ2
            have hfb := decide_eq_false hf
            clear HJ HJ2 HST hw hf
            go_wp2_with (go_at_call 91; refine (hclo _).mono ?_; rintro e w1_ ⟨rfl, ⟨nd, rfl⟩⟩)
            go_roundg (ys.length - j.toNat)
            case measure => omega
            case rel => exact ⟨j, dp, fr, out, rfl, rfl, rfl, by omega, by omega, hp0, hp1, by omega, HI, Aside0.mk (by repeat (first | (with_reducible first | exact HS.out | apply Sep.SL.drewN | apply Sep.SL.drew | apply Sep.SL.alloc) | exact HS.out))⟩
        · have hw2 : sCut.want dp = false := by simpa using hw
          rw [hw2] at hclo
          by_cases hf : fr ≥ 0
          · have HJ2 := HJ.out.2
            unfold sw_at at HJ2
            rw [if_neg HJ.out.1, if_neg hw, if_pos hf] at HJ2
            have HI := Aside0.mk HJ2
            have hfb : decide (0 ≤ fr) = true := decide_eq_true hf
            clear HJ HJ2 HST hw hw2 hf
            go_wp2_with (first | (go_at_call 91; refine (hclo _).mono ?_; rintro e w1_ ⟨rfl, ⟨nd, rfl⟩⟩) | ((with_reducible refine gate_builtin (b := .append) (xs := #[.tmp 63, .tmp 67]) rfl ?_); at_builtin; (first | with_reducible apply Sep.append_row (d := k79) (t := 64) (e := 79) (s := .tmp 63) (x := .tmp 67) (p := (⟨fr, a⟩ : S79)) (cs := [.int .i64 fr, .int .i64 a])); (case hSL => exact (Sep.SL.plain (Sep.SL.front (by repeat (first | (with_reducible first | exact HS.out | apply Sep.SL.drewN | apply Sep.SL.drew | apply Sep.SL.alloc) | exact HS.out)) 0 rfl) _ _ (fun _ _ => k79_mkM _ _ _ _)).swap); (case hgd => exact rfl); (case ho => exact rfl); (case ht => exact Try.underlying64); (case hinfo => exact info79); (case hz => exact rfl); (case hs0 => decide); (case hb0 => omega); (case hs => exact rfl); (case hx => exact rfl); (case hl => omega); intro v1_ w1_ hs_; have n1_ := Aside0.mk hs_; clear HS hs_; have HS := n1_; clear n1_; obtain ⟨a1_, c1_, e1_⟩ := Sep.SL.slice HS.out 0 rfl; rw [List.length_append, List.length_singleton] at e1_; subst e1_))
            go_roundg (ys.length - j.toNat)
            case measure => omega
            case rel => exact ⟨j, dp, -1, out ++ [(⟨fr, a⟩ : S79)], rfl, rfl, rfl, by omega, by omega, hp0, hp1, by rw [List.length_append, List.length_singleton]; omega, HI, Aside0.mk (by repeat (first | (with_reducible first | exact HS.out | apply Sep.SL.drewN | apply Sep.SL.drew | apply Sep.SL.alloc) | exact HS.out))⟩
          · have HJ2 := HJ.out.2
            unfold sw_at at HJ2
            rw [if_neg HJ.out.1, if_neg hw, if_neg hf] at HJ2
            have HI := Aside0.mk HJ2
            have hfb : decide (0 ≤ fr) = false := decide_eq_false hf
            clear HJ HJ2 HST hw hw2 hf
            go_wp2_with (go_at_call 91; refine (hclo _).mono ?_; rintro e w1_ ⟨rfl, ⟨nd, rfl⟩⟩)
            go_roundg (ys.length - j.toNat)
            case measure => omega
            case rel => exact ⟨j, dp, fr, out, rfl, rfl, rfl, by omega, by omega, hp0, hp1, by omega, HI, Aside0.mk (by repeat (first | (with_reducible first | exact HS.out | apply Sep.SL.drewN | apply Sep.SL.drew | apply Sep.SL.alloc) | exact HS.out))⟩
set_option maxHeartbeats 4000000 in
set_option maxRecDepth 100000 in
theorem sCut.fine (A0 : Option Addr) (c0 : Nat) (l0 : List S79) (a b : Int) (w : World) (k : Nat) (hr0 : Kd.C k79 w A0 l0.length l0) (hc0 : l0.length ≤ c0) (hm : span_May.f k l0 = some true) (ho : span_one.f a b = some true) (hl : l0.length ≤ 200) :
    Calls Try.prog 43 #[.slice A0 l0.length c0, .agg #[.int .i64 a, .int .i64 b]] w fun e w' => ∃ v0_ : Value, e = .returned (.tuple #[v0_, .int .i64 (tld (swp sCut.want (fun p => dsum p (edl 1 l0 ++ edl (-1) [⟨a, b⟩])) (endsF [l0, [⟨a, b⟩]] []) (-1) [])).2]) ∧ Kd.R k79 79 w' w.heap.size (fun _ => True) v0_ (tld (swp sCut.want (fun p => dsum p (edl 1 l0 ++ edl (-1) [⟨a, b⟩])) (endsF [l0, [⟨a, b⟩]] []) (-1) [])).1 ∧ Below w.heap.size w w' := by
  have hur := Try.underlying79
  have HS := Aside0.mk (SL.start w)
  have HC := Aside0.mk hr0
  clear hr0
  go_enter Try.func43, Try.ntmps43
  go_upto_region 3 with (first | ((with_reducible refine gate_dst (N := 3) rfl ?_); refine box_event ?hg (N := 3) ?hd (cs := #[.int .i64 a, .int .i64 b]) (t := 79) ?hr ?_; (case hd => exact rfl); (case hg => exact rfl); (case hr => first | (go_simp; done) | (go_simp; rfl)); intro gr hgb_ w1 hbox_ hb_; have n1_ := Aside0.mk (Sep.SL.newBlk (by repeat (first | (with_reducible first | exact HS.out | apply Sep.SL.drewN | apply Sep.SL.drew | apply Sep.SL.alloc) | exact HS.out)) hb_ hgb_ hbox_); clear HS hgb_ hbox_ hb_; have HS := n1_; clear n1_; have hz0 := HS.out.c0 0 rfl; have hz1 := HS.out.c1 0 rfl) | (go_at_call 79; refine (span_May.calls k A0 c0 l0 true _ (Kd.C_below HC.out (SL.below (by repeat (first | (with_reducible first | exact HS.out | apply Sep.SL.drewN | apply Sep.SL.drew | apply Sep.SL.alloc) | exact HS.out)))) hc0 hm).mono ?_; rintro e w2 ⟨rfl, hb2⟩; have n1_ := Aside0.mk (SL.ext (by repeat (first | (with_reducible first | exact HS.out | apply Sep.SL.drewN | apply Sep.SL.drew | apply Sep.SL.alloc) | exact HS.out)) hb2); clear HS hb2 hz0 hz1; have HS := n1_; clear n1_; have hz0 := HS.out.c0 0 rfl; have hz1 := HS.out.c1 0 rfl) | (go_at_call 80; refine (span_one.calls a b true _ ho).mono ?_; rintro e w3 ⟨rfl, hb3⟩; have n1_ := Aside0.mk (SL.ext (by repeat (first | (with_reducible first | exact HS.out | apply Sep.SL.drewN | apply Sep.SL.drew | apply Sep.SL.alloc) | exact HS.out)) hb3); clear HS hb3 hz0 hz1; have HS := n1_; clear n1_; have hz0 := HS.out.c0 0 rfl; have hz1 := HS.out.c1 0 rfl))
  clear hm ho
  obtain ⟨xs, hxs⟩ : ∃ xs, xs = edl 1 l0 ++ edl (-1) [(⟨a, b⟩ : S79)] := ⟨_, rfl⟩
  have hxl : xs.length = 2 * l0.length + 2 := by rw [hxs, List.length_append, edl_length, edl_length]; rfl
  have HBY : Aside0 (∀ e ∈ xs, -1 ≤ e.f1 ∧ e.f1 ≤ 1) := ⟨fun e he => by
    rw [hxs] at he
    rcases List.mem_append.1 he with h_ | h_
    · exact edl_by 1 (by omega) _ e h_
    · exact edl_by (-1) (by omega) _ e h_⟩
  have HX := Aside0.mk hxs
  have HXL := Aside0.mk hxl
  clear hxs hxl
  go_region_law (first | ((revert HS6; intro HS6); (with_reducible apply Sep.append_rows_step (d := k194) (t := 155) (e := 194) (s := .tmp 15) (x := .tmp 18) (xs := edl 1 l0) (ys := edl (-1) [(⟨a, b⟩ : S79)])); (case hSL => exact Sep.SL.front (by repeat (first | (with_reducible first | exact HS6.out | apply Sep.SL.drewN | apply Sep.SL.drew | apply Sep.SL.alloc) | exact HS6.out)) 1 rfl); (case hgd => exact rfl); (case ho => exact rfl); (case ht => exact Try.underlying155); (case hinfo => exact info194); (case hz => exact rfl); (case hs0 => decide); (case hb0 => omega); (case hs => exact rfl); (case hx => exact rfl); (case hl => rw [edl_length]; omega); intro v7 w7 h7; rw [← HX.out] at h7; obtain ⟨g7, cp7, e7⟩ := Sep.SL.form h7 0 rfl (by rw [HXL.out]; omega); subst e7; have HS7 := Aside0.mk h7; clear h7 HS6) | (go_simp; go_wp2_with (first | (go_at_call 83; (with_reducible refine (edges_SL (w0 := w) (L := [blkA gr #[.int .i64 a, .int .i64 b] 79]) ?hs5 1 (by omega) l0 (by omega) A0 c0 ?hc5 hc0).mono ?_); (case hs5 => exact (by repeat (first | (with_reducible first | exact HS.out | apply Sep.SL.drewN | apply Sep.SL.drew | apply Sep.SL.alloc) | exact HS.out))); (case hc5 => exact Kd.C_below HC.out (Sep.SL.below (w0 := w) (by repeat (first | (with_reducible first | exact HS.out | apply Sep.SL.drewN | apply Sep.SL.drew | apply Sep.SL.alloc) | exact HS.out)))); rintro e w5 ⟨v5, rfl, h5, hb5⟩; have HS5 := Aside0.mk h5; have HB5 := Aside0.mk hb5; clear hz0 hz1; have hz0 := HS5.out.c0 1 rfl; have hz1 := HS5.out.c1 1 rfl; clear h5 hb5) | (go_at_call 83; (with_reducible refine (edges_one (w0 := w) (L := [rowA k194 194 v5 (edl 1 l0), blkA gr #[.int .i64 a, .int .i64 b] 79]) ?hs6 (-1) (by omega) (⟨a, b⟩ : S79) _ ?hc6).mono ?_); (case hs6 => exact (by repeat (first | (with_reducible first | exact HS5.out | apply Sep.SL.drewN | apply Sep.SL.drew | apply Sep.SL.alloc) | exact HS5.out))); (case hc6 => first | exact C_one _ ⟨a, b⟩ | exact Kd.C_below (C_one _ ⟨a, b⟩) (below_drew (Below.refl _ _)) | exact Kd.C_below (C_one _ ⟨a, b⟩) HB5.out | exact Kd.C_below (Kd.C_below (C_one _ ⟨a, b⟩) (below_drew (Below.refl _ _))) HB5.out); rintro e w6 ⟨A6, c6, rfl, h6⟩; have HS6 := Aside0.mk h6; clear h6 HS5 hz0 hz1) | (go_at_call 82; refine (sCut.swept g7 cp7 xs _ w _ (by repeat (first | (with_reducible first | exact HS7.out | apply Sep.SL.drewN | apply Sep.SL.drew | apply Sep.SL.alloc) | exact HS7.out)) (by have := HXL.out; omega) (by have := HXL.out; omega) HBY.out).mono ?_; rintro e w8 ⟨v8, ys, rfl, hp8, hs8, h8⟩; rw [HX.out] at hp8; rw [sw_canon sCut.want 1 (-1) l0 [(⟨a, b⟩ : S79)] ys hp8 hs8] at h8; have HS8 := Aside0.mk h8; clear hp8 hs8 h8) | (go_at_call 81; refine (told_SL (by repeat (first | (with_reducible first | exact HS8.out | apply Sep.SL.drewN | apply Sep.SL.drew | apply Sep.SL.alloc) | exact HS8.out))).mono ?_; rintro e w9 ⟨v9, rfl, h9⟩; have HS9 := Aside0.mk h9; clear h9))))
  all_goals
    go_wp2_with (fail)
    go_ret2
    exact ⟨_, rfl, HS9.out.row 0 rfl, HS9.out.1⟩
def span_Cut.f (k : Nat) (l0 : List S79) (a b : Int) : Option (List S79 × Int) :=
  (span_May.f k l0).bind fun t => if t = true then (span_one.f a b).bind fun u => if u = true then (if l0.length ≤ 200 then some (tld (swp sCut.want (fun p => dsum p (edl 1 l0 ++ edl (-1) [⟨a, b⟩])) (endsF [l0, [⟨a, b⟩]] []) (-1) [])) else none) else some ([], 4) else some ([], 4)
theorem span_Cut.mono : ∀ l0 a b k, LeO (span_Cut.f k l0 a b) (span_Cut.f (k + 1) l0 a b) := fun l0 a b k => LeO.bind (span_May.mono l0 k) (fun _ => LeO.refl _)
set_option maxHeartbeats 4000000 in
set_option maxRecDepth 100000 in
theorem span_Cut.calls (k : Nat) (A0 : Option Addr) (c0 : Nat) (l0 : List (S79)) (a1_0 : Int) (a1_1 : Int) (r1 : List (S79)) (r2 : Int) (w : World) (hr0 : Kd.C k79 w A0 l0.length l0) (hc0 : l0.length ≤ c0) (h : span_Cut.f k l0 a1_0 a1_1 = some (r1, r2)) :
    Calls Try.prog 43 #[.slice A0 l0.length c0, .agg #[.int .i64 a1_0, .int .i64 a1_1]] w fun e w' => ∃ v0_ : Value, e = .returned (.tuple #[v0_, .int .i64 r2]) ∧ Kd.R k79 79 w' w.heap.size (fun _ => True) v0_ r1 ∧ Below w.heap.size w w' := by
  unfold span_Cut.f at h
  have hur := Try.underlying79
  cases hm : span_May.f k l0 with
  | none => rw [hm] at h; cases h
  | some t =>
    rw [hm] at h
    simp only [Option.bind_some] at h
    cases t with
    | false =>
      rw [if_neg (by simp)] at h
      simp only [Option.some.injEq, Prod.mk.injEq] at h
      obtain ⟨rfl, rfl⟩ := h
      have HS := Aside0.mk (SL.start w)
      have HC := Aside0.mk hr0
      clear hr0
      go_enter Try.func43, Try.ntmps43
      go_wp2_with (first | ((with_reducible refine gate_dst (N := 3) rfl ?_); refine box_event ?hg (N := 3) ?hd (cs := #[.int .i64 a1_0, .int .i64 a1_1]) (t := 79) ?hr ?_; (case hd => exact rfl); (case hg => exact rfl); (case hr => first | (go_simp; done) | (go_simp; rfl)); intro gr hgb_ w1 hbox_ hb_; have n1_ := Aside0.mk (Sep.SL.newBlk (by repeat (first | (with_reducible first | exact HS.out | apply Sep.SL.drewN | apply Sep.SL.drew | apply Sep.SL.alloc) | exact HS.out)) hb_ hgb_ hbox_); clear HS hgb_ hbox_ hb_; have HS := n1_; clear n1_) | (go_at_call 79; refine (span_May.calls k A0 c0 l0 false _ (Kd.C_below HC.out (SL.below (by repeat (first | (with_reducible first | exact HS.out | apply Sep.SL.drewN | apply Sep.SL.drew | apply Sep.SL.alloc) | exact HS.out)))) hc0 hm).mono ?_; rintro e w2 ⟨rfl, hb2⟩; have n1_ := Aside0.mk (SL.ext (by repeat (first | (with_reducible first | exact HS.out | apply Sep.SL.drewN | apply Sep.SL.drew | apply Sep.SL.alloc) | exact HS.out)) hb2); clear HS hb2; have HS := n1_; clear n1_))
      go_ret2
      exact ⟨_, rfl, Kd.R_nil _ _ _ _ _, SL.below (by repeat (first | (with_reducible first | exact HS.out | apply Sep.SL.drewN | apply Sep.SL.drew | apply Sep.SL.alloc) | exact HS.out))⟩
    | true =>
      rw [if_pos rfl] at h
      cases ho : span_one.f a1_0 a1_1 with
      | none => rw [ho] at h; cases h
      | some u =>
        rw [ho] at h
        simp only [Option.bind_some] at h
        cases u with
        | false =>
          rw [if_neg (by simp)] at h
          simp only [Option.some.injEq, Prod.mk.injEq] at h
          obtain ⟨rfl, rfl⟩ := h
          have HS := Aside0.mk (SL.start w)
          have HC := Aside0.mk hr0
          clear hr0
          go_enter Try.func43, Try.ntmps43
          go_wp2_with (first | ((with_reducible refine gate_dst (N := 3) rfl ?_); refine box_event ?hg (N := 3) ?hd (cs := #[.int .i64 a1_0, .int .i64 a1_1]) (t := 79) ?hr ?_; (case hd => exact rfl); (case hg => exact rfl); (case hr => first | (go_simp; done) | (go_simp; rfl)); intro gr hgb_ w1 hbox_ hb_; have n1_ := Aside0.mk (Sep.SL.newBlk (by repeat (first | (with_reducible first | exact HS.out | apply Sep.SL.drewN | apply Sep.SL.drew | apply Sep.SL.alloc) | exact HS.out)) hb_ hgb_ hbox_); clear HS hgb_ hbox_ hb_; have HS := n1_; clear n1_; have hz0 := HS.out.c0 0 rfl; have hz1 := HS.out.c1 0 rfl) | (go_at_call 79; refine (span_May.calls k A0 c0 l0 true _ (Kd.C_below HC.out (SL.below (by repeat (first | (with_reducible first | exact HS.out | apply Sep.SL.drewN | apply Sep.SL.drew | apply Sep.SL.alloc) | exact HS.out)))) hc0 hm).mono ?_; rintro e w2 ⟨rfl, hb2⟩; have n1_ := Aside0.mk (SL.ext (by repeat (first | (with_reducible first | exact HS.out | apply Sep.SL.drewN | apply Sep.SL.drew | apply Sep.SL.alloc) | exact HS.out)) hb2); clear HS hb2 hz0 hz1; have HS := n1_; clear n1_; have hz0 := HS.out.c0 0 rfl; have hz1 := HS.out.c1 0 rfl) | (go_at_call 80; refine (span_one.calls a1_0 a1_1 false _ ho).mono ?_; rintro e w3 ⟨rfl, hb3⟩; have n1_ := Aside0.mk (SL.ext (by repeat (first | (with_reducible first | exact HS.out | apply Sep.SL.drewN | apply Sep.SL.drew | apply Sep.SL.alloc) | exact HS.out)) hb3); clear HS hb3 hz0 hz1; have HS := n1_; clear n1_))
          go_ret2
          exact ⟨_, rfl, Kd.R_nil _ _ _ _ _, SL.below (by repeat (first | (with_reducible first | exact HS.out | apply Sep.SL.drewN | apply Sep.SL.drew | apply Sep.SL.alloc) | exact HS.out))⟩
        | true =>
          rw [if_pos rfl] at h
          by_cases hl : l0.length ≤ 200
          · rw [if_pos hl] at h
            have h1 := congrArg Prod.fst (Option.some.inj h)
            have h2 := congrArg Prod.snd (Option.some.inj h)
            simp only at h1 h2
            rw [← h1, ← h2]
            exact sCut.fine A0 c0 l0 a1_0 a1_1 w k hr0 hc0 hm ho hl
          · rw [if_neg hl] at h; cases h
theorem sc_stop : True := trivial

/-! ### quicksetref_SpanCut: function 44 -/
open Go.Proofs.Ythnchojddoefiaa.Sep
def quicksetref_SpanCut.f (k : Nat) (l0 : List S79) (a b : Int) : Option (List S79 × Int) :=
  (quicksetref_SpanMay.f k l0).bind fun t => if t = true then (quicksetref_RangeMay.f a b).bind fun u => if u = true then some (tld (th (sCut.so l0 [⟨a, b⟩]) (endsF [l0, [⟨a, b⟩]] []) [])) else some ([], 4) else some ([], 4)
theorem quicksetref_SpanCut.mono : ∀ l0 a b k, LeO (quicksetref_SpanCut.f k l0 a b) (quicksetref_SpanCut.f (k + 1) l0 a b) := fun l0 a b k => LeO.bind (quicksetref_SpanMay.mono l0 k) (fun _ => LeO.refl _)
set_option maxHeartbeats 4000000 in
set_option maxRecDepth 100000 in
theorem quicksetref_SpanCut.calls (k : Nat) (A0 : Option Addr) (c0 : Nat) (l0 : List (S79)) (a1_0 : Int) (a1_1 : Int) (r1 : List (S79)) (r2 : Int) (w : World) (hr0 : Kd.C k79 w A0 l0.length l0) (hc0 : l0.length ≤ c0) (h : quicksetref_SpanCut.f k l0 a1_0 a1_1 = some (r1, r2)) :
    Calls Try.prog 44 #[.slice A0 l0.length c0, .agg #[.int .i64 a1_0, .int .i64 a1_1]] w fun e w' => ∃ v0_ : Value, e = .returned (.tuple #[v0_, .int .i64 r2]) ∧ Kd.R k79 79 w' w.heap.size (fun _ => True) v0_ r1 ∧ Below w.heap.size w w' := by
  unfold quicksetref_SpanCut.f at h
  have hur := Try.underlying79
  cases hm : quicksetref_SpanMay.f k l0 with
  | none => rw [hm] at h; cases h
  | some t =>
    rw [hm] at h
    simp only [Option.bind_some] at h
    cases t with
    | false =>
      rw [if_neg (by simp)] at h
      simp only [Option.some.injEq, Prod.mk.injEq] at h
      obtain ⟨rfl, rfl⟩ := h
      have HS := Aside0.mk (SL.start w)
      have HC := Aside0.mk hr0
      clear hr0
      go_enter Try.func44, Try.ntmps44
      go_wp2_with (first | ((with_reducible refine gate_dst (N := 2) rfl ?_); refine box_event ?hg (N := 2) ?hd (cs := #[.slice A0 l0.length c0]) (t := 64) ?hr ?_; (case hd => exact rfl); (case hg => exact rfl); (case hr => first | (go_simp; done) | (go_simp; rfl)); intro pb hgb_ w0_ hbox_ hb_; have n1_ := Aside0.mk (Sep.SL.newBlk (by repeat (first | (with_reducible first | exact HS.out | apply Sep.SL.drewN | apply Sep.SL.drew | apply Sep.SL.alloc) | exact HS.out)) hb_ hgb_ hbox_); clear HS hgb_ hbox_ hb_; have HS := n1_; clear n1_; have hz := HS.out.c0 0 rfl) | ((with_reducible refine gate_dst (N := 3) rfl ?_); refine box_event ?hg (N := 3) ?hd (cs := #[.int .i64 a1_0, .int .i64 a1_1]) (t := 79) ?hr ?_; (case hd => exact rfl); (case hg => exact rfl); (case hr => first | (go_simp; done) | (go_simp; rfl)); intro gr hgb_ w1 hbox_ hb_; have n1_ := Aside0.mk (Sep.SL.newBlk (by repeat (first | (with_reducible first | exact HS.out | apply Sep.SL.drewN | apply Sep.SL.drew | apply Sep.SL.alloc) | exact HS.out)) hb_ hgb_ hbox_); clear HS hgb_ hbox_ hb_; have HS := n1_; clear n1_; have hz := HS.out.c0 1 rfl) | (go_at_call 85; refine (quicksetref_SpanMay.calls k A0 c0 l0 false _ (Kd.C_below HC.out (SL.below (by repeat (first | (with_reducible first | exact HS.out | apply Sep.SL.drewN | apply Sep.SL.drew | apply Sep.SL.alloc) | exact HS.out)))) hc0 hm).mono ?_; rintro e w2 ⟨rfl, hb2⟩; have n1_ := Aside0.mk (SL.ext (by repeat (first | (with_reducible first | exact HS.out | apply Sep.SL.drewN | apply Sep.SL.drew | apply Sep.SL.alloc) | exact HS.out)) hb2); clear HS hb2; have HS := n1_; clear n1_))
      go_ret2
      exact ⟨_, rfl, Kd.R_nil _ _ _ _ _, SL.below (by repeat (first | (with_reducible first | exact HS.out | apply Sep.SL.drewN | apply Sep.SL.drew | apply Sep.SL.alloc) | exact HS.out))⟩
    | true =>
      rw [if_pos rfl] at h
      cases ho : quicksetref_RangeMay.f a1_0 a1_1 with
      | none => rw [ho] at h; cases h
      | some u =>
        rw [ho] at h
        simp only [Option.bind_some] at h
        cases u with
        | false =>
          rw [if_neg (by simp)] at h
          simp only [Option.some.injEq, Prod.mk.injEq] at h
          obtain ⟨rfl, rfl⟩ := h
          have HS := Aside0.mk (SL.start w)
          have HC := Aside0.mk hr0
          clear hr0
          go_enter Try.func44, Try.ntmps44
          go_wp2_with (first | ((with_reducible refine gate_dst (N := 2) rfl ?_); refine box_event ?hg (N := 2) ?hd (cs := #[.slice A0 l0.length c0]) (t := 64) ?hr ?_; (case hd => exact rfl); (case hg => exact rfl); (case hr => first | (go_simp; done) | (go_simp; rfl)); intro pb hgb_ w0_ hbox_ hb_; have n1_ := Aside0.mk (Sep.SL.newBlk (by repeat (first | (with_reducible first | exact HS.out | apply Sep.SL.drewN | apply Sep.SL.drew | apply Sep.SL.alloc) | exact HS.out)) hb_ hgb_ hbox_); clear HS hgb_ hbox_ hb_; have HS := n1_; clear n1_) | ((with_reducible refine gate_dst (N := 3) rfl ?_); refine box_event ?hg (N := 3) ?hd (cs := #[.int .i64 a1_0, .int .i64 a1_1]) (t := 79) ?hr ?_; (case hd => exact rfl); (case hg => exact rfl); (case hr => first | (go_simp; done) | (go_simp; rfl)); intro gr hgb_ w1 hbox_ hb_; have n1_ := Aside0.mk (Sep.SL.newBlk (by repeat (first | (with_reducible first | exact HS.out | apply Sep.SL.drewN | apply Sep.SL.drew | apply Sep.SL.alloc) | exact HS.out)) hb_ hgb_ hbox_); clear HS hgb_ hbox_ hb_; have HS := n1_; clear n1_; have hz := HS.out.c0 1 rfl; have hz0 := HS.out.c0 0 rfl; have hz1 := HS.out.c1 0 rfl) | (go_at_call 85; refine (quicksetref_SpanMay.calls k A0 c0 l0 true _ (Kd.C_below HC.out (SL.below (by repeat (first | (with_reducible first | exact HS.out | apply Sep.SL.drewN | apply Sep.SL.drew | apply Sep.SL.alloc) | exact HS.out)))) hc0 hm).mono ?_; rintro e w2 ⟨rfl, hb2⟩; have n1_ := Aside0.mk (SL.ext (by repeat (first | (with_reducible first | exact HS.out | apply Sep.SL.drewN | apply Sep.SL.drew | apply Sep.SL.alloc) | exact HS.out)) hb2); clear HS hb2 hz hz0 hz1; have HS := n1_; clear n1_; have hz0 := HS.out.c0 0 rfl; have hz1 := HS.out.c1 0 rfl) | (go_at_call 86; refine (quicksetref_RangeMay.calls a1_0 a1_1 false _ ho).mono ?_; rintro e w3 ⟨rfl, hb3⟩; have n1_ := Aside0.mk (SL.ext (by repeat (first | (with_reducible first | exact HS.out | apply Sep.SL.drewN | apply Sep.SL.drew | apply Sep.SL.alloc) | exact HS.out)) hb3); clear HS hb3 hz0 hz1; have HS := n1_; clear n1_))
          go_ret2
          exact ⟨_, rfl, Kd.R_nil _ _ _ _ _, SL.below (by repeat (first | (with_reducible first | exact HS.out | apply Sep.SL.drewN | apply Sep.SL.drew | apply Sep.SL.alloc) | exact HS.out))⟩
        | true =>
          rw [if_pos rfl] at h
          have h1 := congrArg Prod.fst (Option.some.inj h)
          have h2 := congrArg Prod.snd (Option.some.inj h)
          simp only at h1 h2
          rw [← h1, ← h2]
          exact sCut.ref A0 c0 l0 a1_0 a1_1 w k hr0 hc0 hm ho

/-! ### quicksetlaw_SpanCuts: function 13 -/
def quicksetlaw_SpanCuts.f (k : Nat) (l0 : List (S79)) (a1_0 : Int) (a1_1 : Int) : Option (Bool) := (span_Cut.f k l0 a1_0 a1_1).bind fun bt191 => ((quicksetref_SpanCut.f k l0 a1_0 a1_1).bind fun bt195 => ((quicksetlaw_sameRanges.f k bt191.1 bt195.1).bind fun t199 => (if t199 = true then (some (bt191.2 == bt195.2)) else (some false))))
theorem quicksetlaw_SpanCuts.mono : ∀ a0 a1 a2 k, LeO (quicksetlaw_SpanCuts.f k a0 a1 a2) (quicksetlaw_SpanCuts.f (k + 1) a0 a1 a2) := by
  intro a0 a1 a2 k
  unfold quicksetlaw_SpanCuts.f
  repeat' first
      | (with_reducible exact quicksetlaw_sameRanges.mono _ _ _)
      | (with_reducible exact quicksetref_SpanCut.mono _ _ _ _)
      | (with_reducible exact span_Cut.mono _ _ _ _)
      | (with_reducible exact LeO.refl _)
      | (with_reducible exact LeO.none _)
      | (with_reducible refine LeO.ite ?_ ?_)
      | (with_reducible refine LeO.bind ?_ (fun _ => ?_))
      | exact quicksetlaw_sameRanges.mono _ _ _
      | exact quicksetref_SpanCut.mono _ _ _ _
      | exact span_Cut.mono _ _ _ _
      | exact LeO.none _
      | refine LeO.ite ?_ ?_
      | refine LeO.bind ?_ (fun _ => ?_)
set_option maxHeartbeats 8000000 in
set_option maxRecDepth 100000 in
theorem quicksetlaw_SpanCuts.calls (k : Nat) (A0 : Option Addr) (c0 : Nat) (l0 : List (S79)) (a1_0 : Int) (a1_1 : Int) (r : Bool) (w : World) (hr0 : Kd.C k79 w A0 l0.length l0) (hc0 : l0.length ≤ c0) (h : quicksetlaw_SpanCuts.f k l0 a1_0 a1_1 = some r) :
    Calls Try.prog 13 #[.slice A0 l0.length c0, .agg #[.int .i64 a1_0, .int .i64 a1_1]] w fun e w' => e = .returned (.bool r) ∧ Below w.heap.size w w' := by
  have hu79 := Try.underlying79
  have HR0 := Aside0.mk hr0
  have HC0 := Aside0.mk hc0
  clear hr0 hc0
  have HB := Aside0.mk (Below.refl w.heap.size w)
  have H : ((span_Cut.f k l0 a1_0 a1_1).bind fun bt191 => ((quicksetref_SpanCut.f k l0 a1_0 a1_1).bind fun bt195 => ((quicksetlaw_sameRanges.f k bt191.1 bt195.1).bind fun t199 => (if t199 = true then (some (bt191.2 == bt195.2)) else (some false))))) = some r := h
  clear h
  replace H := Option.bind_eq_some_iff.mp H
  obtain ⟨⟨t191, t194⟩, A30, H⟩ := H
  replace H : ((quicksetref_SpanCut.f k l0 a1_0 a1_1).bind fun bt195 => ((quicksetlaw_sameRanges.f k t191 bt195.1).bind fun t199 => (if t199 = true then (some (t194 == bt195.2)) else (some false)))) = some r := H
  have A3 := Aside0.mk A30
  clear A30
  replace H := Option.bind_eq_some_iff.mp H
  obtain ⟨⟨t195, t198⟩, A40, H⟩ := H
  replace H : ((quicksetlaw_sameRanges.f k t191 t195).bind fun t199 => (if t199 = true then (some (t194 == t198)) else (some false))) = some r := H
  have A4 := Aside0.mk A40
  clear A40
  replace H := Option.bind_eq_some_iff.mp H
  obtain ⟨t199, A50, H⟩ := H
  replace H : (if t199 = true then (some (t194 == t198)) else (some false)) = some r := H
  have A5 := Aside0.mk A50
  clear A50
  by_cases c6 : t199 = true
  · subst c6
    have H1 : (some (t194 == t198)) = some r := by rw [if_pos rfl] at H; exact H
    clear H
    have H := H1
    clear H1
    obtain rfl := Option.some.inj H
    go_enter Try.func13, Try.ntmps13
    go_wp2_with (first | ((with_reducible refine gate_dst (N := 3) rfl ?_); refine box_event ?hg (N := 3) ?hd (cs := #[.int .i64 a1_0, .int .i64 a1_1]) (t := 79) ?hr ?_; (case hd => rfl); (case hg => rfl); (case hr => first | (go_simp; done) | (go_simp; rfl)); intro gb190 hg w7 hbox hb; have n0_ := Aside0.mk (below_step (by repeat (first | (with_reducible first | exact HB.out | apply below_alloc | apply pw_below_drewN | apply below_drew1) | exact HB.out)) hb); have n1_ := Aside0.mk (hbox); have n2_ := Aside0.mk ((by rw [hg]; exact (below_size (by repeat (first | (with_reducible first | exact HB.out | apply below_alloc | apply pw_below_drewN | apply below_drew1) | exact HB.out))) : w.heap.size ≤ gb190)); have n3_ := Aside0.mk ((by rw [hg]; exact (below_size (by repeat (first | (with_reducible first | exact HB.out | apply below_alloc | apply pw_below_drewN | apply below_drew1) | exact HB.out))) : w.heap.size ≤ gb190)); clear HB; have HB := n0_; have BK190 := n1_; have GW190 := n2_; have GE190 := n3_; clear n0_ n1_ n2_ n3_; clear hb hbox hg; have hcz8_0 : w7.cell? ⟨gb190, 0, none⟩ = some (.int .i64 a1_0) := (blk_cell BK190.out 0).trans rfl; have hcz8_1 : w7.cell? ⟨gb190, 1, none⟩ = some (.int .i64 a1_1) := (blk_cell BK190.out 1).trans rfl; have hfz8_0 := blk_frozen BK190.out 0; have hfz8_1 := blk_frozen BK190.out 1) | ((with_reducible refine gate_callee (f := 43) rfl ?_); refine goesL_ (some 12) rfl rfl Try.func43 (by kernel_rfl) rfl #[.slice A0 l0.length c0, .agg #[.int .i64 a1_0, .int .i64 a1_1]] rfl (by (try simp only [List.map_toArray, List.map_cons, List.map_nil]); first | done | rfl | (simp only [List.length_drop, List.length_take]; rfl)) ?_; (with_reducible refine (span_Cut.calls k _ _ l0 a1_0 a1_1 t191 t194 _ ?side1 ?side2 A3.out).mono ?_); (case side1 => repeat (first | exact (Kd.C_below HR0.out HB.out) | (with_reducible refine Kd.C_alloc ?_ _) | (with_reducible refine Kd.C_drewN ?_ _) | (with_reducible refine Kd.C_drew ?_))); (case side2 => exact HC0.out); rintro e w9 ⟨v192, rfl, ho0, hb⟩; refine ⟨_, rfl, ?_⟩; have n0_ := Aside0.mk (Kd.R_lower (Kd.R_newB ho0 (g := gb190) (o := .cells #[.int .i64 a1_0, .int .i64 a1_1] 79 (0, 0)) (by (with_reducible repeat (first | refine blk_drewN ?_ _ | refine blk_drew ?_ | refine blk_alloc ?_ _)); exact BK190.out)) (below_size (by repeat (first | (with_reducible first | exact HB.out | apply below_alloc | apply pw_below_drewN | apply below_drew1 | refine below_set ?_ GE190.out) | exact HB.out)))); have n1_ := Aside0.mk (blk_below (g := gb190) (o := .cells #[.int .i64 a1_0, .int .i64 a1_1] 79 (0, 0)) (by (with_reducible repeat (first | refine blk_drewN ?_ _ | refine blk_drew ?_ | refine blk_alloc ?_ _)); exact BK190.out) hb); have n2_ := Aside0.mk (below_step (by repeat (first | (with_reducible first | exact HB.out | apply below_alloc | apply pw_below_drewN | apply below_drew1 | refine below_set ?_ GE190.out) | exact HB.out)) hb); clear BK190; clear HB; have HO193 := n0_; have BK190 := n1_; have HB := n2_; clear n0_ n1_ n2_; (try clear hb); (try clear hb2); (try clear hk); (try clear hi); (try clear ho0); have hcz10_0 : w9.cell? ⟨gb190, 0, none⟩ = some (.int .i64 a1_0) := (blk_cell BK190.out 0).trans rfl; have hcz10_1 : w9.cell? ⟨gb190, 1, none⟩ = some (.int .i64 a1_1) := (blk_cell BK190.out 1).trans rfl; have hfz10_0 := blk_frozen BK190.out 0; have hfz10_1 := blk_frozen BK190.out 1) | ((with_reducible refine gate_callee (f := 44) rfl ?_); refine goesL_ (some 18) rfl rfl Try.func44 (by kernel_rfl) rfl #[.slice A0 l0.length c0, .agg #[.int .i64 a1_0, .int .i64 a1_1]] rfl (by (try simp only [List.map_toArray, List.map_cons, List.map_nil]); first | done | rfl | (simp only [List.length_drop, List.length_take]; rfl)) ?_; (with_reducible refine (quicksetref_SpanCut.calls k _ _ l0 a1_0 a1_1 t195 t198 _ ?side1 ?side2 A4.out).mono ?_); (case side1 => repeat (first | exact (Kd.C_below HR0.out HB.out) | (with_reducible refine Kd.C_alloc ?_ _) | (with_reducible refine Kd.C_drewN ?_ _) | (with_reducible refine Kd.C_drew ?_))); (case side2 => exact HC0.out); rintro e w11 ⟨v196, rfl, ho0, hb⟩; refine ⟨_, rfl, ?_⟩; have n0_ := Aside0.mk (Kd.R_elder' (by (with_reducible repeat (first | apply Kd.R_alloc | apply Kd.R_drewN | apply Kd.R_drew)); exact HO193.out) (Kd.R_base ho0) hb); have n1_ := Aside0.mk (Kd.R_lower (Kd.R_newB (Kd.R_new' ho0 (Kd.R_lt (by (with_reducible repeat (first | apply Kd.R_alloc | apply Kd.R_drewN | apply Kd.R_drew)); exact HO193.out))) (g := gb190) (o := .cells #[.int .i64 a1_0, .int .i64 a1_1] 79 (0, 0)) (by (with_reducible repeat (first | refine blk_drewN ?_ _ | refine blk_drew ?_ | refine blk_alloc ?_ _)); exact BK190.out)) (below_size (by repeat (first | (with_reducible first | exact HB.out | apply below_alloc | apply pw_below_drewN | apply below_drew1 | refine below_set ?_ GE190.out) | exact HB.out)))); have n2_ := Aside0.mk (blk_below (g := gb190) (o := .cells #[.int .i64 a1_0, .int .i64 a1_1] 79 (0, 0)) (by (with_reducible repeat (first | refine blk_drewN ?_ _ | refine blk_drew ?_ | refine blk_alloc ?_ _)); exact BK190.out) hb); have n3_ := Aside0.mk (below_step (by repeat (first | (with_reducible first | exact HB.out | apply below_alloc | apply pw_below_drewN | apply below_drew1 | refine below_set ?_ GE190.out) | exact HB.out)) hb); clear HO193; clear BK190; clear HB; have HO193 := n0_; have HO197 := n1_; have BK190 := n2_; have HB := n3_; clear n0_ n1_ n2_ n3_; (try clear hb); (try clear hb2); (try clear hk); (try clear hi); (try clear ho0); obtain ⟨Ao12, co12, eo12⟩ := Kd.R_slice HO193.out; subst eo12; obtain ⟨Ao13, co13, eo13⟩ := Kd.R_slice HO197.out; subst eo13) | ((with_reducible refine gate_callee (f := 34) rfl ?_); refine goesL_ (some 23) rfl rfl Try.func34 (by kernel_rfl) rfl #[.slice Ao12 t191.length co12, .slice Ao13 t195.length co13] rfl (by (try simp only [List.map_toArray, List.map_cons, List.map_nil]); first | done | rfl | (simp only [List.length_drop, List.length_take]; rfl)) ?_; (with_reducible refine (quicksetlaw_sameRanges.calls k _ _ t191 _ _ t195 true _ ?side1 ?side2 ?side3 ?side4 A5.out).mono ?_); (case side1 => repeat (first | exact (Kd.R_reads' HO193.out).2.2 | (with_reducible refine Kd.C_alloc ?_ _) | (with_reducible refine Kd.C_drewN ?_ _) | (with_reducible refine Kd.C_drew ?_))); (case side2 => exact (Kd.R_reads' HO193.out).2.1); (case side3 => repeat (first | exact (Kd.R_reads' HO197.out).2.2 | (with_reducible refine Kd.C_alloc ?_ _) | (with_reducible refine Kd.C_drewN ?_ _) | (with_reducible refine Kd.C_drew ?_))); (case side4 => exact (Kd.R_reads' HO197.out).2.1); rintro e w' ⟨rfl, ⟨nd, rfl⟩⟩; refine ⟨_, rfl, ?_⟩))
    go_ret
    exact ⟨by first | rfl | (simp [errW_none, errW_some] <;> rfl) | (simp [*, errW_none, errW_some] <;> rfl), by repeat (first | (with_reducible first | exact HB.out | apply below_alloc | apply pw_below_drewN | apply below_drew1 | refine below_set ?_ GE190.out) | exact HB.out)⟩
  · replace c6 := Bool.eq_false_iff.mpr c6
    subst c6
    have H1 : (some false) = some r := by rw [if_neg (show ¬ (false = true) by decide)] at H; exact H
    clear H
    have H := H1
    clear H1
    obtain rfl := Option.some.inj H
    go_enter Try.func13, Try.ntmps13
    go_wp2_with (first | ((with_reducible refine gate_dst (N := 3) rfl ?_); refine box_event ?hg (N := 3) ?hd (cs := #[.int .i64 a1_0, .int .i64 a1_1]) (t := 79) ?hr ?_; (case hd => rfl); (case hg => rfl); (case hr => first | (go_simp; done) | (go_simp; rfl)); intro gb190 hg w14 hbox hb; have n0_ := Aside0.mk (below_step (by repeat (first | (with_reducible first | exact HB.out | apply below_alloc | apply pw_below_drewN | apply below_drew1) | exact HB.out)) hb); have n1_ := Aside0.mk (hbox); have n2_ := Aside0.mk ((by rw [hg]; exact (below_size (by repeat (first | (with_reducible first | exact HB.out | apply below_alloc | apply pw_below_drewN | apply below_drew1) | exact HB.out))) : w.heap.size ≤ gb190)); have n3_ := Aside0.mk ((by rw [hg]; exact (below_size (by repeat (first | (with_reducible first | exact HB.out | apply below_alloc | apply pw_below_drewN | apply below_drew1) | exact HB.out))) : w.heap.size ≤ gb190)); clear HB; have HB := n0_; have BK190 := n1_; have GW190 := n2_; have GE190 := n3_; clear n0_ n1_ n2_ n3_; clear hb hbox hg; have hcz15_0 : w14.cell? ⟨gb190, 0, none⟩ = some (.int .i64 a1_0) := (blk_cell BK190.out 0).trans rfl; have hcz15_1 : w14.cell? ⟨gb190, 1, none⟩ = some (.int .i64 a1_1) := (blk_cell BK190.out 1).trans rfl; have hfz15_0 := blk_frozen BK190.out 0; have hfz15_1 := blk_frozen BK190.out 1) | ((with_reducible refine gate_callee (f := 43) rfl ?_); refine goesL_ (some 12) rfl rfl Try.func43 (by kernel_rfl) rfl #[.slice A0 l0.length c0, .agg #[.int .i64 a1_0, .int .i64 a1_1]] rfl (by (try simp only [List.map_toArray, List.map_cons, List.map_nil]); first | done | rfl | (simp only [List.length_drop, List.length_take]; rfl)) ?_; (with_reducible refine (span_Cut.calls k _ _ l0 a1_0 a1_1 t191 t194 _ ?side1 ?side2 A3.out).mono ?_); (case side1 => repeat (first | exact (Kd.C_below HR0.out HB.out) | (with_reducible refine Kd.C_alloc ?_ _) | (with_reducible refine Kd.C_drewN ?_ _) | (with_reducible refine Kd.C_drew ?_))); (case side2 => exact HC0.out); rintro e w16 ⟨v192, rfl, ho0, hb⟩; refine ⟨_, rfl, ?_⟩; have n0_ := Aside0.mk (Kd.R_lower (Kd.R_newB ho0 (g := gb190) (o := .cells #[.int .i64 a1_0, .int .i64 a1_1] 79 (0, 0)) (by (with_reducible repeat (first | refine blk_drewN ?_ _ | refine blk_drew ?_ | refine blk_alloc ?_ _)); exact BK190.out)) (below_size (by repeat (first | (with_reducible first | exact HB.out | apply below_alloc | apply pw_below_drewN | apply below_drew1 | refine below_set ?_ GE190.out) | exact HB.out)))); have n1_ := Aside0.mk (blk_below (g := gb190) (o := .cells #[.int .i64 a1_0, .int .i64 a1_1] 79 (0, 0)) (by (with_reducible repeat (first | refine blk_drewN ?_ _ | refine blk_drew ?_ | refine blk_alloc ?_ _)); exact BK190.out) hb); have n2_ := Aside0.mk (below_step (by repeat (first | (with_reducible first | exact HB.out | apply below_alloc | apply pw_below_drewN | apply below_drew1 | refine below_set ?_ GE190.out) | exact HB.out)) hb); clear BK190; clear HB; have HO193 := n0_; have BK190 := n1_; have HB := n2_; clear n0_ n1_ n2_; (try clear hb); (try clear hb2); (try clear hk); (try clear hi); (try clear ho0); have hcz17_0 : w16.cell? ⟨gb190, 0, none⟩ = some (.int .i64 a1_0) := (blk_cell BK190.out 0).trans rfl; have hcz17_1 : w16.cell? ⟨gb190, 1, none⟩ = some (.int .i64 a1_1) := (blk_cell BK190.out 1).trans rfl; have hfz17_0 := blk_frozen BK190.out 0; have hfz17_1 := blk_frozen BK190.out 1) | ((with_reducible refine gate_callee (f := 44) rfl ?_); refine goesL_ (some 18) rfl rfl Try.func44 (by kernel_rfl) rfl #[.slice A0 l0.length c0, .agg #[.int .i64 a1_0, .int .i64 a1_1]] rfl (by (try simp only [List.map_toArray, List.map_cons, List.map_nil]); first | done | rfl | (simp only [List.length_drop, List.length_take]; rfl)) ?_; (with_reducible refine (quicksetref_SpanCut.calls k _ _ l0 a1_0 a1_1 t195 t198 _ ?side1 ?side2 A4.out).mono ?_); (case side1 => repeat (first | exact (Kd.C_below HR0.out HB.out) | (with_reducible refine Kd.C_alloc ?_ _) | (with_reducible refine Kd.C_drewN ?_ _) | (with_reducible refine Kd.C_drew ?_))); (case side2 => exact HC0.out); rintro e w18 ⟨v196, rfl, ho0, hb⟩; refine ⟨_, rfl, ?_⟩; have n0_ := Aside0.mk (Kd.R_elder' (by (with_reducible repeat (first | apply Kd.R_alloc | apply Kd.R_drewN | apply Kd.R_drew)); exact HO193.out) (Kd.R_base ho0) hb); have n1_ := Aside0.mk (Kd.R_lower (Kd.R_newB (Kd.R_new' ho0 (Kd.R_lt (by (with_reducible repeat (first | apply Kd.R_alloc | apply Kd.R_drewN | apply Kd.R_drew)); exact HO193.out))) (g := gb190) (o := .cells #[.int .i64 a1_0, .int .i64 a1_1] 79 (0, 0)) (by (with_reducible repeat (first | refine blk_drewN ?_ _ | refine blk_drew ?_ | refine blk_alloc ?_ _)); exact BK190.out)) (below_size (by repeat (first | (with_reducible first | exact HB.out | apply below_alloc | apply pw_below_drewN | apply below_drew1 | refine below_set ?_ GE190.out) | exact HB.out)))); have n2_ := Aside0.mk (blk_below (g := gb190) (o := .cells #[.int .i64 a1_0, .int .i64 a1_1] 79 (0, 0)) (by (with_reducible repeat (first | refine blk_drewN ?_ _ | refine blk_drew ?_ | refine blk_alloc ?_ _)); exact BK190.out) hb); have n3_ := Aside0.mk (below_step (by repeat (first | (with_reducible first | exact HB.out | apply below_alloc | apply pw_below_drewN | apply below_drew1 | refine below_set ?_ GE190.out) | exact HB.out)) hb); clear HO193; clear BK190; clear HB; have HO193 := n0_; have HO197 := n1_; have BK190 := n2_; have HB := n3_; clear n0_ n1_ n2_ n3_; (try clear hb); (try clear hb2); (try clear hk); (try clear hi); (try clear ho0); obtain ⟨Ao19, co19, eo19⟩ := Kd.R_slice HO193.out; subst eo19; obtain ⟨Ao20, co20, eo20⟩ := Kd.R_slice HO197.out; subst eo20) | ((with_reducible refine gate_callee (f := 34) rfl ?_); refine goesL_ (some 23) rfl rfl Try.func34 (by kernel_rfl) rfl #[.slice Ao19 t191.length co19, .slice Ao20 t195.length co20] rfl (by (try simp only [List.map_toArray, List.map_cons, List.map_nil]); first | done | rfl | (simp only [List.length_drop, List.length_take]; rfl)) ?_; (with_reducible refine (quicksetlaw_sameRanges.calls k _ _ t191 _ _ t195 false _ ?side1 ?side2 ?side3 ?side4 A5.out).mono ?_); (case side1 => repeat (first | exact (Kd.R_reads' HO193.out).2.2 | (with_reducible refine Kd.C_alloc ?_ _) | (with_reducible refine Kd.C_drewN ?_ _) | (with_reducible refine Kd.C_drew ?_))); (case side2 => exact (Kd.R_reads' HO193.out).2.1); (case side3 => repeat (first | exact (Kd.R_reads' HO197.out).2.2 | (with_reducible refine Kd.C_alloc ?_ _) | (with_reducible refine Kd.C_drewN ?_ _) | (with_reducible refine Kd.C_drew ?_))); (case side4 => exact (Kd.R_reads' HO197.out).2.1); rintro e w' ⟨rfl, ⟨nd, rfl⟩⟩; refine ⟨_, rfl, ?_⟩))
    go_ret
    exact ⟨by first | rfl | (simp [errW_none, errW_some] <;> rfl) | (simp [*, errW_none, errW_some] <;> rfl), by repeat (first | (with_reducible first | exact HB.out | apply below_alloc | apply pw_below_drewN | apply below_drew1 | refine below_set ?_ GE190.out) | exact HB.out)⟩

end Go.Proofs.Ythnchojddoefiaa.QSpanAdds
