/- Printed from a stub by wip/stub.py with the kit's print.py, then turned by hand. -/
import Derived.Test.YthnchojddoefiaaQSpaceCondensesx0
namespace Go.Proofs.Ythnchojddoefiaa.QSpaceCondenses
open Go.RowKit Go.Proofs.YthnchojddoefiaaW.PrintWords Go.Proofs.YthnchojddoefiaaW.PrintLast Go.Proofs.YthnchojddoefiaaW.PrintMore
attribute [local go_sem] max2_int min2_int max_two min_two max_three min_three max_four min_four   -- for this text's walks alone
set_option linter.unusedVariables false
set_option linter.unusedSimpArgs false

/-! ### space_sized: function 74 -/
def space_sized.f (a0 : Int) : Option (Bool) := if a0 ≥ 1 then (some (decide (a0 ≤ 4096))) else (some false)
set_option maxHeartbeats 8000000 in
set_option maxRecDepth 100000 in
theorem space_sized.calls (a0 : Int) (r : Bool) (w : World) (h : space_sized.f a0 = some r) :
    Calls Try.prog 74 #[.int .i64 a0] w fun e w' => e = .returned (.bool r) ∧ Drawn0 w w' := by
  have H : (if a0 ≥ 1 then (some (decide (a0 ≤ 4096))) else (some false)) = some r := h
  clear h
  by_cases c2 : a0 ≥ 1
  · rw [if_pos c2] at H
    have c2b0 : decide (1 ≤ a0) = true := decide_eq_true c2
    clear c2
    obtain rfl := Option.some.inj H
    go_enter Try.func74, Try.ntmps74
    go_wp2
    go_ret
    exact ⟨by first | rfl | (simp; done) | (simp [*]; done), by repeat (first | exact Drawn0.refl _ | apply Drawn0.step)⟩
  · rw [if_neg c2] at H
    have c2b0 : decide (1 ≤ a0) = false := decide_eq_false c2
    clear c2
    obtain rfl := Option.some.inj H
    go_enter Try.func74, Try.ntmps74
    go_wp2
    go_ret
    exact ⟨by first | rfl | (simp; done) | (simp [*]; done), by repeat (first | exact Drawn0.refl _ | apply Drawn0.step)⟩

-- NOT PRINTED: function 110 (space_space_all)

-- NOT PRINTED: function 111 (space_space_set)

-- NOT PRINTED: function 68 (space_replayed)

-- NOT PRINTED: function 69 (space_space_runs)

/-! ### space_Condense: function 35 -/
/-- The units, from i on n of them set. -/
def sp_set (c : Int) : Nat → List Int → Int → List Int
  | 0, us, _ => us
  | n + 1, us, i => sp_set c n (us.set i.toNat c) (i + 1)
theorem sp_set_length (c : Int) : ∀ (n : Nat) (us : List Int) (i : Int), (sp_set c n us i).length = us.length
  | 0, _, _ => rfl
  | n + 1, us, i => by rw [sp_set, sp_set_length c n, List.length_set]
/-- Are n units from i on so? -/
def sp_all (c : Int) (us : List Int) : Nat → Int → Bool
  | 0, _ => true
  | n + 1, i => if rd us i = c then sp_all c us n (i + 1) else false
/-- The units behind n records from i on. -/
def sp_rep (size : Int) (l : List S140) : Nat → List Int → Int → Option (List Int)
  | 0, us, _ => some us
  | n + 1, us, i => if (rd_T140 l i).f1.f0 < 0 then none else (if (rd_T140 l i).f1.f0 ≥ (rd_T140 l i).f1.f1 then none else (if (rd_T140 l i).f1.f1 > size then none else
    (if sp_all (if (rd_T140 l i).f0 = true then 1 else 0) us ((rd_T140 l i).f1.f1 - (rd_T140 l i).f1.f0).toNat (rd_T140 l i).f1.f0 = true then
      sp_rep size l n (sp_set (if (rd_T140 l i).f0 = true then 0 else 1) ((rd_T140 l i).f1.f1 - (rd_T140 l i).f1.f0).toNat us (rd_T140 l i).f1.f0) (i + 1) else none)))
/-- The runs of units that are so: n places from i on. -/
def sp_runs (c : Int) (us : List Int) : Nat → Int → Int → List S79 → List S79
  | 0, _, _, out => out
  | n + 1, i, fr, out => if i < (us.length : Int) ∧ rd us i = c then (if fr < 0 then sp_runs c us n (i + 1) i out else sp_runs c us n (i + 1) fr out)
    else (if fr ≥ 0 then sp_runs c us n (i + 1) (-1) (out ++ [⟨fr, i⟩]) else sp_runs c us n (i + 1) fr out)
set_option maxHeartbeats 1000000 in
theorem space_set.calls (gp : Nat) (uv lv : Value) (left f t c : Int) (us : List Int) (P0_ : Nat → Prop) (w0 w : World) (hB : Below w0.heap.size w0 w) (hg : w0.heap.size ≤ gp)
    (hS : w.heap[gp]? = some (.cells #[uv, .int .i64 left, lv] 143 (0, 0))) (ho : Kd.R (Kd.int .u8) 5 w w0.heap.size P0_ uv us) (hP : ¬ P0_ gp) (h0 : 0 ≤ f) (hft : f ≤ t) (ht : t ≤ (us.length : Int)) (hm : us.length ≤ 4096) :
    Calls Try.prog 111 #[.pointer (some ⟨gp, 0, none⟩), .agg #[.int .i64 f, .int .i64 t], .int .u8 c] w fun e w' => e = .returned (.tuple #[]) ∧ Kd.R (Kd.int .u8) 5 w' w0.heap.size (fun k_ => P0_ k_ ∨ w.heap.size ≤ k_) uv (sp_set c (t - f).toNat us f) ∧ Below w0.heap.size w0 w' ∧ Kept w w' P0_ := by
  have hug := Try.underlying143
  have hur := Try.underlying79
  have HO := Aside0.mk (show Kd.R (Kd.int .u8) 5 w w0.heap.size (fun k_ => P0_ k_ ∨ w.heap.size ≤ k_) uv us from Kd.R_mono ho (fun k_ hk => .inl hk))
  have HK := Aside0.mk (Kept.refl w P0_)
  have HB := Aside0.mk hB
  have HS := Aside0.mk hS
  clear hB hS ho
  go_enter Try.func111, Try.ntmps111
  go_wp2_with ((with_reducible refine gate_dst (N := 4) rfl ?_); refine box_event ?hg (N := 4) ?hd (cs := #[.int .i64 f, .int .i64 t]) (t := 79) ?hr ?_; (case hd => rfl); (case hg => rfl); (case hr => first | (go_simp; done) | (go_simp; rfl)); intro gb hgb w1 hbox hb; have n1_ := Aside0.mk (Kd.R_below (by (with_reducible repeat (first | apply Kd.R_alloc | apply Kd.R_drewN | apply Kd.R_drew)); exact HO.out) hb); have n2_ := Aside0.mk (below_step (by repeat (first | (with_reducible first | exact HB.out | apply below_alloc | apply pw_below_drewN | apply below_drew1) | exact HB.out)) hb); have n3_ := Aside0.mk ((by (repeat (first | exact HK.out | apply Kept.alloc | apply Kept.drewN | apply Kept.drew)) : Kept w _ P0_).then_ (Kept.of_below hb P0_) (fun _ h_ => .inl h_)); have BK := Aside0.mk hbox; clear HO HB HK; have HO := n1_; have HB := n2_; have HK := n3_; clear n1_ n2_ n3_; have hgb1 := Aside0.mk (show w.heap.size ≤ gb from by rw [hgb]; exact Nat.le_refl _); clear hb hbox hgb; have hz0 : w1.cell? ⟨gb, 0, none⟩ = some (.int .i64 f) := (blk_cell BK.out 0).trans rfl)
  clear hz0
  go_loopg [6] (t - f).toNat (fun kq v6 wr => ∃ (ys : List Int) (i : Int), v6 = .int .i64 i ∧ f ≤ i ∧ i + kq = t ∧ ys.length = us.length ∧ Aside0 (sp_set c kq ys i = sp_set c (t - f).toNat us f) ∧ Aside0 (Kd.R (Kd.int .u8) 5 wr w0.heap.size (fun k_ => P0_ k_ ∨ w.heap.size ≤ k_) uv ys) ∧ Aside0 (wr.heap[gb]? = some (.cells #[.int .i64 f, .int .i64 t] 79 (0, 0))) ∧ Aside0 (Below w0.heap.size w0 wr) ∧ Aside0 (Kept w wr P0_))
  case atStart => exact ⟨us, f, rfl, by omega, by omega, rfl, ⟨rfl⟩, HO, BK, HB, HK⟩
  case round =>
    clear HO BK HB HK
    obtain ⟨ys, i, rfl, hi0, hik, hyl, HI, HO, BK, HB, HK⟩ := hrel
    have hz1 : wr.cell? ⟨gb, 1, none⟩ = some (.int .i64 t) := (blk_cell BK.out 1).trans rfl
    have HS1 := blk_kept HS.out HK.out hP
    cases gk with
    | zero =>
      have hit : decide (i < t) = false := decide_eq_false (by omega)
      have HI2 := HI.out
      rw [sp_set] at HI2
      subst HI2
      go_wp2_with (fail)
      first | go_end0 | ((try simp only [Exit.inBlock, Exit.then]); refine bodyPost_ret (results_none rfl _ _ _) rfl ?_)
      exact ⟨rfl, by (with_reducible repeat (first | apply Kd.R_alloc | apply Kd.R_drewN | apply Kd.R_drew)); exact HO.out, (by repeat (first | (with_reducible first | exact HB.out | apply below_alloc | apply pw_below_drewN | apply below_drew1) | exact HB.out)), by repeat (first | exact HK.out | apply Kept.alloc | apply Kept.drewN | apply Kept.drew)⟩
    | succ g1 =>
      have hit : decide (i < t) = true := decide_eq_true (by omega)
      have HI2 := HI.out
      rw [sp_set] at HI2
      have p8 : (0 : Int) ≤ i := by omega
      have q8 : i < (ys.length : Int) := by omega
      obtain ⟨go, co, eo, gb8, gl8, cl8, HG8⟩ := Kd.R_form HO.out (by omega)
      subst eo
      have GB8 := Aside0.mk gb8
      have GG8 := Aside0.mk HG8
      have hne : gb ≠ go := blk_ne BK.out HG8 (by decide)
      clear gb8 gl8 HG8
      have hs0 : wr.cell? ⟨gp, 0, none⟩ = some (.slice (some ⟨go, 0, none⟩) ys.length co) := (blk_cell HS1 0).trans rfl
      obtain ⟨hx8, hf8⟩ := Kd.R_celln 0 HO.out i p8 q8
      have HP9 := Kd.R_putg HO.out i c
      have p9 := decide_eq_true p8
      have q9 := decide_eq_true q8
      replace p8 := eq_true p8
      replace q8 := eq_true q8
      go_wp2_with ((with_reducible refine gate_store (t := 5) (p := 21) rfl ?_); refine store_event (t := 5) (p := 21) (v := ?vo_w10) (w1 := (wr.setCell ⟨go, i.toNat, none⟩ (.int .u8 c))) ?hg ?ho ?hn ?hr ?_; (case ho => rfl); (case hg => rfl); (case hn => rfl); (case hr => first | (go_simp; done) | (go_simp; rfl)); intro w10 hw; have hg_ : wr.grownBy w10 (some go) := (by rw [hw]; exact HP9.2); have n0_ := Aside0.mk (show Kd.R (Kd.int .u8) 5 w10 w0.heap.size (fun k_ => P0_ k_ ∨ w.heap.size ≤ k_) (.slice (some ⟨go, 0, none⟩) ys.length co) (ys.set i.toNat c) from by rw [hw]; exact HP9.1); have n1_ := Aside0.mk ((by rw [hw]; exact below_set HB.out GB8.out : Below w0.heap.size w0 w10)); have n2_ := Aside0.mk (Kept.of_grown (S := P0_) hg_ HK.out (fun k_ e_ => HO.out.1 k_ e_)); have n3_ : Aside0 (w10.heap[gb]? = some (.cells #[.int .i64 f, .int .i64 t] 79 (0, 0))) := Aside0.mk (by rw [hw]; exact blk_far BK.out hne _); clear HO HB HK BK HP9; have HO := n0_; have HB := n1_; have HK := n2_; have BK := n3_; clear n0_ n1_ n2_ n3_; clear hg_ hw)
      go_roundg g1
      case measure => omega
      case rel => exact ⟨ys.set i.toNat c, i + 1, by first | rfl | (simp; done) | (simp [*]; done) | (rw [wrap_id (by omega) (by omega)]), by omega, by omega, by rw [List.length_set]; exact hyl, ⟨HI2⟩, HO, BK, HB, HK⟩
set_option maxHeartbeats 1000000 in
set_option maxRecDepth 100000 in
theorem space_all.calls (gp : Nat) (uv lv : Value) (left f t c : Int) (us : List Int) (P0_ : Nat → Prop) (w0 w : World) (hB : Below w0.heap.size w0 w) 
    (hS : w.heap[gp]? = some (.cells #[uv, .int .i64 left, lv] 143 (0, 0))) (ho : Kd.R (Kd.int .u8) 5 w w0.heap.size P0_ uv us) (h0 : 0 ≤ f) (hft : f < t) (ht : t ≤ (us.length : Int)) (hm : us.length ≤ 4096) :
    Calls Try.prog 110 #[.pointer (some ⟨gp, 0, none⟩), .agg #[.int .i64 f, .int .i64 t], .int .u8 c] w fun e w' => e = .returned (.bool (sp_all c us (t - f).toNat f)) ∧ Below w.heap.size w w' := by
  have hug := Try.underlying143
  have hur := Try.underlying79
  obtain ⟨go, co, eo, gb8, gl8, cl8, HG8⟩ := Kd.R_form ho (by omega)
  subst eo
  obtain ⟨hn, hco, hC⟩ := Kd.R_reads' ho
  have HC := Aside0.mk hC
  have HS := Aside0.mk hS
  have HB := Aside0.mk (Below.refl w.heap.size w)
  have HX : Aside0 (∀ x : Int, 0 ≤ x → x < (us.length : Int) → w.cell? ⟨go, x.toNat, none⟩ = some (.int .u8 (rd us x))) := Aside0.mk (fun x a b => (Kd.R_celln 0 ho x a b).1)
  clear hB hS hC gb8 gl8 HG8 ho hn
  go_enter Try.func110, Try.ntmps110
  go_wp2_with ((with_reducible refine gate_dst (N := 4) rfl ?_); refine box_event ?hg (N := 4) ?hd (cs := #[.int .i64 f, .int .i64 t]) (t := 79) ?hr ?_; (case hd => rfl); (case hg => rfl); (case hr => first | (go_simp; done) | (go_simp; rfl)); intro gb hgb w1 hbox hb; have n2_ := Aside0.mk (below_step (by repeat (first | (with_reducible first | exact HB.out | apply below_alloc | apply pw_below_drewN | apply below_drew1) | exact HB.out)) hb); have BK := Aside0.mk hbox; clear HB; have HB := n2_; clear n2_; clear hb hbox hgb)
  have HS1 := HB.out.block gp (blk_lt HS.out) |>.trans HS.out
  have hs0 : w1.cell? ⟨gp, 0, none⟩ = some (.slice (some ⟨go, 0, none⟩) us.length co) := (blk_cell HS1 0).trans rfl
  have hz0 : w1.cell? ⟨gb, 0, none⟩ = some (.int .i64 f) := (blk_cell BK.out 0).trans rfl
  have hz1 : w1.cell? ⟨gb, 1, none⟩ = some (.int .i64 t) := (blk_cell BK.out 1).trans rfl
  have p0 := decide_eq_true h0
  have p1 := decide_eq_true (show f ≤ t by omega)
  have p2 := decide_eq_true (show t ≤ (co : Int) by omega)
  have q0 := eq_true h0
  have q1 := eq_true (show f ≤ t by omega)
  have q2 := eq_true (show t ≤ (co : Int) by omega)
  go_quiet (fail)
  clear hs0 hz0 hz1 p0 p1 p2 q0 q1 q2
  have HB2 := Aside0.mk (pw_below_drewN HB.out nq)
  clear HB
  go_wp2_with (fail)
  go_loopg [8, 19] (t.toNat - f.toNat) (fun kq v8 v19 wr => ∃ i : Nat, v19 = .int .i64 (i : Int) ∧ i + kq = t.toNat - f.toNat ∧ Aside0 (sp_all c us kq (f + i) = sp_all c us (t - f).toNat f) ∧ Aside0 (Below w.heap.size w wr))
  case atStart => exact ⟨0, rfl, by omega, ⟨by rw [show (t - f).toNat = t.toNat - f.toNat from by omega, show f + ((0 : Nat) : Int) = f from by omega]⟩, HB2⟩
  case round =>
    clear HB2
    obtain ⟨i, rfl, hik, HI, HB⟩ := hrel
    cases gk with
    | zero =>
      have hit : decide ((i : Int) < ((t.toNat - f.toNat : Nat) : Int)) = false := decide_eq_false (by omega)
      have HI2 := HI.out
      rw [sp_all] at HI2
      go_wp2_with (fail)
      go_ret
      exact ⟨by rw [← HI2]; rfl, (by repeat (first | (with_reducible first | exact HB.out | apply below_alloc | apply pw_below_drewN | apply below_drew1) | exact HB.out))⟩
    | succ g1 =>
      have hit : decide ((i : Int) < ((t.toNat - f.toNat : Nat) : Int)) = true := decide_eq_true (by omega)
      have HI2 := HI.out
      rw [sp_all] at HI2
      have hx := HX.out (f + i) (by omega) (by omega)
      rw [show (f + (i : Int)).toNat = f.toNat + i from by omega] at hx
      have hx := (HB.out.cell (World.block_lt_of_cell? w _ hx)).trans hx
      have p8 := eq_true (show (0 : Int) ≤ (i : Int) by omega)
      have q8 := eq_true (show (i : Int) < ((t.toNat - f.toNat : Nat) : Int) by omega)
      by_cases hc : rd us (f + i) = c
      · rw [if_pos hc] at HI2
        have hcb : (rd us (f + i) != c) = false := by simp [hc]
        go_wp2_with (fail)
        go_roundg g1
        case measure => omega
        case rel => exact ⟨i + 1, by first | rfl | (simp; done) | (simp [*]; done), by omega, ⟨by rw [← HI2, show f + ((i + 1 : Nat) : Int) = f + (i : Int) + 1 from by omega]⟩, ⟨(by repeat (first | (with_reducible first | exact HB.out | apply below_alloc | apply pw_below_drewN | apply below_drew1) | exact HB.out))⟩⟩
      · rw [if_neg hc] at HI2
        have hcb : (rd us (f + i) != c) = true := bne_iff_ne.mpr hc
        have hcb2 : (rd us (f + i) == c) = false := beq_eq_false_iff_ne.mpr hc
        have HI3 := Aside0.mk HI2
        clear HI2 HI
        go_wp2_with (fail)
        go_ret
        exact ⟨by rw [← HI3.out]; rfl, (by repeat (first | (with_reducible first | exact HB.out | apply below_alloc | apply pw_below_drewN | apply below_drew1) | exact HB.out))⟩
theorem info5 : (Try.prog.info? 5).map (fun i => (i.zero, i.size, i.bytes)) = some (some (.int .u8 0), 1, 1) := by kernel_rfl
/-- What is behind records: a code, or the units. -/
def sp_behind (a0 : Int) (l1 : List S140) : Except Int (List Int) :=
  if 1 ≤ a0 ∧ a0 ≤ 4096 then (if l1.length > 4096 then .error 1 else (match sp_rep a0 l1 l1.length (List.replicate a0.toNat 0) 0 with
    | none => .error 4
    | some us => .ok us)) else .error 2
def sp_post (a0 : Int) (RES : Except Int (List Int)) (w : World) (e : Ending) (w' : World) : Prop := Below w.heap.size w w' ∧ ((∃ c : Int, c ≠ 0 ∧ RES = .error c ∧ e = .returned (.tuple #[.pointer none, .int .i64 c])) ∨
      (∃ (us : List Int) (gp : Nat) (uv : Value), RES = .ok us ∧ us.length = a0.toNat ∧ 0 < us.length ∧ us.length ≤ 4096 ∧ e = .returned (.tuple #[.pointer (some ⟨gp, 0, none⟩), .int .i64 0]) ∧ w.heap.size ≤ gp ∧ w'.heap[gp]? = some (.cells #[uv, .int .i64 0, .slice none 0 0] 143 (0, 0)) ∧ Kd.R (Kd.int .u8) 5 w' w.heap.size (fun k_ => True ∧ k_ ≠ gp) uv us))
set_option maxHeartbeats 4000000 in
set_option maxRecDepth 100000 in
theorem space_replayed.calls (a0 : Int) (A1 : Option Addr) (c1 : Nat) (l1 : List S140) (w : World) (hr1 : Kd.C k140 w A1 l1.length l1) (hc1 : l1.length ≤ c1) (RES : Except Int (List Int)) (hres : sp_behind a0 l1 = RES) :
    Calls Try.prog 68 #[.int .i64 a0, .slice A1 l1.length c1] w fun e w' => sp_post a0 RES w e w' := by
  have hug := Try.underlying143
  have hur := Try.underlying79
  have huc := Try.underlying140
  have HR1 := Aside0.mk hr1
  have HC1 := Aside0.mk hc1
  have HE := Aside0.mk hres
  have HB := Aside0.mk (Below.refl w.heap.size w)
  clear hr1 hc1 hres
  by_cases hs : 1 ≤ a0 ∧ a0 ≤ 4096
  · have hsz : space_sized.f a0 = some true := by
      unfold space_sized.f
      rw [if_pos hs.1, decide_eq_true hs.2]
    by_cases hl : l1.length > 4096
    · have hlb : decide (4096 < (l1.length : Int)) = true := decide_eq_true (by omega)
      have hlc : decide (4096 < l1.length) = true := decide_eq_true hl
      go_enter Try.func68, Try.ntmps68
      go_wp2_with (go_at_call 74; refine (space_sized.calls _ _ _ hsz).mono ?_; rintro e w1 ⟨rfl, ⟨nd, rfl⟩⟩)
      go_ret2
      unfold sp_post
      exact ⟨(by repeat (first | (with_reducible first | exact HB.out | apply below_alloc | apply pw_below_drewN | apply below_drew1) | exact HB.out)), .inl ⟨1, by decide, by rw [← HE.out, sp_behind, if_pos hs, if_pos hl], rfl⟩⟩
    · have hlb : decide (4096 < (l1.length : Int)) = false := decide_eq_false (by omega)
      have hlc : decide (4096 < l1.length) = false := decide_eq_false hl
      have hE2 := HE.out
      rw [sp_behind, if_pos hs, if_neg hl] at hE2
      have HE := Aside0.mk hE2
      clear hE2
      go_enter Try.func68, Try.ntmps68
      go_wp2_with (first | (go_at_call 74; refine (space_sized.calls _ _ _ hsz).mono ?_; rintro e w1 ⟨rfl, ⟨nd, rfl⟩⟩) | ((with_reducible refine gate_dst (N := 19) rfl ?_); refine Kd.R_make (Kd.int .u8) _ 5 rfl (N := 19) rfl 28 _ _ rfl a0 rfl rfl Try.underlying28 (.int .u8 0) 1 info5 rfl (by decide) (by omega) 0 (ok := fun _ => True) (okp := fun _ => True) rfl (fun _ hk => hk) trivial (by omega) (by omega) (Below.refl _ _) (Nat.le_refl _) ?_; intro v2_ w2_ ho2_ hb2_ hg2_ hn2_; have HO1 := Aside0.mk ho2_; have HB1 := Aside0.mk hb2_; clear ho2_ hb2_ hg2_ hn2_; (obtain ⟨go, co, eo_, gb_, gl_, cl_, hg_⟩ := Kd.R_form HO1.out (by simp; omega); clear gb_ gl_ hg_ cl_; subst eo_; have n1_ := Aside0.mk (Kd.R_lower HO1.out (below_size (by repeat (first | (with_reducible first | exact HB.out | apply below_alloc | apply pw_below_drewN | apply below_drew1) | exact HB.out)))); have n2_ := Aside0.mk (below_step (by repeat (first | (with_reducible first | exact HB.out | apply below_alloc | apply pw_below_drewN | apply below_drew1) | exact HB.out)) HB1.out); clear HB HO1 HB1; have HB := n2_; have HO := n1_; clear n1_ n2_)) | ((with_reducible refine gate_dst (N := 21) rfl ?_); refine box_event ?hg (N := 21) ?hd (cs := #[.slice (some ⟨go, 0, none⟩) (List.replicate a0.toNat (0 : Int)).length co, .int .i64 0, .slice none 0 0]) (t := 143) ?hr ?_; (case hd => rfl); (case hg => rfl); (case hr => first | (go_simp; done) | (go_simp; rfl)); intro gp hgp w3 hbox hb; have n1_ := Aside0.mk (Kd.R_below (Kd.R_elderB (by (with_reducible repeat (first | apply Kd.R_alloc | apply Kd.R_drewN | apply Kd.R_drew)); exact HO.out) gp (Nat.le_of_eq hgp.symm)) hb); have n2_ := Aside0.mk (below_step (by repeat (first | (with_reducible first | exact HB.out | apply below_alloc | apply pw_below_drewN | apply below_drew1) | exact HB.out)) hb); have HS := Aside0.mk hbox; have GP := Aside0.mk (show w.heap.size ≤ gp from by rw [hgp]; exact below_size (by repeat (first | (with_reducible first | exact HB.out | apply below_alloc | apply pw_below_drewN | apply below_drew1) | exact HB.out))); clear HB HO; have HB := n2_; have HO := n1_; clear n1_ n2_ hb hbox hgp))
      have hlen : (List.replicate a0.toNat (0 : Int)).length = a0.toNat := by simp
      have hS2 := HS.out
      have hO2 := HO.out
      rw [hlen] at hS2 hO2
      have HS := Aside0.mk hS2
      have HO := Aside0.mk hO2
      clear hS2 hO2
      obtain ⟨uv, huv⟩ : ∃ v_, v_ = Value.slice (some ⟨go, 0, none⟩) a0.toNat co := ⟨_, rfl⟩
      rw [← huv] at HS HO ⊢
      clear hsz hlb hlc
      go_loopg [24] l1.length (fun kq v24 wr => ∃ (us : List Int) (i : Int), v24 = .int .i64 i ∧ 0 ≤ i ∧ i + kq = (l1.length : Int) ∧ us.length = a0.toNat ∧ Aside0 (sp_rep a0 l1 kq us i = sp_rep a0 l1 l1.length (List.replicate a0.toNat 0) 0) ∧ Aside0 (Kd.R (Kd.int .u8) 5 wr w.heap.size (fun k_ => True ∧ k_ ≠ gp) uv us) ∧ Aside0 (wr.heap[gp]? = some (.cells #[uv, .int .i64 0, .slice none 0 0] 143 (0, 0))) ∧ Aside0 (Below w.heap.size w wr))
      case atStart => exact ⟨_, 0, rfl, by omega, by omega, hlen, ⟨rfl⟩, HO, HS, HB⟩
      case round =>
        clear HO HS HB huv
        obtain ⟨us, i, rfl, hi0, hik, hul, HI, HO, HS, HB⟩ := hrel
        cases gk with
        | zero =>
          have hit : decide (i < (l1.length : Int)) = false := decide_eq_false (by omega)
          have HI2 := HI.out
          rw [sp_rep] at HI2
          have HE2 := HE.out
          rw [← HI2] at HE2
          have HE := Aside0.mk HE2
          clear HE2 HI2 HI
          go_wp2_with (fail)
          go_ret2
          unfold sp_post
          exact ⟨(by repeat (first | (with_reducible first | exact HB.out | apply below_alloc | apply pw_below_drewN | apply below_drew1) | exact HB.out)), .inr ⟨us, gp, uv, HE.out.symm, hul, by omega, by omega, rfl, GP.out, HS.out, HO.out⟩⟩
        | succ g1 =>
          have hit : decide (i < (l1.length : Int)) = true := decide_eq_true (by omega)
          have HI2 := HI.out
          rw [sp_rep] at HI2
          have q8 : i < (l1.length : Int) := by omega
          obtain ⟨ad, he, hx0, hx1, hx2⟩ := at_T140 HR1.out i hi0 q8
          cases he
          replace hx0 := (HB.out.cell (World.block_lt_of_cell? w _ hx0)).trans hx0
          replace hx1 := (HB.out.cell (World.block_lt_of_cell? w _ hx1)).trans hx1
          replace hx2 := (HB.out.cell (World.block_lt_of_cell? w _ hx2)).trans hx2
          generalize rd_T140 l1 i = x at HI2 hx0 hx1 hx2
          have HI3 := Aside0.mk HI2
          clear HI2 HI
          have p8 := eq_true hi0
          replace q8 := eq_true q8
          go_upto_region 9 with ((with_reducible refine gate_dst (N := 8) rfl ?_); refine box_event ?hg (N := 8) ?hd (cs := #[.bool false, .int .i64 0, .int .i64 0]) (t := 140) ?hr ?_; (case hd => rfl); (case hg => rfl); (case hr => first | (go_simp; done) | (go_simp; rfl)); intro gb hgb w4 hbox hb; have n1_ := Aside0.mk (Kd.R_below (by (with_reducible repeat (first | apply Kd.R_alloc | apply Kd.R_drewN | apply Kd.R_drew)); exact HO.out) hb); have n2_ := Aside0.mk (below_step (by repeat (first | (with_reducible first | exact HB.out | apply below_alloc | apply pw_below_drewN | apply below_drew1) | exact HB.out)) hb); have n3_ := Aside0.mk (blk_below HS.out hb); have BK := Aside0.mk hbox; have GB := Aside0.mk (show w.heap.size ≤ gb from by rw [hgb]; exact below_size (by repeat (first | (with_reducible first | exact HB.out | apply below_alloc | apply pw_below_drewN | apply below_drew1) | exact HB.out))); have NG := Aside0.mk (show gp ≠ gb from by rw [hgb]; exact Nat.ne_of_lt (blk_lt HS.out)); have NR := Aside0.mk (show ∀ k_, uv.ownBlock = some k_ → k_ ≠ gb from fun k_ h_ => by rw [hgb]; exact Nat.ne_of_lt (Kd.R_lt (by (with_reducible repeat (first | apply Kd.R_alloc | apply Kd.R_drewN | apply Kd.R_drew)); exact HO.out) k_ h_)); clear HB HO HS; have HB := n2_; have HO := n1_; have HS := n3_; clear n1_ n2_ n3_ hb hbox hgb; have hz0 : w4.cell? ⟨gb, 0, none⟩ = some (.bool false) := (blk_cell BK.out 0).trans rfl; have hz1 : w4.cell? ⟨gb, 1, none⟩ = some (.int .i64 0) := (blk_cell BK.out 1).trans rfl; have hz2 : w4.cell? ⟨gb, 2, none⟩ = some (.int .i64 0) := (blk_cell BK.out 2).trans rfl; have hf0 := blk_frozen BK.out 0; have hf1 := blk_frozen BK.out 1; have hf2 := blk_frozen BK.out 2)
          obtain ⟨w5, hw5⟩ : ∃ W_, W_ = (((w4.setCell ⟨gb, 0, none⟩ (.bool x.f0)).setCell ⟨gb, 1, none⟩ (.int .i64 x.f1.f0)).setCell ⟨gb, 2, none⟩ (.int .i64 x.f1.f1)) := ⟨_, rfl⟩
          rw [← hw5]
          have n1_ : Aside0 (Kd.R (Kd.int .u8) 5 w5 w.heap.size (fun k_ => True ∧ k_ ≠ gp) uv us) := Aside0.mk (by rw [hw5]; exact Kd.R_drop (Kd.R_far (p := ⟨gb, 2, none⟩) (Kd.R_far (p := ⟨gb, 1, none⟩) (Kd.R_far (p := ⟨gb, 0, none⟩) (show Kd.R (Kd.int .u8) 5 w4 w.heap.size (fun k_ => (True ∧ k_ ≠ gp) ∧ k_ ≠ gb) uv us from ⟨fun k_ h_ => ⟨HO.out.1 k_ h_, NR.out k_ h_⟩, HO.out.2⟩) (fun _ hk => hk.2) _) (fun _ hk => hk.2) _) (fun _ hk => hk.2) _))
          have n2_ : Aside0 (w5.heap[gp]? = some (.cells #[uv, .int .i64 0, .slice none 0 0] 143 (0, 0))) := Aside0.mk (by rw [hw5]; exact blk_far (blk_far (blk_far HS.out NG.out _) NG.out _) NG.out _)
          have n3_ : Aside0 (Below w.heap.size w w5) := Aside0.mk (by rw [hw5]; exact below_set (below_set (below_set HB.out GB.out) GB.out) GB.out)
          have n4_ : Aside0 (w5.heap[gb]? = some (.cells #[.bool x.f0, .int .i64 x.f1.f0, .int .i64 x.f1.f1] 140 (0, 0))) := Aside0.mk (by rw [hw5]; exact blk_put (cs := #[.bool x.f0, .int .i64 x.f1.f0, .int .i64 0]) (blk_put (cs := #[.bool x.f0, .int .i64 0, .int .i64 0]) (blk_put (cs := #[.bool false, .int .i64 0, .int .i64 0]) BK.out 0 _ rfl) 1 _ rfl) 2 _ rfl)
          clear hw5 HO HS HB BK hz0 hz1 hz2 hf0 hf1 hf2 hx0 hx1 hx2 NR
          have HO := n1_
          have HS := n2_
          have HB := n3_
          have BK := n4_
          clear n1_ n2_ n3_ n4_
          have hz0 : w5.cell? ⟨gb, 0, none⟩ = some (.bool x.f0) := (blk_cell BK.out 0).trans rfl
          have hz1 : w5.cell? ⟨gb, 1, none⟩ = some (.int .i64 x.f1.f0) := (blk_cell BK.out 1).trans rfl
          have hz2 : w5.cell? ⟨gb, 2, none⟩ = some (.int .i64 x.f1.f1) := (blk_cell BK.out 2).trans rfl
          cases hfr : x.f0 with
          | true =>
            rw [hfr] at hz0
            simp only [hfr, if_true] at HI3
            go_upto_region 13 with ((with_reducible refine gate_dst (N := 11) rfl ?_); refine box_event ?hg (N := 11) ?hd (cs := #[.int .i64 0, .int .i64 0]) (t := 79) ?hr ?_; (case hd => rfl); (case hg => rfl); (case hr => first | (go_simp; done) | (go_simp; rfl)); intro gr hgr w6 hbox hb; have n1_ := Aside0.mk (Kd.R_below (by (with_reducible repeat (first | apply Kd.R_alloc | apply Kd.R_drewN | apply Kd.R_drew)); exact HO.out) hb); have n2_ := Aside0.mk (below_step (by repeat (first | (with_reducible first | exact HB.out | apply below_alloc | apply pw_below_drewN | apply below_drew1) | exact HB.out)) hb); have n3_ := Aside0.mk (blk_below HS.out hb); have BR := Aside0.mk hbox; have GR := Aside0.mk (show w.heap.size ≤ gr from by rw [hgr]; exact below_size (by repeat (first | (with_reducible first | exact HB.out | apply below_alloc | apply pw_below_drewN | apply below_drew1) | exact HB.out))); have NG2 := Aside0.mk (show gp ≠ gr from by rw [hgr]; exact Nat.ne_of_lt (blk_lt HS.out)); have NR := Aside0.mk (show ∀ k_, uv.ownBlock = some k_ → k_ ≠ gr from fun k_ h_ => by rw [hgr]; exact Nat.ne_of_lt (Kd.R_lt (by (with_reducible repeat (first | apply Kd.R_alloc | apply Kd.R_drewN | apply Kd.R_drew)); exact HO.out) k_ h_)); clear HB HO HS BK hz0 hz1 hz2; have HB := n2_; have HO := n1_; have HS := n3_; clear n1_ n2_ n3_ hb hbox hgr; have hz0 : w6.cell? ⟨gr, 0, none⟩ = some (.int .i64 0) := (blk_cell BR.out 0).trans rfl; have hz1 : w6.cell? ⟨gr, 1, none⟩ = some (.int .i64 0) := (blk_cell BR.out 1).trans rfl; have hf0 := blk_frozen BR.out 0; have hf1 := blk_frozen BR.out 1)
            obtain ⟨w7, hw7⟩ : ∃ W_, W_ = ((w6.setCell ⟨gr, 0, none⟩ (.int .i64 x.f1.f0)).setCell ⟨gr, 1, none⟩ (.int .i64 x.f1.f1)) := ⟨_, rfl⟩
            rw [← hw7]
            have n1_ : Aside0 (Kd.R (Kd.int .u8) 5 w7 w.heap.size (fun k_ => True ∧ k_ ≠ gp) uv us) := Aside0.mk (by rw [hw7]; exact Kd.R_drop (Kd.R_far (p := ⟨gr, 1, none⟩) (Kd.R_far (p := ⟨gr, 0, none⟩) (show Kd.R (Kd.int .u8) 5 w6 w.heap.size (fun k_ => (True ∧ k_ ≠ gp) ∧ k_ ≠ gr) uv us from ⟨fun k_ h_ => ⟨HO.out.1 k_ h_, NR.out k_ h_⟩, HO.out.2⟩) (fun _ hk => hk.2) _) (fun _ hk => hk.2) _))
            have n2_ : Aside0 (w7.heap[gp]? = some (.cells #[uv, .int .i64 0, .slice none 0 0] 143 (0, 0))) := Aside0.mk (by rw [hw7]; exact blk_far (blk_far HS.out NG2.out _) NG2.out _)
            have n3_ : Aside0 (Below w.heap.size w w7) := Aside0.mk (by rw [hw7]; exact below_set (below_set HB.out GR.out) GR.out)
            have n4_ : Aside0 (w7.heap[gr]? = some (.cells #[.int .i64 x.f1.f0, .int .i64 x.f1.f1] 79 (0, 0))) := Aside0.mk (by rw [hw7]; exact blk_put (cs := #[.int .i64 x.f1.f0, .int .i64 0]) (blk_put (cs := #[.int .i64 0, .int .i64 0]) BR.out 0 _ rfl) 1 _ rfl)
            clear hw7 HO HS HB BR hz0 hz1 hf0 hf1 NR
            have HO := n1_
            have HS := n2_
            have HB := n3_
            have BR := n4_
            clear n1_ n2_ n3_ n4_
            have hz0 : w7.cell? ⟨gr, 0, none⟩ = some (.int .i64 x.f1.f0) := (blk_cell BR.out 0).trans rfl
            have hz1 : w7.cell? ⟨gr, 1, none⟩ = some (.int .i64 x.f1.f1) := (blk_cell BR.out 1).trans rfl
            have HI4 := HI3.out
            clear HI3
            by_cases h1 : x.f1.f0 < 0
            · rw [if_pos h1] at HI4
              have g1_ := decide_eq_true h1
              have HE2 := HE.out
              rw [← HI4] at HE2
              have HE3 := Aside0.mk HE2
              clear HE2 HI4
              go_wp2_with (fail)
              go_ret2
              unfold sp_post
              exact ⟨(by repeat (first | (with_reducible first | exact HB.out | apply below_alloc | apply pw_below_drewN | apply below_drew1) | exact HB.out)), .inl ⟨4, by decide, HE3.out.symm, rfl⟩⟩
            · rw [if_neg h1] at HI4
              have g1_ := decide_eq_false h1
              by_cases h2 : x.f1.f0 ≥ x.f1.f1
              · rw [if_pos h2] at HI4
                have g2_ : decide (x.f1.f1 ≤ x.f1.f0) = true := decide_eq_true h2
                have HE2 := HE.out
                rw [← HI4] at HE2
                have HE3 := Aside0.mk HE2
                clear HE2 HI4
                go_wp2_with (fail)
                go_ret2
                unfold sp_post
                exact ⟨(by repeat (first | (with_reducible first | exact HB.out | apply below_alloc | apply pw_below_drewN | apply below_drew1) | exact HB.out)), .inl ⟨4, by decide, HE3.out.symm, rfl⟩⟩
              · rw [if_neg h2] at HI4
                have g2_ : decide (x.f1.f1 ≤ x.f1.f0) = false := decide_eq_false h2
                by_cases h3 : x.f1.f1 > a0
                · rw [if_pos h3] at HI4
                  have g3_ : decide (a0 < x.f1.f1) = true := decide_eq_true h3
                  have HE2 := HE.out
                  rw [← HI4] at HE2
                  have HE3 := Aside0.mk HE2
                  clear HE2 HI4
                  go_wp2_with (fail)
                  go_ret2
                  unfold sp_post
                  exact ⟨(by repeat (first | (with_reducible first | exact HB.out | apply below_alloc | apply pw_below_drewN | apply below_drew1) | exact HB.out)), .inl ⟨4, by decide, HE3.out.symm, rfl⟩⟩
                · rw [if_neg h3] at HI4
                  have g3_ : decide (a0 < x.f1.f1) = false := decide_eq_false h3
                  have hcall := space_all.calls gp uv (.slice none 0 0) 0 x.f1.f0 x.f1.f1 1 us (fun k_ => True ∧ k_ ≠ gp) w w7 HB.out HS.out HO.out (by omega) (by omega) (by omega) (by omega)
                  cases hall : sp_all 1 us (x.f1.f1 - x.f1.f0).toNat x.f1.f0 with
                  | false =>
                    rw [hall] at hcall HI4
                    simp only [Bool.false_eq_true, if_false] at HI4
                    have HE2 := HE.out
                    rw [← HI4] at HE2
                    have HE3 := Aside0.mk HE2
                    clear HE2 HI4
                    go_wp2_with (go_at_call 110; refine hcall.mono ?_; rintro e w8 ⟨rfl, hb8⟩)
                    go_ret2
                    unfold sp_post
                    exact ⟨(below_step HB.out hb8), .inl ⟨4, by decide, HE3.out.symm, rfl⟩⟩
                  | true =>
                    rw [hall] at hcall HI4
                    simp only [if_true] at HI4
                    have HI5 := Aside0.mk HI4
                    clear HI4
                    go_wp2_with (first | (go_at_call 110; refine hcall.mono ?_; rintro e w8 ⟨rfl, hb8⟩; have n1_ := Aside0.mk (Kd.R_below HO.out hb8); have n2_ := Aside0.mk (below_step HB.out hb8); have n3_ := Aside0.mk (blk_below HS.out hb8); have n4_ := Aside0.mk (blk_below BR.out hb8); clear HO HB HS BR hz0 hz1; have HO := n1_; have HB := n2_; have HS := n3_; have BR := n4_; clear n1_ n2_ n3_ n4_; have hz0 : w8.cell? ⟨gr, 0, none⟩ = some (.int .i64 x.f1.f0) := (blk_cell BR.out 0).trans rfl; have hz1 : w8.cell? ⟨gr, 1, none⟩ = some (.int .i64 x.f1.f1) := (blk_cell BR.out 1).trans rfl; have hset := space_set.calls gp uv (.slice none 0 0) 0 x.f1.f0 x.f1.f1 0 us (fun k_ => True ∧ k_ ≠ gp) w w8 HB.out GP.out HS.out HO.out (fun h_ => h_.2 rfl) (by omega) (by omega) (by omega) (by omega)) | (go_at_call 111; refine hset.mono ?_; rintro e w9 ⟨rfl, hR9, hB9, hK9⟩))
                    go_roundg g1
                    case measure => omega
                    case rel => exact ⟨_, i + 1, by first | rfl | (simp; done) | (simp [*]; done) | (rw [wrap_id (by omega) (by omega)]), by omega, by omega, (sp_set_length _ _ _ _).trans hul, HI5, ⟨Kd.R_mono hR9 (fun k_ hk => ⟨trivial, hk.elim (fun h_ => h_.2) (fun h_ e_ => by have := blk_lt HS.out; omega)⟩)⟩, ⟨blk_kept HS.out hK9 (fun h_ => h_.2 rfl)⟩, ⟨hB9⟩⟩
          | false =>
            rw [hfr] at hz0
            simp only [hfr, Bool.false_eq_true, if_false] at HI3
            go_upto_region 13 with ((with_reducible refine gate_dst (N := 11) rfl ?_); refine box_event ?hg (N := 11) ?hd (cs := #[.int .i64 0, .int .i64 0]) (t := 79) ?hr ?_; (case hd => rfl); (case hg => rfl); (case hr => first | (go_simp; done) | (go_simp; rfl)); intro gr hgr w6 hbox hb; have n1_ := Aside0.mk (Kd.R_below (by (with_reducible repeat (first | apply Kd.R_alloc | apply Kd.R_drewN | apply Kd.R_drew)); exact HO.out) hb); have n2_ := Aside0.mk (below_step (by repeat (first | (with_reducible first | exact HB.out | apply below_alloc | apply pw_below_drewN | apply below_drew1) | exact HB.out)) hb); have n3_ := Aside0.mk (blk_below HS.out hb); have BR := Aside0.mk hbox; have GR := Aside0.mk (show w.heap.size ≤ gr from by rw [hgr]; exact below_size (by repeat (first | (with_reducible first | exact HB.out | apply below_alloc | apply pw_below_drewN | apply below_drew1) | exact HB.out))); have NG2 := Aside0.mk (show gp ≠ gr from by rw [hgr]; exact Nat.ne_of_lt (blk_lt HS.out)); have NR := Aside0.mk (show ∀ k_, uv.ownBlock = some k_ → k_ ≠ gr from fun k_ h_ => by rw [hgr]; exact Nat.ne_of_lt (Kd.R_lt (by (with_reducible repeat (first | apply Kd.R_alloc | apply Kd.R_drewN | apply Kd.R_drew)); exact HO.out) k_ h_)); clear HB HO HS BK hz0 hz1 hz2; have HB := n2_; have HO := n1_; have HS := n3_; clear n1_ n2_ n3_ hb hbox hgr; have hz0 : w6.cell? ⟨gr, 0, none⟩ = some (.int .i64 0) := (blk_cell BR.out 0).trans rfl; have hz1 : w6.cell? ⟨gr, 1, none⟩ = some (.int .i64 0) := (blk_cell BR.out 1).trans rfl; have hf0 := blk_frozen BR.out 0; have hf1 := blk_frozen BR.out 1)
            obtain ⟨w7, hw7⟩ : ∃ W_, W_ = ((w6.setCell ⟨gr, 0, none⟩ (.int .i64 x.f1.f0)).setCell ⟨gr, 1, none⟩ (.int .i64 x.f1.f1)) := ⟨_, rfl⟩
            rw [← hw7]
            have n1_ : Aside0 (Kd.R (Kd.int .u8) 5 w7 w.heap.size (fun k_ => True ∧ k_ ≠ gp) uv us) := Aside0.mk (by rw [hw7]; exact Kd.R_drop (Kd.R_far (p := ⟨gr, 1, none⟩) (Kd.R_far (p := ⟨gr, 0, none⟩) (show Kd.R (Kd.int .u8) 5 w6 w.heap.size (fun k_ => (True ∧ k_ ≠ gp) ∧ k_ ≠ gr) uv us from ⟨fun k_ h_ => ⟨HO.out.1 k_ h_, NR.out k_ h_⟩, HO.out.2⟩) (fun _ hk => hk.2) _) (fun _ hk => hk.2) _))
            have n2_ : Aside0 (w7.heap[gp]? = some (.cells #[uv, .int .i64 0, .slice none 0 0] 143 (0, 0))) := Aside0.mk (by rw [hw7]; exact blk_far (blk_far HS.out NG2.out _) NG2.out _)
            have n3_ : Aside0 (Below w.heap.size w w7) := Aside0.mk (by rw [hw7]; exact below_set (below_set HB.out GR.out) GR.out)
            have n4_ : Aside0 (w7.heap[gr]? = some (.cells #[.int .i64 x.f1.f0, .int .i64 x.f1.f1] 79 (0, 0))) := Aside0.mk (by rw [hw7]; exact blk_put (cs := #[.int .i64 x.f1.f0, .int .i64 0]) (blk_put (cs := #[.int .i64 0, .int .i64 0]) BR.out 0 _ rfl) 1 _ rfl)
            clear hw7 HO HS HB BR hz0 hz1 hf0 hf1 NR
            have HO := n1_
            have HS := n2_
            have HB := n3_
            have BR := n4_
            clear n1_ n2_ n3_ n4_
            have hz0 : w7.cell? ⟨gr, 0, none⟩ = some (.int .i64 x.f1.f0) := (blk_cell BR.out 0).trans rfl
            have hz1 : w7.cell? ⟨gr, 1, none⟩ = some (.int .i64 x.f1.f1) := (blk_cell BR.out 1).trans rfl
            have HI4 := HI3.out
            clear HI3
            by_cases h1 : x.f1.f0 < 0
            · rw [if_pos h1] at HI4
              have g1_ := decide_eq_true h1
              have HE2 := HE.out
              rw [← HI4] at HE2
              have HE3 := Aside0.mk HE2
              clear HE2 HI4
              go_wp2_with (fail)
              go_ret2
              unfold sp_post
              exact ⟨(by repeat (first | (with_reducible first | exact HB.out | apply below_alloc | apply pw_below_drewN | apply below_drew1) | exact HB.out)), .inl ⟨4, by decide, HE3.out.symm, rfl⟩⟩
            · rw [if_neg h1] at HI4
              have g1_ := decide_eq_false h1
              by_cases h2 : x.f1.f0 ≥ x.f1.f1
              · rw [if_pos h2] at HI4
                have g2_ : decide (x.f1.f1 ≤ x.f1.f0) = true := decide_eq_true h2
                have HE2 := HE.out
                rw [← HI4] at HE2
                have HE3 := Aside0.mk HE2
                clear HE2 HI4
                go_wp2_with (fail)
                go_ret2
                unfold sp_post
                exact ⟨(by repeat (first | (with_reducible first | exact HB.out | apply below_alloc | apply pw_below_drewN | apply below_drew1) | exact HB.out)), .inl ⟨4, by decide, HE3.out.symm, rfl⟩⟩
              · rw [if_neg h2] at HI4
                have g2_ : decide (x.f1.f1 ≤ x.f1.f0) = false := decide_eq_false h2
                by_cases h3 : x.f1.f1 > a0
                · rw [if_pos h3] at HI4
                  have g3_ : decide (a0 < x.f1.f1) = true := decide_eq_true h3
                  have HE2 := HE.out
                  rw [← HI4] at HE2
                  have HE3 := Aside0.mk HE2
                  clear HE2 HI4
                  go_wp2_with (fail)
                  go_ret2
                  unfold sp_post
                  exact ⟨(by repeat (first | (with_reducible first | exact HB.out | apply below_alloc | apply pw_below_drewN | apply below_drew1) | exact HB.out)), .inl ⟨4, by decide, HE3.out.symm, rfl⟩⟩
                · rw [if_neg h3] at HI4
                  have g3_ : decide (a0 < x.f1.f1) = false := decide_eq_false h3
                  have hcall := space_all.calls gp uv (.slice none 0 0) 0 x.f1.f0 x.f1.f1 0 us (fun k_ => True ∧ k_ ≠ gp) w w7 HB.out HS.out HO.out (by omega) (by omega) (by omega) (by omega)
                  cases hall : sp_all 0 us (x.f1.f1 - x.f1.f0).toNat x.f1.f0 with
                  | false =>
                    rw [hall] at hcall HI4
                    simp only [Bool.false_eq_true, if_false] at HI4
                    have HE2 := HE.out
                    rw [← HI4] at HE2
                    have HE3 := Aside0.mk HE2
                    clear HE2 HI4
                    go_wp2_with (go_at_call 110; refine hcall.mono ?_; rintro e w8 ⟨rfl, hb8⟩)
                    go_ret2
                    unfold sp_post
                    exact ⟨(below_step HB.out hb8), .inl ⟨4, by decide, HE3.out.symm, rfl⟩⟩
                  | true =>
                    rw [hall] at hcall HI4
                    simp only [if_true] at HI4
                    have HI5 := Aside0.mk HI4
                    clear HI4
                    go_wp2_with (first | (go_at_call 110; refine hcall.mono ?_; rintro e w8 ⟨rfl, hb8⟩; have n1_ := Aside0.mk (Kd.R_below HO.out hb8); have n2_ := Aside0.mk (below_step HB.out hb8); have n3_ := Aside0.mk (blk_below HS.out hb8); have n4_ := Aside0.mk (blk_below BR.out hb8); clear HO HB HS BR hz0 hz1; have HO := n1_; have HB := n2_; have HS := n3_; have BR := n4_; clear n1_ n2_ n3_ n4_; have hz0 : w8.cell? ⟨gr, 0, none⟩ = some (.int .i64 x.f1.f0) := (blk_cell BR.out 0).trans rfl; have hz1 : w8.cell? ⟨gr, 1, none⟩ = some (.int .i64 x.f1.f1) := (blk_cell BR.out 1).trans rfl; have hset := space_set.calls gp uv (.slice none 0 0) 0 x.f1.f0 x.f1.f1 1 us (fun k_ => True ∧ k_ ≠ gp) w w8 HB.out GP.out HS.out HO.out (fun h_ => h_.2 rfl) (by omega) (by omega) (by omega) (by omega)) | (go_at_call 111; refine hset.mono ?_; rintro e w9 ⟨rfl, hR9, hB9, hK9⟩))
                    go_roundg g1
                    case measure => omega
                    case rel => exact ⟨_, i + 1, by first | rfl | (simp; done) | (simp [*]; done) | (rw [wrap_id (by omega) (by omega)]), by omega, by omega, (sp_set_length _ _ _ _).trans hul, HI5, ⟨Kd.R_mono hR9 (fun k_ hk => ⟨trivial, hk.elim (fun h_ => h_.2) (fun h_ e_ => by have := blk_lt HS.out; omega)⟩)⟩, ⟨blk_kept HS.out hK9 (fun h_ => h_.2 rfl)⟩, ⟨hB9⟩⟩
  · have hsz : space_sized.f a0 = some false := by
      unfold space_sized.f
      by_cases h1 : a0 ≥ 1
      · rw [if_pos h1, decide_eq_false (by omega)]
      · rw [if_neg h1]
    go_enter Try.func68, Try.ntmps68
    go_wp2_with (go_at_call 74; refine (space_sized.calls _ _ _ hsz).mono ?_; rintro e w1 ⟨rfl, ⟨nd, rfl⟩⟩)
    go_ret2
    unfold sp_post
    exact ⟨(by repeat (first | (with_reducible first | exact HB.out | apply below_alloc | apply pw_below_drewN | apply below_drew1) | exact HB.out)), .inl ⟨2, by decide, by rw [← HE.out, sp_behind, if_neg hs], rfl⟩⟩
theorem sp_behind_ne {a0 : Int} {l : List S140} {c : Int} (h : sp_behind a0 l = .error c) : c ≠ 0 := by
  unfold sp_behind at h
  split at h
  · split at h
    · cases h; decide
    · split at h
      · cases h; decide
      · cases h
  · cases h; decide
theorem space_replayed.error (a0 : Int) (A1 : Option Addr) (c1 : Nat) (l1 : List S140) (w : World) (hr1 : Kd.C k140 w A1 l1.length l1) (hc1 : l1.length ≤ c1) (c : Int) (hres : sp_behind a0 l1 = .error c) :
    Calls Try.prog 68 #[.int .i64 a0, .slice A1 l1.length c1] w fun e w' => e = .returned (.tuple #[.pointer none, .int .i64 c]) ∧ Below w.heap.size w w' := by
  refine (space_replayed.calls a0 A1 c1 l1 w hr1 hc1 _ hres).mono ?_
  rintro e w' ⟨hb, ⟨c', hc, he, rfl⟩ | ⟨us, gp, uv, he, _⟩⟩
  · cases he; exact ⟨rfl, hb⟩
  · cases he
theorem space_replayed.fine (a0 : Int) (A1 : Option Addr) (c1 : Nat) (l1 : List S140) (w : World) (hr1 : Kd.C k140 w A1 l1.length l1) (hc1 : l1.length ≤ c1) (us : List Int) (hres : sp_behind a0 l1 = .ok us) :
    Calls Try.prog 68 #[.int .i64 a0, .slice A1 l1.length c1] w fun e w' => ∃ (gp : Nat) (uv : Value), e = .returned (.tuple #[.pointer (some ⟨gp, 0, none⟩), .int .i64 0]) ∧ 0 < us.length ∧ us.length ≤ 4096 ∧ w.heap.size ≤ gp ∧ w'.heap[gp]? = some (.cells #[uv, .int .i64 0, .slice none 0 0] 143 (0, 0)) ∧ Kd.R (Kd.int .u8) 5 w' w.heap.size (fun k_ => True ∧ k_ ≠ gp) uv us ∧ Below w.heap.size w w' := by
  refine (space_replayed.calls a0 A1 c1 l1 w hr1 hc1 _ hres).mono ?_
  rintro e w' ⟨hb, ⟨c', hc, he, rfl⟩ | ⟨us', gp, uv, he, h1, h2, h3, h4, h5, h6, h7⟩⟩
  · cases he
  · cases he; exact ⟨gp, uv, h4, h2, h3, h5, h6, h7, hb⟩
theorem space_Condense.clo (u : Int) (w : World) : Calls Try.prog 73 #[.int .u8 u] w fun e w' => e = .returned (.bool (u == 1)) ∧ Drawn0 w w' := by
  go_enter Try.func73, Try.ntmps73
  go_wp2_with (fail)
  go_ret
  exact ⟨rfl, by repeat (first | exact Drawn0.refl _ | exact ⟨_, rfl⟩)⟩
set_option maxHeartbeats 2000000 in
set_option maxRecDepth 100000 in
theorem space_Condense.runs (gp : Nat) (uv lv : Value) (left : Int) (us : List Int) (P0_ : Nat → Prop) (w0 w : World)
    (hS : w.heap[gp]? = some (.cells #[uv, .int .i64 left, lv] 143 (0, 0))) (ho : Kd.R (Kd.int .u8) 5 w w0.heap.size P0_ uv us) (hp : 0 < us.length) (hm : us.length ≤ 4096) :
    Calls Try.prog 69 #[.pointer (some ⟨gp, 0, none⟩), .func (.func 73) #[] #[]] w fun e w' => ∃ v0_ : Value, e = .returned v0_ ∧ Kd.R k79 79 w' w.heap.size (fun _ => True) v0_ (sp_runs 1 us (us.length + 1) 0 (-1) []) ∧ Below w.heap.size w w' := by
  have hug := Try.underlying143
  have hur := Try.underlying79
  obtain ⟨go, co, eo, gb8, gl8, cl8, HG8⟩ := Kd.R_form ho (by omega)
  subst eo
  obtain ⟨hn, hco, hC⟩ := Kd.R_reads' ho
  have HX : Aside0 (∀ x : Int, 0 ≤ x → x < (us.length : Int) → w.cell? ⟨go, x.toNat, none⟩ = some (.int .u8 (rd us x))) := Aside0.mk (fun x a b => (Kd.R_celln 0 ho x a b).1)
  have HS0 : w.cell? ⟨gp, 0, none⟩ = some (.slice (some ⟨go, 0, none⟩) us.length co) := (blk_cell hS 0).trans rfl
  have HS := Aside0.mk HS0
  have HB := Aside0.mk (Below.refl w.heap.size w)
  clear hS hC gb8 gl8 HG8 ho hn HS0
  go_enter Try.func69, Try.ntmps69
  go_wp2_with (fail)
  go_loopg [5, 6, 7] (us.length + 1) (fun kq v5 v6 v7 wr => ∃ (out : List S79) (fr i : Int), v6 = .int .i64 fr ∧ v7 = .int .i64 i ∧ 0 ≤ i ∧ i + kq = (us.length : Int) + 1 ∧ (out.length : Int) ≤ i ∧ Aside0 (sp_runs 1 us kq i fr out = sp_runs 1 us (us.length + 1) 0 (-1) []) ∧ Aside0 (Kd.R k79 79 wr w.heap.size (fun _ => True) v5 out) ∧ Aside0 (Below w.heap.size w wr))
  case atStart => exact ⟨[], -1, 0, rfl, rfl, by omega, by omega, by simp, ⟨rfl⟩, ⟨Kd.R_nil _ _ _ _ _⟩, HB⟩
  case round =>
    clear HB
    obtain ⟨out, fr, i, rfl, rfl, hi0, hik, hol, HI, HO, HB⟩ := hrel
    have hs0 := (HB.out.cell (World.block_lt_of_cell? w _ HS.out)).trans HS.out
    cases gk with
    | zero =>
      have hit : decide (i ≤ (us.length : Int)) = false := decide_eq_false (by omega)
      have HI2 := HI.out
      rw [sp_runs] at HI2
      subst HI2
      go_wp2_with (fail)
      go_ret
      exact ⟨_, rfl, by (with_reducible repeat (first | apply Kd.R_alloc | apply Kd.R_drewN | apply Kd.R_drew)); exact HO.out, (by repeat (first | (with_reducible first | exact HB.out | apply below_alloc | apply pw_below_drewN | apply below_drew1) | exact HB.out))⟩
    | succ g1 =>
      have hit : decide (i ≤ (us.length : Int)) = true := decide_eq_true (by omega)
      have HI2 := HI.out
      rw [sp_runs] at HI2
      by_cases hlt : i < (us.length : Int)
      · have hlb := decide_eq_true hlt
        have hx := HX.out i hi0 hlt
        have hx := (HB.out.cell (World.block_lt_of_cell? w _ hx)).trans hx
        have p8 := eq_true hi0
        have q8 := eq_true hlt
        have hcl := fun W => space_Condense.clo (rd us i) W
        by_cases hc : rd us i = 1
        · rw [if_pos ⟨hlt, hc⟩] at HI2
          rw [beq_iff_eq.mpr hc] at hcl
          clear hc
          by_cases hf : fr < 0
          · rw [if_pos hf] at HI2
            have hfb : decide (fr < 0) = true := decide_eq_true hf
            have hfc : decide (0 ≤ fr) = false := decide_eq_false (by omega)
            have HI3 := Aside0.mk HI2
            clear HI2 HI
            go_wp2_with (go_at_call 73; refine (hcl _).mono ?_; rintro e w1 ⟨rfl, ⟨nd, rfl⟩⟩)
            go_roundg g1
            case measure => omega
            case rel => exact ⟨out, i, i + 1, rfl, by first | rfl | (simp; done) | (simp [*]; done) | (rw [wrap_id (by omega) (by omega)]), by omega, by omega, by omega, HI3, ⟨by (with_reducible repeat (first | apply Kd.R_alloc | apply Kd.R_drewN | apply Kd.R_drew)); exact HO.out⟩, ⟨(by repeat (first | (with_reducible first | exact HB.out | apply below_alloc | apply pw_below_drewN | apply below_drew1) | exact HB.out))⟩⟩
          · rw [if_neg hf] at HI2
            have hfb : decide (fr < 0) = false := decide_eq_false hf
            have hfc : decide (0 ≤ fr) = true := decide_eq_true (by omega)
            have HI3 := Aside0.mk HI2
            clear HI2 HI
            go_wp2_with (go_at_call 73; refine (hcl _).mono ?_; rintro e w1 ⟨rfl, ⟨nd, rfl⟩⟩)
            go_roundg g1
            case measure => omega
            case rel => exact ⟨out, fr, i + 1, rfl, by first | rfl | (simp; done) | (simp [*]; done) | (rw [wrap_id (by omega) (by omega)]), by omega, by omega, by omega, HI3, ⟨by (with_reducible repeat (first | apply Kd.R_alloc | apply Kd.R_drewN | apply Kd.R_drew)); exact HO.out⟩, ⟨(by repeat (first | (with_reducible first | exact HB.out | apply below_alloc | apply pw_below_drewN | apply below_drew1) | exact HB.out))⟩⟩
        · rw [if_neg (fun h_ => hc h_.2)] at HI2
          rw [beq_eq_false_iff_ne.mpr hc] at hcl
          by_cases hf : fr ≥ 0
          · rw [if_pos hf] at HI2
            have hfb : decide (fr < 0) = false := decide_eq_false (by omega)
            have hfc : decide (0 ≤ fr) = true := decide_eq_true hf
            have HI3 := Aside0.mk HI2
            clear HI2 HI
            go_wp2_with (first | (go_at_call 73; refine (hcl _).mono ?_; rintro e w1 ⟨rfl, ⟨nd, rfl⟩⟩) | ((with_reducible refine gate_builtin (b := .append) (xs := #[.tmp 50, .tmp 54]) rfl ?_); at_builtin; refine Kd.R_append k79 (w0 := w) w.heap.size rfl (.tmp 50) (.tmp 54) 64 79 (.agg #[(.int .i64 0), (.int .i64 0)]) 16 rfl Try.underlying64 info79 rfl (by decide) (by omega) _ out ⟨fr, i⟩ [.int .i64 fr, .int .i64 i] (fun _ => True) (fun _ => False) rfl (by first | (go_simp; done) | (go_simp; rfl)) ?aP (fun _ hk => hk.elim) ?aF ?aO ?aB ?aS ?aL ?_; (case aP => exact k79_mkM _ _ _ _); (case aB => exact (by repeat (first | (with_reducible first | exact HB.out | apply below_alloc | apply pw_below_drewN | apply below_drew1) | exact HB.out))); (case aF => exact (fun _ _ => trivial)); (case aO => exact (by (with_reducible repeat (first | apply Kd.R_alloc | apply Kd.R_drewN | apply Kd.R_drew)); exact HO.out)); (case aS => exact (below_size (by repeat (first | (with_reducible first | exact HB.out | apply below_alloc | apply pw_below_drewN | apply below_drew1) | exact HB.out)))); (case aL => omega); intro v1_ w1_ ho_ hb_ hg_ hat_; have n0_ := Aside0.mk ho_; have n1_ := Aside0.mk hb_; clear ho_ hb_ hg_ hat_ HO HB; have HO := n0_; have HB := n1_; clear n0_ n1_))
            go_roundg g1
            case measure => omega
            case rel => exact ⟨out ++ [⟨fr, i⟩], -1, i + 1, rfl, by first | rfl | (simp; done) | (simp [*]; done) | (rw [wrap_id (by omega) (by omega)]), by omega, by omega, by rw [List.length_append]; simp; omega, HI3, ⟨by (with_reducible repeat (first | apply Kd.R_alloc | apply Kd.R_drewN | apply Kd.R_drew)); exact HO.out⟩, ⟨(by repeat (first | (with_reducible first | exact HB.out | apply below_alloc | apply pw_below_drewN | apply below_drew1) | exact HB.out))⟩⟩
          · rw [if_neg hf] at HI2
            have hfb : decide (fr < 0) = true := decide_eq_true (by omega)
            have hfc : decide (0 ≤ fr) = false := decide_eq_false hf
            have HI3 := Aside0.mk HI2
            clear HI2 HI
            go_wp2_with (go_at_call 73; refine (hcl _).mono ?_; rintro e w1 ⟨rfl, ⟨nd, rfl⟩⟩)
            go_roundg g1
            case measure => omega
            case rel => exact ⟨out, fr, i + 1, rfl, by first | rfl | (simp; done) | (simp [*]; done) | (rw [wrap_id (by omega) (by omega)]), by omega, by omega, by omega, HI3, ⟨by (with_reducible repeat (first | apply Kd.R_alloc | apply Kd.R_drewN | apply Kd.R_drew)); exact HO.out⟩, ⟨(by repeat (first | (with_reducible first | exact HB.out | apply below_alloc | apply pw_below_drewN | apply below_drew1) | exact HB.out))⟩⟩
      · have hlb := decide_eq_false hlt
        rw [if_neg (fun h_ => hlt h_.1)] at HI2
        by_cases hf : fr ≥ 0
        · rw [if_pos hf] at HI2
          have hfb : decide (fr < 0) = false := decide_eq_false (by omega)
          have hfc : decide (0 ≤ fr) = true := decide_eq_true hf
          have HI3 := Aside0.mk HI2
          clear HI2 HI
          go_wp2_with (first | (go_at_call 73; refine (hcl _).mono ?_; rintro e w1 ⟨rfl, ⟨nd, rfl⟩⟩) | ((with_reducible refine gate_builtin (b := .append) (xs := #[.tmp 50, .tmp 54]) rfl ?_); at_builtin; refine Kd.R_append k79 (w0 := w) w.heap.size rfl (.tmp 50) (.tmp 54) 64 79 (.agg #[(.int .i64 0), (.int .i64 0)]) 16 rfl Try.underlying64 info79 rfl (by decide) (by omega) _ out ⟨fr, i⟩ [.int .i64 fr, .int .i64 i] (fun _ => True) (fun _ => False) rfl (by first | (go_simp; done) | (go_simp; rfl)) ?aP (fun _ hk => hk.elim) ?aF ?aO ?aB ?aS ?aL ?_; (case aP => exact k79_mkM _ _ _ _); (case aB => exact (by repeat (first | (with_reducible first | exact HB.out | apply below_alloc | apply pw_below_drewN | apply below_drew1) | exact HB.out))); (case aF => exact (fun _ _ => trivial)); (case aO => exact (by (with_reducible repeat (first | apply Kd.R_alloc | apply Kd.R_drewN | apply Kd.R_drew)); exact HO.out)); (case aS => exact (below_size (by repeat (first | (with_reducible first | exact HB.out | apply below_alloc | apply pw_below_drewN | apply below_drew1) | exact HB.out)))); (case aL => omega); intro v1_ w1_ ho_ hb_ hg_ hat_; have n0_ := Aside0.mk ho_; have n1_ := Aside0.mk hb_; clear ho_ hb_ hg_ hat_ HO HB; have HO := n0_; have HB := n1_; clear n0_ n1_))
          go_roundg g1
          case measure => omega
          case rel => exact ⟨out ++ [⟨fr, i⟩], -1, i + 1, rfl, by first | rfl | (simp; done) | (simp [*]; done) | (rw [wrap_id (by omega) (by omega)]), by omega, by omega, by rw [List.length_append]; simp; omega, HI3, ⟨by (with_reducible repeat (first | apply Kd.R_alloc | apply Kd.R_drewN | apply Kd.R_drew)); exact HO.out⟩, ⟨(by repeat (first | (with_reducible first | exact HB.out | apply below_alloc | apply pw_below_drewN | apply below_drew1) | exact HB.out))⟩⟩
        · rw [if_neg hf] at HI2
          have hfb : decide (fr < 0) = true := decide_eq_true (by omega)
          have hfc : decide (0 ≤ fr) = false := decide_eq_false hf
          have HI3 := Aside0.mk HI2
          clear HI2 HI
          go_wp2_with (go_at_call 73; refine (hcl _).mono ?_; rintro e w1 ⟨rfl, ⟨nd, rfl⟩⟩)
          go_roundg g1
          case measure => omega
          case rel => exact ⟨out, fr, i + 1, rfl, by first | rfl | (simp; done) | (simp [*]; done) | (rw [wrap_id (by omega) (by omega)]), by omega, by omega, by omega, HI3, ⟨by (with_reducible repeat (first | apply Kd.R_alloc | apply Kd.R_drewN | apply Kd.R_drew)); exact HO.out⟩, ⟨(by repeat (first | (with_reducible first | exact HB.out | apply below_alloc | apply pw_below_drewN | apply below_drew1) | exact HB.out))⟩⟩
def sp_rec (r : S79) : S140 := ⟨false, r⟩
def space_Condense.f (_k : Nat) (a0 : Int) (l1 : List S140) : Option (List S140 × Int) :=
  match sp_behind a0 l1 with
  | .error c => some ([], c)
  | .ok us => some ((sp_runs 1 us (us.length + 1) 0 (-1) []).map sp_rec, 0)
theorem sp_runs_le (c : Int) (us : List Int) : ∀ (n : Nat) (i fr : Int) (out : List S79), (sp_runs c us n i fr out).length ≤ out.length + n
  | 0, i, fr, out => by rw [sp_runs]; omega
  | n + 1, i, fr, out => by
    rw [sp_runs]
    split
    · split
      · have := sp_runs_le c us n (i + 1) i out; omega
      · have := sp_runs_le c us n (i + 1) fr out; omega
    · split
      · have := sp_runs_le c us n (i + 1) (-1) (out ++ [⟨fr, i⟩]); simp at this; omega
      · have := sp_runs_le c us n (i + 1) fr out; omega
theorem space_Condense.mono : ∀ a0 a1 k, LeO (space_Condense.f k a0 a1) (space_Condense.f (k + 1) a0 a1) := fun _ _ _ => LeO.refl _
set_option maxHeartbeats 2000000 in
set_option maxRecDepth 100000 in
theorem space_Condense.calls (k : Nat) (a0 : Int) (A1 : Option Addr) (c1 : Nat) (l1 : List (S140)) (r1 : List (S140)) (r2 : Int) (w : World) (hr1 : Kd.C k140 w A1 l1.length l1) (hc1 : l1.length ≤ c1) (h : space_Condense.f k a0 l1 = some (r1, r2)) :
    Calls Try.prog 35 #[.int .i64 a0, .slice A1 l1.length c1] w fun e w' => ∃ v0_ : Value, e = .returned (.tuple #[v0_, .int .i64 r2]) ∧ Kd.R k140 140 w' w.heap.size (fun _ => True) v0_ r1 ∧ Below w.heap.size w w' := by
  have hur := Try.underlying79
  have huc := Try.underlying140
  unfold space_Condense.f at h
  have HB := Aside0.mk (Below.refl w.heap.size w)
  cases hbe : sp_behind a0 l1 with
  | error c =>
    rw [hbe] at h
    simp only [Option.some.injEq, Prod.mk.injEq] at h
    obtain ⟨rfl, rfl⟩ := h
    have hcall := fun W h1 => space_replayed.error a0 A1 c1 l1 W h1 hc1 c hbe
    have hne := sp_behind_ne hbe
    have hb1 : (c != 0) = true := bne_iff_ne.mpr hne
    have hb2 : (c == 0) = false := beq_eq_false_iff_ne.mpr hne
    clear hbe
    go_enter Try.func35, Try.ntmps35
    go_wp2_with (go_at_call 68; refine (hcall _ hr1).mono ?_; rintro e w1 ⟨rfl, hb_⟩; have n1_ := Aside0.mk (below_step HB.out hb_); clear HB hb_; have HB := n1_; clear n1_)
    go_ret2
    exact ⟨_, rfl, Kd.R_nil _ _ _ _ _, (by repeat (first | (with_reducible first | exact HB.out | apply below_alloc | apply pw_below_drewN | apply below_drew1) | exact HB.out))⟩
  | ok us =>
    rw [hbe] at h
    have hcall := fun W h1 => space_replayed.fine a0 A1 c1 l1 W h1 hc1 us hbe
    clear hbe
    simp only [Option.some.injEq, Prod.mk.injEq] at h
    obtain ⟨rfl, rfl⟩ := h
    have hll := sp_runs_le 1 us (us.length + 1) 0 (-1) []
    obtain ⟨l, hl⟩ : ∃ l, l = sp_runs 1 us (us.length + 1) 0 (-1) [] := ⟨_, rfl⟩
    rw [← hl] at hll ⊢
    have HL := Aside0.mk hl
    clear hl
    simp only [List.length_nil] at hll
    go_enter Try.func35, Try.ntmps35
    go_wp2_with (first | (go_at_call 68; refine (hcall _ hr1).mono ?_; rintro e w1 ⟨gp, uv, rfl, hp0, hp1, hg1, hs1, hr_, hb_⟩; have n1_ := Aside0.mk (below_step HB.out hb_); have hruns := space_Condense.runs gp uv (.slice none 0 0) 0 us (fun k_ => True ∧ k_ ≠ gp) w w1 hs1 hr_ hp0 hp1; rw [← HL.out] at hruns; clear HB hb_ hs1 hr_; have HB := n1_; clear n1_) | (go_at_call 69; refine hruns.mono ?_; rintro e w2 ⟨v0_, rfl, hr2_, hb2_⟩; obtain ⟨A2_, c2_, e2_, hlc_, hC2_⟩ := Kd.R_reads hr2_; subst e2_; have n1_ := Aside0.mk (below_step HB.out hb2_); have HC := Aside0.mk hC2_; clear HB hb2_ hr2_ hruns hC2_ hlc_; have HB := n1_; clear n1_))
    have HB2 := Aside0.mk (Below.refl w2.heap.size w2)
    clear hcall hr1 hc1 HL
    go_loopg [8, 23] l.length (fun kq v8 v23 wr => ∃ (i : Int) (out : List S140), v23 = .int .i64 i ∧ 0 ≤ i ∧ i + kq = (l.length : Int) ∧ (out.length : Int) = i ∧ Aside0 (out ++ (l.drop i.toNat).map sp_rec = l.map sp_rec) ∧ Aside0 (Kd.R k140 140 wr w2.heap.size (fun _ => True) v8 out) ∧ Aside0 (Below w2.heap.size w2 wr))
    case atStart => exact ⟨0, [], rfl, by omega, by omega, by simp, ⟨by simp⟩, ⟨Kd.R_nil _ _ _ _ _⟩, HB2⟩
    case round =>
      clear HB2
      obtain ⟨i, out, rfl, hi0, hik, hol, HI, HO, HB2⟩ := hrel
      cases gk with
      | zero =>
        have hit : decide (i < (l.length : Int)) = false := decide_eq_false (by omega)
        have hout : out = l.map sp_rec := by
          have := HI.out
          rw [List.drop_eq_nil_of_le (by omega)] at this
          simpa using this
        subst hout
        go_wp2_with (fail)
        go_ret2
        exact ⟨_, rfl, Kd.R_lower (by (with_reducible repeat (first | apply Kd.R_alloc | apply Kd.R_drewN | apply Kd.R_drew)); exact HO.out) (below_size HB.out), below_step HB.out (by repeat (first | (with_reducible first | exact HB2.out | apply below_alloc | apply pw_below_drewN | apply below_drew1) | exact HB2.out))⟩
      | succ g1 =>
        have hit : decide (i < (l.length : Int)) = true := decide_eq_true (by omega)
        have q8 : i < (l.length : Int) := by omega
        obtain ⟨ad, he, hx0, hx1⟩ := at_T79 HC.out i hi0 q8
        subst he
        have hx0 := (HB2.out.cell (World.block_lt_of_cell? w2 _ hx0)).trans hx0
        have hx1 := (HB2.out.cell (World.block_lt_of_cell? w2 _ hx1)).trans hx1
        have hnext : out ++ [sp_rec (rd_T79 l i)] ++ (l.drop (i + 1).toNat).map sp_rec = l.map sp_rec := by
          have e1 : rd_T79 l i = l[i.toNat]'(by omega) := by
            show l.getD i.toNat z79 = _
            rw [List.getD_eq_getElem?_getD, List.getElem?_eq_getElem (by omega)]
            rfl
          have := HI.out
          rw [List.drop_eq_getElem_cons (show i.toNat < l.length by omega), List.map_cons, ← e1, show i.toNat + 1 = (i + 1).toNat from by omega] at this
          rw [List.append_assoc]
          exact this
        have HI2 := Aside0.mk hnext
        clear hnext HI
        generalize rd_T79 l i = x at HI2 hx0 hx1
        have p8 := eq_true hi0
        replace q8 := eq_true q8
        go_upto_region 8 with ((with_reducible refine gate_dst (N := 10) rfl ?_); refine box_event ?hg (N := 10) ?hd (cs := #[.int .i64 0, .int .i64 0]) (t := 79) ?hr ?_; (case hd => rfl); (case hg => rfl); (case hr => first | (go_simp; done) | (go_simp; rfl)); intro gr hgr w6 hbox hb; have n1_ := Aside0.mk (Kd.R_below (Kd.R_elderB (by (with_reducible repeat (first | apply Kd.R_alloc | apply Kd.R_drewN | apply Kd.R_drew)); exact HO.out) gr (Nat.le_of_eq hgr.symm)) hb); have n2_ := Aside0.mk (below_step (by repeat (first | (with_reducible first | exact HB2.out | apply below_alloc | apply pw_below_drewN | apply below_drew1) | exact HB2.out)) hb); have BR := Aside0.mk hbox; have GR := Aside0.mk (show w2.heap.size ≤ gr from by rw [hgr]; exact below_size (by repeat (first | (with_reducible first | exact HB2.out | apply below_alloc | apply pw_below_drewN | apply below_drew1) | exact HB2.out))); clear HB2 HO; have HB2 := n2_; have HO := n1_; clear n1_ n2_ hb hbox hgr; have hz0 : w6.cell? ⟨gr, 0, none⟩ = some (.int .i64 0) := (blk_cell BR.out 0).trans rfl; have hz1 : w6.cell? ⟨gr, 1, none⟩ = some (.int .i64 0) := (blk_cell BR.out 1).trans rfl; have hf0 := blk_frozen BR.out 0; have hf1 := blk_frozen BR.out 1)
        obtain ⟨w7, hw7⟩ : ∃ W_, W_ = ((w6.setCell ⟨gr, 0, none⟩ (.int .i64 x.f0)).setCell ⟨gr, 1, none⟩ (.int .i64 x.f1)) := ⟨_, rfl⟩
        rw [← hw7]
        have n1_ : Aside0 (Kd.R k140 140 w7 w2.heap.size (fun _ => True) u8 out) := Aside0.mk (by rw [hw7]; exact Kd.R_drop (Kd.R_far (p := ⟨gr, 1, none⟩) (Kd.R_far (p := ⟨gr, 0, none⟩) HO.out (fun _ hk => hk.2) _) (fun _ hk => hk.2) _))
        have n3_ : Aside0 (Below w2.heap.size w2 w7) := Aside0.mk (by rw [hw7]; exact below_set (below_set HB2.out GR.out) GR.out)
        have n4_ : Aside0 (w7.heap[gr]? = some (.cells #[.int .i64 x.f0, .int .i64 x.f1] 79 (0, 0))) := Aside0.mk (by rw [hw7]; exact blk_put (cs := #[.int .i64 x.f0, .int .i64 0]) (blk_put (cs := #[.int .i64 0, .int .i64 0]) BR.out 0 _ rfl) 1 _ rfl)
        clear hw7 HO HB2 BR hz0 hz1 hf0 hf1 hx0 hx1
        have HO := n1_
        have HB2 := n3_
        have BR := n4_
        clear n1_ n3_ n4_
        have hz0 : w7.cell? ⟨gr, 0, none⟩ = some (.int .i64 x.f0) := (blk_cell BR.out 0).trans rfl
        have hz1 : w7.cell? ⟨gr, 1, none⟩ = some (.int .i64 x.f1) := (blk_cell BR.out 1).trans rfl
        go_wp2_with ((with_reducible refine gate_builtin (b := .append) (xs := #[.tmp 27, .tmp 30]) rfl ?_); at_builtin; refine Kd.R_append k140 (w0 := w2) w2.heap.size rfl (.tmp 27) (.tmp 30) 63 140 (.agg #[(.bool false), (.int .i64 0), (.int .i64 0)]) 24 rfl Try.underlying63 info140 rfl (by decide) (by omega) _ out (sp_rec x) [.bool false, .int .i64 x.f0, .int .i64 x.f1] (fun _ => True) (fun _ => False) rfl (by first | (go_simp; done) | (go_simp; rfl)) ?aP (fun _ hk => hk.elim) ?aF ?aO ?aB ?aS ?aL ?_; (case aP => exact k140_mkM _ _ _ (sp_rec x)); (case aB => exact (by repeat (first | (with_reducible first | exact HB2.out | apply below_alloc | apply pw_below_drewN | apply below_drew1) | exact HB2.out))); (case aF => exact (fun _ _ => trivial)); (case aO => exact (by (with_reducible repeat (first | apply Kd.R_alloc | apply Kd.R_drewN | apply Kd.R_drew)); exact HO.out)); (case aS => exact (below_size (by repeat (first | (with_reducible first | exact HB2.out | apply below_alloc | apply pw_below_drewN | apply below_drew1) | exact HB2.out)))); (case aL => omega); intro v1_ w1_ ho_ hb_ hg_ hat_; have n0_ := Aside0.mk ho_; have n1_ := Aside0.mk hb_; clear ho_ hb_ hg_ hat_ HO HB2; have HO := n0_; have HB2 := n1_; clear n0_ n1_)
        go_roundg g1
        case measure => omega
        case rel => exact ⟨i + 1, out ++ [sp_rec x], by first | rfl | (simp; done) | (simp [*]; done), by omega, by omega, by rw [List.length_append]; simp; omega, HI2, ⟨(by (with_reducible repeat (first | apply Kd.R_alloc | apply Kd.R_drewN | apply Kd.R_drew)); exact HO.out)⟩, ⟨(by repeat (first | (with_reducible first | exact HB2.out | apply below_alloc | apply pw_below_drewN | apply below_drew1) | exact HB2.out))⟩⟩

/-! ### quicksetref_spaceNow_put: function 76 -/
def quicksetref_spaceNow_put.l0 : Nat → List Int → Int → Int → Int → Option (List Int)
  | 0, _, _, _, _ => none
  | k + 1, x0, x2, x3, x8 => if x8 < x2 then (if 0 ≤ x8 then (if x8 < (x0.length : Int) then (quicksetref_spaceNow_put.l0 k (x0.set (x8 : Int).toNat x3) x2 x3 (wrap64 (x8 + 1))) else (none)) else (none)) else (some x0)
def quicksetref_spaceNow_put.f (k : Nat) (l0 : List Int) (a1 : Int) (a2 : Int) (a3 : Int) : Option (List Int) := quicksetref_spaceNow_put.l0 k l0 a2 a3 a1
theorem quicksetref_spaceNow_put.mono_l : ∀ k, (∀ y0 y1 y2 y3, LeO (quicksetref_spaceNow_put.l0 k y0 y1 y2 y3) (quicksetref_spaceNow_put.l0 (k + 1) y0 y1 y2 y3))
  | 0 => fun _ _ _ _ r h => by simp [quicksetref_spaceNow_put.l0] at h
  | k + 1 => by
    have ih0 := quicksetref_spaceNow_put.mono_l k
    · intro y0 y1 y2 y3
      unfold quicksetref_spaceNow_put.l0
      repeat' first
      | (with_reducible exact ih0 _ _ _ _)
      | (with_reducible exact LeO.refl _)
      | (with_reducible exact LeO.none _)
      | (with_reducible refine LeO.ite ?_ ?_)
      | (with_reducible refine LeO.bind ?_ (fun _ => ?_))
      | exact ih0 _ _ _ _
      | exact LeO.none _
      | refine LeO.ite ?_ ?_
      | refine LeO.bind ?_ (fun _ => ?_)
theorem quicksetref_spaceNow_put.mono : ∀ a0 a1 a2 a3 k, LeO (quicksetref_spaceNow_put.f k a0 a1 a2 a3) (quicksetref_spaceNow_put.f (k + 1) a0 a1 a2 a3) := by
  intro a0 a1 a2 a3 k
  have ih0 := quicksetref_spaceNow_put.mono_l k
  unfold quicksetref_spaceNow_put.f
  repeat' first
      | (with_reducible exact ih0 _ _ _ _)
      | (with_reducible exact LeO.refl _)
      | (with_reducible exact LeO.none _)
      | (with_reducible refine LeO.ite ?_ ?_)
      | (with_reducible refine LeO.bind ?_ (fun _ => ?_))
      | exact ih0 _ _ _ _
      | exact LeO.none _
      | refine LeO.ite ?_ ?_
      | refine LeO.bind ?_ (fun _ => ?_)
set_option maxHeartbeats 8000000 in
set_option maxRecDepth 100000 in
theorem quicksetref_spaceNow_put.calls (k : Nat) (P0_ : Nat → Prop) (u9000_ : Value) (l0 : List Int) (a1 : Int) (a2 : Int) (a3 : Int) (r : List Int) (w0 w : World) (hB : Below w0.heap.size w0 w) (ho0 : Kd.R (Kd.int .i64) 3 w w0.heap.size P0_ u9000_ l0) (h : quicksetref_spaceNow_put.f k l0 a1 a2 a3 = some r) :
    Calls Try.prog 76 #[u9000_, .int .i64 a1, .int .i64 a2, .int .i64 a3] w fun e w' => e = .returned (.tuple #[]) ∧ Kd.R (Kd.int .i64) 3 w' w0.heap.size (fun k_ => (P0_ k_ ∨ w.heap.size ≤ k_)) u9000_ r ∧ Below w0.heap.size w0 w' ∧ Kept w w' (fun k_ => P0_ k_) := by
  have HO0 := Aside0.mk (show Kd.R (Kd.int .i64) 3 w w0.heap.size (fun k_ => (P0_ k_ ∨ w.heap.size ≤ k_)) u9000_ l0 from Kd.R_mono ho0 (fun k_ hk => (.inl hk)))
  have HK := Aside0.mk (Kept.refl w (fun k_ => P0_ k_))
  have HW0 := Aside0.mk hB.size
  have HB := Aside0.mk hB
  clear hB
  have H : (quicksetref_spaceNow_put.l0 k l0 a2 a3 a1) = some r := h
  clear h
  have H' := Aside0.mk H
  clear H
  go_enter Try.func76, Try.ntmps76
  go_wp2
  go_loopg [8] k (fun kq v8 w' => ∃ (x0_1 : List Int) (x8_1 : Int), v8 = .int .i64 x8_1 ∧ Aside0 (quicksetref_spaceNow_put.l0 kq x0_1 a2 a3 x8_1 = some r) ∧ Aside0 (kq ≤ k) ∧ Aside0 (Kd.R (Kd.int .i64) 3 w' w0.heap.size (fun k_ => (P0_ k_ ∨ w.heap.size ≤ k_)) u9000_ x0_1) ∧ Aside0 (Kept w w' (fun k_ => P0_ k_)) ∧ Aside0 (Below w0.heap.size w0 w'))
  case atStart => exact ⟨(l0), (a1), (by first | rfl | (simp; done) | (simp [*]; done)), H', ⟨Nat.le_refl _⟩, ⟨by (with_reducible repeat (first | apply Kd.R_alloc | apply Kd.R_drewN | apply Kd.R_drew)); exact HO0.out⟩, ⟨by repeat (first | (with_reducible first | exact HK.out | apply Kept.alloc | apply Kept.drewN | apply Kept.drew) | exact HK.out)⟩, ⟨by repeat (first | (with_reducible first | exact HB.out | apply below_alloc | apply pw_below_drewN | apply below_drew1) | exact HB.out)⟩⟩
  case round =>
    clear H'
    try clear p2
    obtain ⟨x0_1, x8_1, rfl, HA, HK1, HO_0, HK, HB⟩ := hrel
    cases gk with
    | zero => exact absurd HA.out (by simp [quicksetref_spaceNow_put.l0])
    | succ k1 =>
      have H := HA.out
      clear HA
      simp only [quicksetref_spaceNow_put.l0] at H
      by_cases c5 : x8_1 < a2
      · rw [if_pos c5] at H
        have c5b0 : decide (x8_1 < a2) = true := decide_eq_true c5
        clear c5
        by_cases c6 : 0 ≤ x8_1
        · rw [if_pos c6] at H
          have c6b0 : decide (0 ≤ x8_1) = true := decide_eq_true c6
          clear c6
          by_cases c7 : x8_1 < (x0_1.length : Int)
          · rw [if_pos c7] at H
            have c7b0 : decide (x8_1 < (x0_1.length : Int)) = true := decide_eq_true c7
            clear c7
            obtain ⟨y109, hy109⟩ : ∃ y_ : List Int, y_ = (x0_1.set (x8_1 : Int).toNat a3) := ⟨_, rfl⟩
            replace H : (quicksetref_spaceNow_put.l0 k1 y109 a2 a3 (wrap64 (x8_1 + 1))) = some r := by first | (rw [hy109]; with_reducible exact H) | (have H2_ := (Option.bind_some _ _).symm.trans H; rw [hy109]; with_reducible exact H2_) | (have H2_ := (Option.bind_some _ _).symm.trans H; with_reducible exact H2_) | with_reducible exact H | (rw [hy109]; exact H) | exact H
            have Ny109 := Aside0.mk hy109
            clear hy109
            have H' := Aside0.mk H
            clear H
            have p8 : 0 ≤ (x8_1 : Int) := of_decide_eq_true (by first | (with_reducible assumption) | assumption)
            have q8 : (x8_1 : Int) < ((x0_1.length : Int) : Int) := of_decide_eq_true (by first | (with_reducible assumption) | assumption)
            obtain ⟨go8, co8, eo8, gb8, gl8, cl8, HG8⟩ := Kd.R_form HO_0.out (by omega)
            (first | cases eo8 | (injection eo8 with ea_ en_ ec_; (first | subst ea_ | (injection ea_ with ea_; subst ea_)); subst ec_; clear en_))
            have GB8 := Aside0.mk gb8
            have GG8 := Aside0.mk HG8
            clear gb8 gl8 HG8
            have HMgo8 := Aside0.mk (show (P0_ go8 ∨ w.heap.size ≤ go8) from (HO_0.out.1 _ rfl))
            obtain ⟨hx8_0, hf8_0⟩ := Kd.R_celln 0 HO_0.out (x8_1 : Int) p8 q8
            replace p8 := eq_true p8
            replace q8 := eq_true q8
            have HP9 := Kd.R_putg HO_0.out (x8_1 : Int) a3
            go_wp2_with (first | ((with_reducible refine gate_store (t := 3) (p := 18) rfl ?_); refine store_event (t := 3) (p := 18) (v := ?vo_w10) (w1 := (wr.setCell ⟨go8, (x8_1 : Int).toNat, none⟩ (.int .i64 a3))) ?hg ?ho ?hn ?hr ?_; (case ho => rfl); (case hg => rfl); (case hn => rfl); (case hr => first | (go_simp; done) | (go_simp; rfl)); intro w10 hw; have hg : wr.grownBy w10 (some go8) := (by rw [hw]; exact HP9.2); have hp_ : Kd.R (Kd.int .i64) 3 w10 w0.heap.size (fun k_ => (P0_ k_ ∨ w.heap.size ≤ k_)) (.slice (some ⟨go8, 0, none⟩) x0_1.length co8) y109 := (by rw [hw, Ny109.out]; exact HP9.1); clear HP9; have n0_ := Aside0.mk (hp_); have n1_ := Aside0.mk ((by rw [hw]; exact below_set (HB.out) GB8.out : Below w0.heap.size w0 w10)); have n2_ := Aside0.mk (Kept.of_grown (S := (fun k_ => P0_ k_)) hg (by repeat (first | (with_reducible first | exact HK.out | apply Kept.alloc | apply Kept.drewN | apply Kept.drew) | exact HK.out)) (fun k_ e_ => (HO_0.out.1 k_ e_))); clear HO_0; clear HB; clear HK; have HO_0 := n0_; have HB := n1_; have HK := n2_; clear n0_ n1_ n2_; clear hg hw hp_))
            go_roundg k1
            case measure => have := HK1.out; omega
            case rel => exact ⟨(y109), (wrap64 (x8_1 + 1)), (by first | rfl | (simp; done) | (simp [*]; done)), H', ⟨by have := HK1.out; omega⟩, ⟨by (with_reducible repeat (first | apply Kd.R_alloc | apply Kd.R_drewN | apply Kd.R_drew)); exact HO_0.out⟩, ⟨by repeat (first | (with_reducible first | exact HK.out | apply Kept.alloc | apply Kept.drewN | apply Kept.drew) | exact HK.out)⟩, ⟨by repeat (first | (with_reducible first | exact HB.out | apply below_alloc | apply pw_below_drewN | apply below_drew1) | exact HB.out)⟩⟩
          · rw [if_neg c7] at H
            exact absurd H (by simp)
        · rw [if_neg c6] at H
          exact absurd H (by simp)
      · rw [if_neg c5] at H
        have c5b0 : decide (x8_1 < a2) = false := decide_eq_false c5
        clear c5
        obtain rfl := Option.some.inj H
        go_wp2
        first | go_end0 | ((try simp only [Exit.inBlock, Exit.then]); refine bodyPost_ret (results_none rfl _ _ _) rfl ?_)
        exact ⟨by first | rfl | (simp [errW_none, errW_some] <;> rfl) | (simp [*, errW_none, errW_some] <;> rfl), by (with_reducible repeat (first | apply Kd.R_alloc | apply Kd.R_drewN | apply Kd.R_drew)); exact HO_0.out, by repeat (first | (with_reducible first | exact HB.out | apply below_alloc | apply pw_below_drewN | apply below_drew1) | exact HB.out), by repeat (first | (with_reducible first | exact HK.out | apply Kept.alloc | apply Kept.drewN | apply Kept.drew) | exact HK.out)⟩

/-! ### quicksetref_spaceNow_is: function 77 -/
def quicksetref_spaceNow_is.l0 : Nat → List Int → Int → Int → Int → Option (Bool)
  | 0, _, _, _, _ => none
  | k + 1, x0, x2, x3, x9 => if x9 < x2 then (if 0 ≤ x9 then (if x9 < (x0.length : Int) then (if (rd x0 x9) = x3 then (quicksetref_spaceNow_is.l0 k x0 x2 x3 (wrap64 (x9 + 1))) else (some false)) else (none)) else (none)) else (some true)
def quicksetref_spaceNow_is.f (k : Nat) (l0 : List Int) (a1 : Int) (a2 : Int) (a3 : Int) : Option (Bool) := quicksetref_spaceNow_is.l0 k l0 a2 a3 a1
theorem quicksetref_spaceNow_is.mono_l : ∀ k, (∀ y0 y1 y2 y3, LeO (quicksetref_spaceNow_is.l0 k y0 y1 y2 y3) (quicksetref_spaceNow_is.l0 (k + 1) y0 y1 y2 y3))
  | 0 => fun _ _ _ _ r h => by simp [quicksetref_spaceNow_is.l0] at h
  | k + 1 => by
    have ih0 := quicksetref_spaceNow_is.mono_l k
    · intro y0 y1 y2 y3
      unfold quicksetref_spaceNow_is.l0
      repeat' first
      | (with_reducible exact ih0 _ _ _ _)
      | (with_reducible exact LeO.refl _)
      | (with_reducible exact LeO.none _)
      | (with_reducible refine LeO.ite ?_ ?_)
      | (with_reducible refine LeO.bind ?_ (fun _ => ?_))
      | exact ih0 _ _ _ _
      | exact LeO.none _
      | refine LeO.ite ?_ ?_
      | refine LeO.bind ?_ (fun _ => ?_)
theorem quicksetref_spaceNow_is.mono : ∀ a0 a1 a2 a3 k, LeO (quicksetref_spaceNow_is.f k a0 a1 a2 a3) (quicksetref_spaceNow_is.f (k + 1) a0 a1 a2 a3) := by
  intro a0 a1 a2 a3 k
  have ih0 := quicksetref_spaceNow_is.mono_l k
  unfold quicksetref_spaceNow_is.f
  repeat' first
      | (with_reducible exact ih0 _ _ _ _)
      | (with_reducible exact LeO.refl _)
      | (with_reducible exact LeO.none _)
      | (with_reducible refine LeO.ite ?_ ?_)
      | (with_reducible refine LeO.bind ?_ (fun _ => ?_))
      | exact ih0 _ _ _ _
      | exact LeO.none _
      | refine LeO.ite ?_ ?_
      | refine LeO.bind ?_ (fun _ => ?_)
set_option maxHeartbeats 8000000 in
set_option maxRecDepth 100000 in
theorem quicksetref_spaceNow_is.calls (k : Nat) (A0 : Option Addr) (c0 : Nat) (l0 : List Int) (a1 : Int) (a2 : Int) (a3 : Int) (r : Bool) (w : World) (hr0 : Kd.C (Kd.int .i64) w A0 l0.length l0) (hc0 : l0.length ≤ c0) (h : quicksetref_spaceNow_is.f k l0 a1 a2 a3 = some r) :
    Calls Try.prog 77 #[.slice A0 l0.length c0, .int .i64 a1, .int .i64 a2, .int .i64 a3] w fun e w' => e = .returned (.bool r) ∧ Drawn0 w w' := by
  have HR0 := Aside0.mk hr0
  have HC0 := Aside0.mk hc0
  clear hr0 hc0
  have H : (quicksetref_spaceNow_is.l0 k l0 a2 a3 a1) = some r := h
  clear h
  have H' := Aside0.mk H
  clear H
  go_enter Try.func77, Try.ntmps77
  go_wp2
  go_loopg [9] k (fun kq v9 w' => ∃ (x9_1 : Int), v9 = .int .i64 x9_1 ∧ Aside0 (quicksetref_spaceNow_is.l0 kq l0 a2 a3 x9_1 = some r) ∧ Aside0 (kq ≤ k) ∧ Drawn0 w w')
  case atStart => exact ⟨(a1), (by first | rfl | (simp; done) | (simp [*]; done)), H', ⟨Nat.le_refl _⟩, by repeat (first | exact Drawn0.refl _ | apply Drawn0.step)⟩
  case round =>
    clear H'
    try clear p2
    obtain ⟨x9_1, rfl, HA, HK1, ⟨m1, rfl⟩⟩ := hrel
    cases gk with
    | zero => exact absurd HA.out (by simp [quicksetref_spaceNow_is.l0])
    | succ k1 =>
      have H := HA.out
      clear HA
      simp only [quicksetref_spaceNow_is.l0] at H
      by_cases c5 : x9_1 < a2
      · rw [if_pos c5] at H
        have c5b0 : decide (x9_1 < a2) = true := decide_eq_true c5
        clear c5
        by_cases c6 : 0 ≤ x9_1
        · rw [if_pos c6] at H
          have c6b0 : decide (0 ≤ x9_1) = true := decide_eq_true c6
          clear c6
          by_cases c7 : x9_1 < (l0.length : Int)
          · rw [if_pos c7] at H
            have c7b0 : decide (x9_1 < (l0.length : Int)) = true := decide_eq_true c7
            clear c7
            by_cases c8 : (rd l0 x9_1) = a3
            · rw [if_pos c8] at H
              have c8b0 : ((rd l0 x9_1) == a3) = true := beq_iff_eq.mpr c8
              have c8b1 : ((rd l0 x9_1) != a3) = false := bne_eq_false_iff_eq.mpr c8
              clear c8
              have H' := Aside0.mk H
              clear H
              have p110 : 0 ≤ (x9_1 : Int) := of_decide_eq_true (by first | (with_reducible assumption) | assumption)
              have q110 : x9_1 < (l0.length : Int) := of_decide_eq_true (by first | (with_reducible assumption) | assumption)
              obtain ⟨ad110, e110, hx110_0⟩ := Kd.at_int HR0.out x9_1 p110 q110
              cases e110
              replace p110 := eq_true p110
              replace q110 := eq_true q110
              go_wp2
              go_roundg k1
              case measure => have := HK1.out; omega
              case rel => exact ⟨(wrap64 (x9_1 + 1)), (by first | rfl | (simp; done) | (simp [*]; done)), H', ⟨by have := HK1.out; omega⟩, by repeat (first | exact Drawn0.refl _ | apply Drawn0.step)⟩
            · rw [if_neg c8] at H
              have c8b0 : ((rd l0 x9_1) == a3) = false := beq_eq_false_iff_ne.mpr c8
              have c8b1 : ((rd l0 x9_1) != a3) = true := bne_iff_ne.mpr c8
              obtain rfl := Option.some.inj H
              have p110 : 0 ≤ (x9_1 : Int) := of_decide_eq_true (by first | (with_reducible assumption) | assumption)
              have q110 : x9_1 < (l0.length : Int) := of_decide_eq_true (by first | (with_reducible assumption) | assumption)
              obtain ⟨ad110, e110, hx110_0⟩ := Kd.at_int HR0.out x9_1 p110 q110
              cases e110
              replace p110 := eq_true p110
              replace q110 := eq_true q110
              go_wp2
              go_ret
              exact ⟨by first | rfl | (simp; done) | (simp [*]; done), by repeat (first | exact Drawn0.refl _ | apply Drawn0.step)⟩
          · rw [if_neg c7] at H
            exact absurd H (by simp)
        · rw [if_neg c6] at H
          exact absurd H (by simp)
      · rw [if_neg c5] at H
        have c5b0 : decide (x9_1 < a2) = false := decide_eq_false c5
        clear c5
        obtain rfl := Option.some.inj H
        go_wp2
        go_ret
        exact ⟨by first | rfl | (simp; done) | (simp [*]; done), by repeat (first | exact Drawn0.refl _ | apply Drawn0.step)⟩

/-! ### quicksetref_RangeMay: function 86 -/
def quicksetref_RangeMay.f (a0_0 : Int) (a0_1 : Int) : Option (Bool) := if 0 ≤ a0_0 then (if a0_0 < a0_1 then (some (decide (a0_1 ≤ 1048576))) else (some false)) else (some false)
set_option maxHeartbeats 8000000 in
set_option maxRecDepth 100000 in
theorem quicksetref_RangeMay.calls (a0_0 : Int) (a0_1 : Int) (r : Bool) (w : World) (h : quicksetref_RangeMay.f a0_0 a0_1 = some r) :
    Calls Try.prog 86 #[.agg #[.int .i64 a0_0, .int .i64 a0_1]] w fun e w' => e = .returned (.bool r) ∧ Below w.heap.size w w' := by
  have hu79 := Try.underlying79
  have HB := Aside0.mk (Below.refl w.heap.size w)
  have H : (if 0 ≤ a0_0 then (if a0_0 < a0_1 then (some (decide (a0_1 ≤ 1048576))) else (some false)) else (some false)) = some r := h
  clear h
  by_cases c2 : 0 ≤ a0_0
  · rw [if_pos c2] at H
    have c2b0 : decide (0 ≤ a0_0) = true := decide_eq_true c2
    clear c2
    by_cases c3 : a0_0 < a0_1
    · rw [if_pos c3] at H
      have c3b0 : decide (a0_0 < a0_1) = true := decide_eq_true c3
      clear c3
      obtain rfl := Option.some.inj H
      go_enter Try.func86, Try.ntmps86
      go_wp2_with (first | ((with_reducible refine gate_dst (N := 1) rfl ?_); refine box_event ?hg (N := 1) ?hd (cs := #[.int .i64 a0_0, .int .i64 a0_1]) (t := 79) ?hr ?_; (case hd => rfl); (case hg => rfl); (case hr => first | (go_simp; done) | (go_simp; rfl)); intro gb111 hg w4 hbox hb; have n0_ := Aside0.mk (below_step (by repeat (first | (with_reducible first | exact HB.out | apply below_alloc | apply pw_below_drewN | apply below_drew1) | exact HB.out)) hb); have n1_ := Aside0.mk (hbox); have n2_ := Aside0.mk ((by rw [hg]; exact (below_size (by repeat (first | (with_reducible first | exact HB.out | apply below_alloc | apply pw_below_drewN | apply below_drew1) | exact HB.out))) : w.heap.size ≤ gb111)); have n3_ := Aside0.mk ((by rw [hg]; exact (below_size (by repeat (first | (with_reducible first | exact HB.out | apply below_alloc | apply pw_below_drewN | apply below_drew1) | exact HB.out))) : w.heap.size ≤ gb111)); clear HB; have HB := n0_; have BK111 := n1_; have GW111 := n2_; have GE111 := n3_; clear n0_ n1_ n2_ n3_; clear hb hbox hg; have hcz5_0 : w4.cell? ⟨gb111, 0, none⟩ = some (.int .i64 a0_0) := (blk_cell BK111.out 0).trans rfl; have hcz5_1 : w4.cell? ⟨gb111, 1, none⟩ = some (.int .i64 a0_1) := (blk_cell BK111.out 1).trans rfl; have hfz5_0 := blk_frozen BK111.out 0; have hfz5_1 := blk_frozen BK111.out 1))
      go_ret
      exact ⟨by first | rfl | (simp [errW_none, errW_some] <;> rfl) | (simp [*, errW_none, errW_some] <;> rfl), by repeat (first | (with_reducible first | exact HB.out | apply below_alloc | apply pw_below_drewN | apply below_drew1 | refine below_set ?_ GE111.out) | exact HB.out)⟩
    · rw [if_neg c3] at H
      have c3b0 : decide (a0_0 < a0_1) = false := decide_eq_false c3
      clear c3
      obtain rfl := Option.some.inj H
      go_enter Try.func86, Try.ntmps86
      go_wp2_with (first | ((with_reducible refine gate_dst (N := 1) rfl ?_); refine box_event ?hg (N := 1) ?hd (cs := #[.int .i64 a0_0, .int .i64 a0_1]) (t := 79) ?hr ?_; (case hd => rfl); (case hg => rfl); (case hr => first | (go_simp; done) | (go_simp; rfl)); intro gb111 hg w6 hbox hb; have n0_ := Aside0.mk (below_step (by repeat (first | (with_reducible first | exact HB.out | apply below_alloc | apply pw_below_drewN | apply below_drew1) | exact HB.out)) hb); have n1_ := Aside0.mk (hbox); have n2_ := Aside0.mk ((by rw [hg]; exact (below_size (by repeat (first | (with_reducible first | exact HB.out | apply below_alloc | apply pw_below_drewN | apply below_drew1) | exact HB.out))) : w.heap.size ≤ gb111)); have n3_ := Aside0.mk ((by rw [hg]; exact (below_size (by repeat (first | (with_reducible first | exact HB.out | apply below_alloc | apply pw_below_drewN | apply below_drew1) | exact HB.out))) : w.heap.size ≤ gb111)); clear HB; have HB := n0_; have BK111 := n1_; have GW111 := n2_; have GE111 := n3_; clear n0_ n1_ n2_ n3_; clear hb hbox hg; have hcz7_0 : w6.cell? ⟨gb111, 0, none⟩ = some (.int .i64 a0_0) := (blk_cell BK111.out 0).trans rfl; have hcz7_1 : w6.cell? ⟨gb111, 1, none⟩ = some (.int .i64 a0_1) := (blk_cell BK111.out 1).trans rfl; have hfz7_0 := blk_frozen BK111.out 0; have hfz7_1 := blk_frozen BK111.out 1))
      go_ret
      exact ⟨by first | rfl | (simp [errW_none, errW_some] <;> rfl) | (simp [*, errW_none, errW_some] <;> rfl), by repeat (first | (with_reducible first | exact HB.out | apply below_alloc | apply pw_below_drewN | apply below_drew1 | refine below_set ?_ GE111.out) | exact HB.out)⟩
  · rw [if_neg c2] at H
    have c2b0 : decide (0 ≤ a0_0) = false := decide_eq_false c2
    clear c2
    obtain rfl := Option.some.inj H
    go_enter Try.func86, Try.ntmps86
    go_wp2_with (first | ((with_reducible refine gate_dst (N := 1) rfl ?_); refine box_event ?hg (N := 1) ?hd (cs := #[.int .i64 a0_0, .int .i64 a0_1]) (t := 79) ?hr ?_; (case hd => rfl); (case hg => rfl); (case hr => first | (go_simp; done) | (go_simp; rfl)); intro gb111 hg w8 hbox hb; have n0_ := Aside0.mk (below_step (by repeat (first | (with_reducible first | exact HB.out | apply below_alloc | apply pw_below_drewN | apply below_drew1) | exact HB.out)) hb); have n1_ := Aside0.mk (hbox); have n2_ := Aside0.mk ((by rw [hg]; exact (below_size (by repeat (first | (with_reducible first | exact HB.out | apply below_alloc | apply pw_below_drewN | apply below_drew1) | exact HB.out))) : w.heap.size ≤ gb111)); have n3_ := Aside0.mk ((by rw [hg]; exact (below_size (by repeat (first | (with_reducible first | exact HB.out | apply below_alloc | apply pw_below_drewN | apply below_drew1) | exact HB.out))) : w.heap.size ≤ gb111)); clear HB; have HB := n0_; have BK111 := n1_; have GW111 := n2_; have GE111 := n3_; clear n0_ n1_ n2_ n3_; clear hb hbox hg; have hcz9_0 : w8.cell? ⟨gb111, 0, none⟩ = some (.int .i64 a0_0) := (blk_cell BK111.out 0).trans rfl; have hcz9_1 : w8.cell? ⟨gb111, 1, none⟩ = some (.int .i64 a0_1) := (blk_cell BK111.out 1).trans rfl; have hfz9_0 := blk_frozen BK111.out 0; have hfz9_1 := blk_frozen BK111.out 1))
    go_ret
    exact ⟨by first | rfl | (simp [errW_none, errW_some] <;> rfl) | (simp [*, errW_none, errW_some] <;> rfl), by repeat (first | (with_reducible first | exact HB.out | apply below_alloc | apply pw_below_drewN | apply below_drew1 | refine below_set ?_ GE111.out) | exact HB.out)⟩

/-! ### quicksetref_flag: function 112 -/
def quicksetref_flag.f (a0 : Bool) : Option (Int) := if a0 = true then (some 1) else (some 0)
set_option maxHeartbeats 8000000 in
set_option maxRecDepth 100000 in
theorem quicksetref_flag.calls (a0 : Bool) (r : Int) (w : World) (h : quicksetref_flag.f a0 = some r) :
    Calls Try.prog 112 #[.bool a0] w fun e w' => e = .returned (.int .i64 r) ∧ Drawn0 w w' := by
  have H : (if a0 = true then (some 1) else (some 0)) = some r := h
  clear h
  by_cases c2 : a0 = true
  · subst c2
    have H1 : (some 1) = some r := by rw [if_pos rfl] at H; exact H
    clear H
    have H := H1
    clear H1
    obtain rfl := Option.some.inj H
    go_enter Try.func112, Try.ntmps112
    go_wp2
    go_ret
    exact ⟨by first | rfl | (simp; done) | (simp [*]; done), by repeat (first | exact Drawn0.refl _ | apply Drawn0.step)⟩
  · replace c2 := Bool.eq_false_iff.mpr c2
    subst c2
    have H1 : (some 0) = some r := by rw [if_neg (show ¬ (false = true) by decide)] at H; exact H
    clear H
    have H := H1
    clear H1
    obtain rfl := Option.some.inj H
    go_enter Try.func112, Try.ntmps112
    go_wp2
    go_ret
    exact ⟨by first | rfl | (simp; done) | (simp [*]; done), by repeat (first | exact Drawn0.refl _ | apply Drawn0.step)⟩

end Go.Proofs.Ythnchojddoefiaa.QSpaceCondenses
