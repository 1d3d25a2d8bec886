/- Printed from a stub by wip/stub.py with the kit's print.py, then turned by hand. -/
import Derived.Test.YtpaenlplpaabjaaQMatAppliesx0
import Derived.Test.YtpaenlplpaabjaaQMatAppliesx1
namespace Go.Proofs.Ytpaenlplpaabjaa.QMatApplies
open Go.RowKit Go.Proofs.YtpaenlplpaabjaaW.PrintWords Go.Proofs.YtpaenlplpaabjaaW.PrintLast Go.Proofs.YtpaenlplpaabjaaW.PrintMore
attribute [local go_sem] max2_int min2_int max_two min_two max_three min_three max_four min_four   -- for this text's walks alone
set_option linter.unusedVariables false
set_option linter.unusedSimpArgs false

/-! ### mat_Apply: function 15 -/
def mat_Apply.dotO (k : Nat) (p : Nat → Int × Int) : Nat → Option Int
  | 0 => some 0
  | n + 1 => (mat_Apply.dotO k p n).bind fun a => (mat_times.f k (p n).1 (p n).2).bind fun t => some (Go.bits .xor .i64 a t)
theorem mat_Apply.dotO_mono (k : Nat) (p : Nat → Int × Int) : ∀ n, LeO (mat_Apply.dotO k p n) (mat_Apply.dotO (k + 1) p n)
  | 0 => LeO.refl _
  | n + 1 => by
    unfold mat_Apply.dotO
    exact LeO.bind (mat_Apply.dotO_mono k p n) (fun _ => LeO.bind (mat_times.mono _ _ _) (fun _ => LeO.refl _))
theorem mat_Apply.dotO_some {k : Nat} {p : Nat → Int × Int} : ∀ {n : Nat} {x : Int}, mat_Apply.dotO k p n = some x → ∀ i, i < n → ∃ a t, mat_Apply.dotO k p i = some a ∧ mat_times.f k (p i).1 (p i).2 = some t ∧ mat_Apply.dotO k p (i + 1) = some (Go.bits .xor .i64 a t)
  | 0, _, _, i, hi => absurd hi (Nat.not_lt_zero _)
  | n + 1, x, h, i, hi => by
    have h' := h
    unfold mat_Apply.dotO at h
    obtain ⟨a, ha, h2⟩ := Option.bind_eq_some_iff.mp h
    obtain ⟨t, ht, h3⟩ := Option.bind_eq_some_iff.mp h2
    rcases Nat.lt_or_ge i n with hlt | hge
    · exact mat_Apply.dotO_some ha i hlt
    · obtain rfl : i = n := by omega
      exact ⟨a, t, ha, ht, h'.trans h3.symm⟩
set_option maxHeartbeats 1000000 in
theorem mat_Apply.dot (k n : Nat) (p : Nat → Int × Int) (x : Int) (B1 B2 : Nat) (w : World) (hn : n ≤ 1048576) (h : mat_Apply.dotO k p n = some x)
    (hcl : ∀ j : Nat, j < n → ∀ W : World, Below w.heap.size w W → Calls Try.prog 43 #[.int .i64 (j : Int), .pointer (some ⟨B1, 0, none⟩), .pointer (some ⟨B2, 0, none⟩)] W fun e W' => e = .returned (.tuple #[.int .i64 (p j).1, .int .i64 (p j).2]) ∧ Drawn0 W W') :
    Calls Try.prog 42 #[.int .i64 (n : Int), .func (.func 43) #[] #[.pointer (some ⟨B1, 0, none⟩), .pointer (some ⟨B2, 0, none⟩)]] w fun e w' => e = .returned (.int .i64 x) ∧ Below w.heap.size w w' := by
  have HH := Aside0.mk h
  have HC := Aside0.mk hcl
  clear h hcl
  go_enter Try.func42, Try.ntmps42
  go_wp2_with (fail)
  go_loopg [5, 6, 8] n (fun kq v5 v6 v8 wr => ∃ (j : Nat) (a : Int), v8 = .int .i64 (j : Int) ∧ v5 = .int .i64 a ∧ j ≤ n ∧ n ≤ j + kq ∧ Aside0 (mat_Apply.dotO k p j = some a) ∧ Aside0 (Below w.heap.size w wr))
  case atStart => exact ⟨0, 0, rfl, rfl, Nat.zero_le _, by omega, ⟨rfl⟩, ⟨Below.refl _ _⟩⟩
  case round =>
    obtain ⟨j, a, rfl, rfl, hj, hk, HA, HB⟩ := hrel
    by_cases hlt : j < n
    · obtain ⟨a', t, ha, ht, hs⟩ := mat_Apply.dotO_some HH.out j hlt
      obtain rfl : a = a' := Option.some.inj (HA.out.symm.trans ha)
      have HT := Aside0.mk ht
      have HS := Aside0.mk hs
      have hc := HC.out j hlt wr HB.out
      clear ha ht hs HA
      go_wp2_with (first | (go_at_call 43; refine hc.mono ?_; rintro e w1 ⟨rfl, ⟨nd, rfl⟩⟩) | (go_at_call 79; refine (mat_times.calls k _ _ t _ HT.out).mono ?_; rintro e w2 ⟨rfl, hb2⟩))
      go_roundg (gk - 1)
      case measure => omega
      case rel => exact ⟨j + 1, _, by go_num, rfl, by omega, by omega, HS, ⟨(pw_below_drewN HB.out _).trans (hb2.mono (pw_below_drewN HB.out _).size)⟩⟩
    · obtain rfl : j = n := by omega
      obtain rfl : a = x := Option.some.inj (HA.out.symm.trans HH.out)
      go_wp2_with (fail)
      go_ret
      exact ⟨rfl, HB.out⟩
def mat_Apply.pr (r v : List Int) (j : Nat) : Int × Int := (rd r (j : Int), rd v (j : Int))
def mat_Apply.rowsO (k : Nat) (m : List (List Int)) (v : List Int) : Nat → Option (List Int)
  | 0 => some []
  | n + 1 => (mat_Apply.rowsO k m v n).bind fun l => if (rd_L1 m (n : Int)).length = v.length then (mat_Apply.dotO k (mat_Apply.pr (rd_L1 m (n : Int)) v) v.length).bind fun x => some (l ++ [x]) else none
theorem mat_Apply.rowsO_mono (k : Nat) (m : List (List Int)) (v : List Int) : ∀ n, LeO (mat_Apply.rowsO k m v n) (mat_Apply.rowsO (k + 1) m v n)
  | 0 => LeO.refl _
  | n + 1 => by
    unfold mat_Apply.rowsO
    exact LeO.bind (mat_Apply.rowsO_mono k m v n) (fun _ => LeO.ite (LeO.bind (mat_Apply.dotO_mono _ _ _) (fun _ => LeO.refl _)) (LeO.none _))
theorem mat_Apply.rowsO_len {k : Nat} {m : List (List Int)} {v : List Int} : ∀ {n : Nat} {l : List Int}, mat_Apply.rowsO k m v n = some l → l.length = n
  | 0, l, h => by simp [mat_Apply.rowsO] at h; simp [h]
  | n + 1, l, h => by
    unfold mat_Apply.rowsO at h
    obtain ⟨l', h1, h⟩ := Option.bind_eq_some_iff.mp h
    split at h
    · obtain ⟨x, _, h⟩ := Option.bind_eq_some_iff.mp h
      obtain rfl := Option.some.inj h
      simp [mat_Apply.rowsO_len h1]
    · cases h
theorem mat_Apply.rowsO_some {k : Nat} {m : List (List Int)} {v : List Int} : ∀ {n : Nat} {l : List Int}, mat_Apply.rowsO k m v n = some l → ∀ i, i < n → ∃ l' x, mat_Apply.rowsO k m v i = some l' ∧ (rd_L1 m (i : Int)).length = v.length ∧ mat_Apply.dotO k (mat_Apply.pr (rd_L1 m (i : Int)) v) v.length = some x ∧ mat_Apply.rowsO k m v (i + 1) = some (l' ++ [x])
  | 0, _, _, i, hi => absurd hi (Nat.not_lt_zero _)
  | n + 1, l, h, i, hi => by
    have h' := h
    unfold mat_Apply.rowsO at h
    obtain ⟨l', h1, h⟩ := Option.bind_eq_some_iff.mp h
    by_cases hc : (rd_L1 m (n : Int)).length = v.length
    · rw [if_pos hc] at h
      obtain ⟨x, hx, h3⟩ := Option.bind_eq_some_iff.mp h
      rcases Nat.lt_or_ge i n with hlt | hge
      · exact mat_Apply.rowsO_some h1 i hlt
      · obtain rfl : i = n := by omega
        exact ⟨l', x, h1, hc, hx, h'.trans h3.symm⟩
    · rw [if_neg hc] at h
      cases h
def mat_Apply.f (k : Nat) (m : List (List Int)) (v : List Int) : Option (List Int × Int) :=
  (mat_May.f k m).bind fun a => if a = true then (mat_all.f k v).bind fun b => (if b = true then (if 0 < m.length then (if (rd_L1 m 0).length = v.length then (if m.length ≤ 1048576 ∧ v.length ≤ 1048576 then (mat_Apply.rowsO k m v m.length).bind fun l => some (l, 0) else none) else some (([] : List Int), 1)) else none) else some (([] : List Int), 4)) else some (([] : List Int), 4)
theorem mat_Apply.mono : ∀ a0 a1 k, LeO (mat_Apply.f k a0 a1) (mat_Apply.f (k + 1) a0 a1) := by
  intro a0 a1 k
  unfold mat_Apply.f
  exact LeO.bind (mat_May.mono _ _) (fun _ => LeO.ite (LeO.bind (mat_all.mono _ _) (fun _ => LeO.ite (LeO.ite (LeO.ite (LeO.ite (LeO.bind (mat_Apply.rowsO_mono _ _ _ _) (fun _ => LeO.refl _)) (LeO.none _)) (LeO.refl _)) (LeO.none _)) (LeO.refl _))) (LeO.refl _))
set_option maxHeartbeats 400000 in
theorem mat_Apply.clo (B1 B2 : Nat) (A1 A2 : Option Addr) (c1 c2 : Nat) (r v : List Int) (i : Int) (w : World) (h1 : w.cell? ⟨B1, 0, none⟩ = some (.slice A1 r.length c1)) (h2 : w.cell? ⟨B2, 0, none⟩ = some (.slice A2 v.length c2))
    (hr : Kd.C (Kd.int .i64) w A1 r.length r) (hv : Kd.C (Kd.int .i64) w A2 v.length v) (h0 : 0 ≤ i) (hi1 : i < (r.length : Int)) (hi2 : i < (v.length : Int)) :
    Calls Try.prog 43 #[.int .i64 i, .pointer (some ⟨B1, 0, none⟩), .pointer (some ⟨B2, 0, none⟩)] w fun e w' => e = .returned (.tuple #[.int .i64 (rd r i), .int .i64 (rd v i)]) ∧ Drawn0 w w' := by
  obtain ⟨ad1, e1, hx1⟩ := Kd.at_int hr i h0 hi1
  obtain ⟨ad2, e2, hx2⟩ := Kd.at_int hv i h0 hi2
  subst e1 e2
  clear hr hv
  have p0 := decide_eq_true h0
  have p1 := decide_eq_true hi1
  have p2 := decide_eq_true hi2
  go_enter Try.func43, Try.ntmps43
  go_wp2_with (fail)
  go_quiet (fail)
  go_wp2_with (fail)
  go_ret2
  exact ⟨rfl, ⟨_, rfl⟩⟩
set_option maxHeartbeats 2000000 in
theorem mat_Apply.calls (k : Nat) (A0 : Option Addr) (c0 : Nat) (l0 : List (List Int)) (A1 : Option Addr) (c1 : Nat) (l1 : List Int) (r1 : List Int) (r2 : Int) (w : World) (hr0 : Kd.C (Kd.slice 3 (Kd.int .i64)) w A0 l0.length l0) (hc0 : l0.length ≤ c0) (hr1 : Kd.C (Kd.int .i64) w A1 l1.length l1) (hc1 : l1.length ≤ c1) (h : mat_Apply.f k l0 l1 = some (r1, r2)) :
    Calls Try.prog 15 #[.slice A0 l0.length c0, .slice A1 l1.length c1] w fun e w' => ∃ v0_ : Value, e = .returned (.tuple #[v0_, .int .i64 r2]) ∧ Kd.R (Kd.int .i64) 3 w' w.heap.size (fun _ => True) v0_ r1 ∧ Below w.heap.size w w' := by
  have HR0 := Aside0.mk hr0
  have HR1 := Aside0.mk hr1
  have HC0 := Aside0.mk hc0
  have HC1 := Aside0.mk hc1
  clear hr0 hr1 hc0 hc1
  have HB := Aside0.mk (below_alloc (Below.refl w.heap.size w) (.cells #[.slice A1 l1.length c1] 28))
  unfold mat_Apply.f at h
  obtain ⟨t, ht, h⟩ := Option.bind_eq_some_iff.mp h
  have HT := Aside0.mk ht
  clear ht
  cases t with
  | false =>
    replace h := Option.some.inj h
    simp only [Prod.mk.injEq] at h
    obtain ⟨rfl, rfl⟩ := h
    go_enter Try.func15, Try.ntmps15
    go_wp2_with (go_at_call 40; refine (mat_May.calls k A0 c0 l0 false _ (Kd.C_alloc HR0.out _) HC0.out HT.out).mono ?_; rintro e w1 ⟨rfl, ⟨nd, rfl⟩⟩)
    go_ret2
    exact ⟨_, rfl, Kd.R_nil _ _ _ _ _, (by repeat (first | (with_reducible first | exact HB.out | apply below_alloc | apply pw_below_drewN | apply below_drew1) | exact HB.out))⟩
  | true =>
    replace h : ((mat_all.f k l1).bind fun b => (if b = true then (if 0 < l0.length then (if (rd_L1 l0 0).length = l1.length then (if l0.length ≤ 1048576 ∧ l1.length ≤ 1048576 then (mat_Apply.rowsO k l0 l1 l0.length).bind fun l => some (l, 0) else none) else some (([] : List Int), 1)) else none) else some (([] : List Int), 4))) = some (r1, r2) := h
    obtain ⟨t2, ht2, h⟩ := Option.bind_eq_some_iff.mp h
    have HT2 := Aside0.mk ht2
    clear ht2
    cases t2 with
    | false =>
      replace h := Option.some.inj h
      simp only [Prod.mk.injEq] at h
      obtain ⟨rfl, rfl⟩ := h
      go_enter Try.func15, Try.ntmps15
      go_wp2_with (first | (go_at_call 40; refine (mat_May.calls k A0 c0 l0 true _ (Kd.C_alloc HR0.out _) HC0.out HT.out).mono ?_; rintro e w1 ⟨rfl, ⟨nd, rfl⟩⟩) | (go_at_call 41; refine (mat_all.calls k A1 c1 l1 false _ (Kd.C_drewN (Kd.C_alloc HR1.out _) _) HC1.out HT2.out).mono ?_; rintro e w2 ⟨rfl, ⟨nd2, rfl⟩⟩))
      go_ret2
      exact ⟨_, rfl, Kd.R_nil _ _ _ _ _, (by repeat (first | (with_reducible first | exact HB.out | apply below_alloc | apply pw_below_drewN | apply below_drew1) | exact HB.out))⟩
    | true =>
      replace h : (if 0 < l0.length then (if (rd_L1 l0 0).length = l1.length then (if l0.length ≤ 1048576 ∧ l1.length ≤ 1048576 then (mat_Apply.rowsO k l0 l1 l0.length).bind fun l => some (l, 0) else none) else some (([] : List Int), 1)) else none) = some (r1, r2) := h
      by_cases hg0 : 0 < l0.length
      · rw [if_pos hg0] at h
        obtain ⟨ad, A2, c2, e2, hx, hl2, hr2⟩ := at_L1 HR0.out 0 (Int.le_refl 0) (by omega)
        subst e2
        replace hx : w.cell? ad = some (.slice A2 (rd_L1 l0 0).length c2) := hx
        have HX := Aside0.mk hx
        clear hx hr2
        have q0 : decide ((0 : Int) < (l0.length : Int)) = true := decide_eq_true (by omega)
        have hx := (HB.out.cell (World.block_lt_of_cell? w _ HX.out)).trans HX.out
        by_cases hlen : (rd_L1 l0 0).length = l1.length
        · rw [if_pos hlen] at h
          obtain ⟨hg1, hg2, h⟩ : l0.length ≤ 1048576 ∧ l1.length ≤ 1048576 ∧ ((mat_Apply.rowsO k l0 l1 l0.length).bind fun l => some (l, (0 : Int))) = some (r1, r2) := by
            by_cases hg : l0.length ≤ 1048576 ∧ l1.length ≤ 1048576
            · rw [if_pos hg] at h
              exact ⟨hg.1, hg.2, h⟩
            · rw [if_neg hg] at h
              cases h
          obtain ⟨l, hl, h⟩ := Option.bind_eq_some_iff.mp h
          simp only [Option.some.injEq, Prod.mk.injEq] at h
          obtain ⟨rfl, rfl⟩ := h
          have HL := Aside0.mk hl
          clear hl
          have HN := Aside0.mk hlen
          have z0 : ((rd_L1 l0 0).length : Int) = (l1.length : Int) := by omega
          have z1 : (((rd_L1 l0 0).length : Int) != (l1.length : Int)) = false := by simp; omega
          have z2 : ((rd_L1 l0 0).length != l1.length) = false := by simp; omega
          have Z := Aside0.mk z0
          clear z0 hlen
          go_enter Try.func15, Try.ntmps15
          go_wp2_with (first | (go_at_call 40; refine (mat_May.calls k (some ad) c0 l0 true _ (Kd.C_alloc HR0.out _) HC0.out HT.out).mono ?_; rintro e w1 ⟨rfl, ⟨nd, rfl⟩⟩) | (go_at_call 41; refine (mat_all.calls k A1 c1 l1 true _ (Kd.C_drewN (Kd.C_alloc HR1.out _) _) HC1.out HT2.out).mono ?_; rintro e w2 ⟨rfl, ⟨nd2, rfl⟩⟩))
          go_quiet (fail)
          go_wp2_with (fail)
          obtain ⟨W0, hW0⟩ : ∃ W0, W0 = w.alloc (.cells #[.slice A1 l1.length c1] 28) := ⟨_, rfl⟩
          have HS0 := Aside0.mk (show W0.heap.size = w.heap.size + 1 by rw [hW0]; simp)
          have HX0 := Aside0.mk (show W0.cell? ⟨w.heap.size, 0, none⟩ = some (.slice A1 l1.length c1) by rw [hW0]; go_simp)
          have HB0 := Aside0.mk (show Below w.heap.size w W0 by rw [hW0]; exact HB.out)
          have HW0 := Aside0.mk hW0
          clear hW0
          go_loopg [6, 8, 26] l0.length (fun kq v6 v8 v26 wr => ∃ (j : Nat) (x6 : List Int), v26 = .int .i64 (j : Int) ∧ j ≤ l0.length ∧ l0.length ≤ j + kq ∧ Aside0 (mat_Apply.rowsO k l0 l1 j = some x6) ∧ Aside0 (Kd.R (Kd.int .i64) 3 wr W0.heap.size (fun _ => True) v6 x6) ∧ Aside0 (Below W0.heap.size W0 wr))
          case atStart => exact ⟨0, [], rfl, Nat.zero_le _, by omega, ⟨rfl⟩, ⟨Kd.R_nil _ _ _ _ _⟩, ⟨by rw [HW0.out]; exact (by repeat (first | (with_reducible first | exact Below.refl _ _ | apply below_alloc | apply pw_below_drewN | apply below_drew1) | exact Below.refl _ _))⟩⟩
          case round =>
            obtain ⟨j, x6, rfl, hj, hk, HA, HO, HBr⟩ := hrel
            by_cases hlt : j < l0.length
            · obtain ⟨x6', x, ha, hle, hdo, hs⟩ := mat_Apply.rowsO_some HL.out j hlt
              obtain rfl : x6 = x6' := Option.some.inj (HA.out.symm.trans ha)
              have HLn := Aside0.mk (mat_Apply.rowsO_len HA.out)
              have HDO := Aside0.mk hdo
              have HSS := Aside0.mk hs
              obtain ⟨ad', A3, c3, e3, hx3, hl3, hr3⟩ := at_L1 HR0.out (j : Int) (by omega) (by omega)
              obtain rfl : ad = ad' := by injection e3
              obtain ⟨r, hr⟩ : ∃ r, r = rd_L1 l0 (j : Int) := ⟨_, rfl⟩
              rw [← hr] at hx3 hl3 hr3 hle hdo
              rw [Int.toNat_natCast] at hx3
              have HDO := Aside0.mk hdo
              have HBw := Aside0.mk (HB0.out.trans (HBr.out.mono (by have := HS0.out; omega)))
              have hx4 := (HBw.out.cell (World.block_lt_of_cell? w _ hx3)).trans hx3
              have HCL : Aside0 (∀ j' : Nat, j' < l1.length → ∀ W : World, Below (wr.alloc (.cells #[.slice A3 r.length c3] 28)).heap.size (wr.alloc (.cells #[.slice A3 r.length c3] 28)) W → Calls Try.prog 43 #[.int .i64 (j' : Int), .pointer (some ⟨wr.heap.size, 0, none⟩), .pointer (some ⟨w.heap.size, 0, none⟩)] W fun e W' => e = .returned (.tuple #[.int .i64 (mat_Apply.pr r l1 j').1, .int .i64 (mat_Apply.pr r l1 j').2]) ∧ Drawn0 W W') := by
                refine ⟨fun j' hj' W hb => ?_⟩
                have hsz := HBr.out.size
                have hs0 := HS0.out
                have g1 : W.cell? ⟨wr.heap.size, 0, none⟩ = some (.slice A3 r.length c3) := (hb.cell (p := ⟨wr.heap.size, 0, none⟩) (by simp)).trans (by go_simp)
                have hbb := (HBr.out.alloc hsz _).trans (hb.mono (by simp; omega))
                have g2 : W.cell? ⟨w.heap.size, 0, none⟩ = some (.slice A1 l1.length c1) := (hbb.cell (p := ⟨w.heap.size, 0, none⟩) (by simp; omega)).trans HX0.out
                have hbw := HB0.out.trans (hbb.mono (by omega))
                exact mat_Apply.clo wr.heap.size w.heap.size A3 A1 c3 c1 r l1 (j' : Int) W g1 g2 (Kd.C_below hr3 hbw) (Kd.C_below HR1.out hbw) (by omega) (by omega) (by omega)
              have hwl : w.heap.size < wr.heap.size := by have := HS0.out; have := HBr.out.size; omega
              have hbx := (HBr.out.cell (p := ⟨w.heap.size, 0, none⟩) (by have := HS0.out; simp; omega)).trans HX0.out
              obtain ⟨Ao, co, eo⟩ := Kd.R_slice HO.out
              subst eo
              have HR3 := Aside0.mk hr3
              have HRr := Aside0.mk hr
              have HLE := Aside0.mk hle
              clear hx3 hl3 hr3 hr hle hdo ha hs HA
              go_wp2_with (first | (go_at_call 42; refine (mat_Apply.dot k l1.length (mat_Apply.pr r l1) x wr.heap.size w.heap.size _ hg2 HDO.out HCL.out).mono ?_; rintro e w2 ⟨rfl, hb2⟩; have HO2 := Aside0.mk (Kd.R_below (Kd.R_alloc HO.out _) hb2); have HB2 := Aside0.mk ((HBr.out.alloc HBr.out.size _).trans (hb2.mono (HBr.out.alloc HBr.out.size _).size)); clear hb2) | ((with_reducible refine gate_builtin (b := .append) (xs := #[.tmp 30, .tmp 35]) rfl ?_); at_builtin; refine Kd.R_append (Kd.int .i64) (w0 := W0) W0.heap.size rfl (.tmp 30) (.tmp 35) 28 3 (.int .i64 0) 8 rfl Try.underlying28 info3 rfl (by decide) (by omega) (.slice Ao x6.length co) x6 x [.int .i64 x] (fun _ => True) (fun _ => False) rfl rfl ?aP (fun _ hk => hk.elim) ?aF ?aO ?aB ?aS ?aL ?_; (case aP => exact rfl); (case aB => exact (by repeat (first | (with_reducible first | exact HB2.out | apply below_alloc | apply pw_below_drewN | apply below_drew1) | exact HB2.out))); (case aF => exact (fun _ _ => trivial)); (case aO => exact (by (with_reducible repeat (first | apply Kd.R_alloc | apply Kd.R_drewN | apply Kd.R_drew)); exact HO2.out)); (case aS => exact (below_size (by repeat (first | (with_reducible first | exact HB2.out | apply below_alloc | apply pw_below_drewN | apply below_drew1) | exact HB2.out)))); (case aL => (have := HLn.out; omega)); intro v1_ w1_ ho_ hb_ hg_ hat_; have HO3 := Aside0.mk ho_; have HB3 := Aside0.mk hb_; clear ho_ hb_ hg_ hat_))
              go_roundg (gk - 1)
              case measure => omega
              case rel => exact ⟨j + 1, _, by go_num, by omega, by omega, HSS, HO3, HB3⟩
            · obtain rfl : j = l0.length := by omega
              obtain rfl : x6 = l := Option.some.inj (HA.out.symm.trans HL.out)
              obtain ⟨Ao, co, eo⟩ := Kd.R_slice HO.out
              subst eo
              go_wp2_with (fail)
              go_ret2
              exact ⟨_, rfl, Kd.R_lower HO.out (by have := HS0.out; omega), HB0.out.trans (HBr.out.mono (by have := HS0.out; omega))⟩
        · rw [if_neg hlen] at h
          simp only [Option.some.injEq, Prod.mk.injEq] at h
          obtain ⟨rfl, rfl⟩ := h
          have z1 : (((rd_L1 l0 0).length : Int) != (l1.length : Int)) = true := by simp; omega
          have z2 : ((rd_L1 l0 0).length != l1.length) = true := by simp; omega
          clear hlen
          go_enter Try.func15, Try.ntmps15
          go_wp2_with (first | (go_at_call 40; refine (mat_May.calls k (some ad) c0 l0 true _ (Kd.C_alloc HR0.out _) HC0.out HT.out).mono ?_; rintro e w1 ⟨rfl, ⟨nd, rfl⟩⟩) | (go_at_call 41; refine (mat_all.calls k A1 c1 l1 true _ (Kd.C_drewN (Kd.C_alloc HR1.out _) _) HC1.out HT2.out).mono ?_; rintro e w2 ⟨rfl, ⟨nd2, rfl⟩⟩))
          go_quiet (fail)
          go_wp2_with (fail)
          go_ret2
          exact ⟨_, rfl, Kd.R_nil _ _ _ _ _, (by repeat (first | (with_reducible first | exact HB.out | apply below_alloc | apply pw_below_drewN | apply below_drew1) | exact HB.out))⟩
      · rw [if_neg hg0] at h
        cases h

/-! ### quicksetref_Element: function 45 -/
def quicksetref_Element.f (a0 : Int) : Option (Bool) := if a0 ≥ 0 then (some (decide (a0 ≤ 255))) else (some false)
set_option maxHeartbeats 8000000 in
set_option maxRecDepth 100000 in
theorem quicksetref_Element.calls (a0 : Int) (r : Bool) (w : World) (h : quicksetref_Element.f a0 = some r) :
    Calls Try.prog 45 #[.int .i64 a0] w fun e w' => e = .returned (.bool r) ∧ Drawn0 w w' := by
  have H : (if a0 ≥ 0 then (some (decide (a0 ≤ 255))) else (some false)) = some r := h
  clear h
  by_cases c2 : a0 ≥ 0
  · rw [if_pos c2] at H
    have c2b0 : decide (0 ≤ a0) = true := decide_eq_true c2
    clear c2
    obtain rfl := Option.some.inj H
    go_enter Try.func45, Try.ntmps45
    go_wp2
    go_ret
    exact ⟨by first | rfl | (simp; done) | (simp [*]; done), by repeat (first | exact Drawn0.refl _ | apply Drawn0.step)⟩
  · rw [if_neg c2] at H
    have c2b0 : decide (0 ≤ a0) = false := decide_eq_false c2
    clear c2
    obtain rfl := Option.some.inj H
    go_enter Try.func45, Try.ntmps45
    go_wp2
    go_ret
    exact ⟨by first | rfl | (simp; done) | (simp [*]; done), by repeat (first | exact Drawn0.refl _ | apply Drawn0.step)⟩

end Go.Proofs.Ytpaenlplpaabjaa.QMatApplies
