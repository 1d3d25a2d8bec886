/- Printed from a stub by wip/stub.py with the kit's print.py, then turned by hand. -/
import Derived.Test.YtpaenlplpaabjaaQMatMulsx0
import Derived.Test.YtpaenlplpaabjaaQMatMulsx1
import Derived.Test.YtpaenlplpaabjaaQMatMulsx2
namespace Go.Proofs.Ytpaenlplpaabjaa.QMatMuls
open Go.RowKit Go.Proofs.YtpaenlplpaabjaaW.PrintWords Go.Proofs.YtpaenlplpaabjaaW.PrintLast Go.Proofs.YtpaenlplpaabjaaW.PrintMore
attribute [local go_sem] max2_int min2_int max_two min_two max_three min_three max_four min_four   -- for this text's walks alone
set_option linter.unusedVariables false
set_option linter.unusedSimpArgs false

/-! ### mat_Mul: function 18 -/
def mat_Mul.dotO (k : Nat) (p : Nat → Int × Int) : Nat → Option Int
  | 0 => some 0
  | n + 1 => (mat_Mul.dotO k p n).bind fun a => (mat_times.f k (p n).1 (p n).2).bind fun t => some (Go.bits .xor .i64 a t)
theorem mat_Mul.dotO_mono (k : Nat) (p : Nat → Int × Int) : ∀ n, LeO (mat_Mul.dotO k p n) (mat_Mul.dotO (k + 1) p n)
  | 0 => LeO.refl _
  | n + 1 => by
    unfold mat_Mul.dotO
    exact LeO.bind (mat_Mul.dotO_mono k p n) (fun _ => LeO.bind (mat_times.mono _ _ _) (fun _ => LeO.refl _))
theorem mat_Mul.dotO_some {k : Nat} {p : Nat → Int × Int} : ∀ {n : Nat} {x : Int}, mat_Mul.dotO k p n = some x → ∀ i, i < n → ∃ a t, mat_Mul.dotO k p i = some a ∧ mat_times.f k (p i).1 (p i).2 = some t ∧ mat_Mul.dotO k p (i + 1) = some (Go.bits .xor .i64 a t)
  | 0, _, _, i, hi => absurd hi (Nat.not_lt_zero _)
  | n + 1, x, h, i, hi => by
    have h' := h
    unfold mat_Mul.dotO at h
    obtain ⟨a, ha, h2⟩ := Option.bind_eq_some_iff.mp h
    obtain ⟨t, ht, h3⟩ := Option.bind_eq_some_iff.mp h2
    rcases Nat.lt_or_ge i n with hlt | hge
    · exact mat_Mul.dotO_some ha i hlt
    · obtain rfl : i = n := by omega
      exact ⟨a, t, ha, ht, h'.trans h3.symm⟩
set_option maxHeartbeats 1000000 in
theorem mat_Mul.dot (k n : Nat) (p : Nat → Int × Int) (x : Int) (B1 B2 B3 : Nat) (w : World) (hn : n ≤ 1048576) (h : mat_Mul.dotO k p n = some x)
    (hcl : ∀ j : Nat, j < n → ∀ W : World, Below w.heap.size w W → Calls Try.prog 47 #[.int .i64 (j : Int), .pointer (some ⟨B1, 0, none⟩), .pointer (some ⟨B2, 0, none⟩), .pointer (some ⟨B3, 0, none⟩)] W fun e W' => e = .returned (.tuple #[.int .i64 (p j).1, .int .i64 (p j).2]) ∧ Drawn0 W W') :
    Calls Try.prog 42 #[.int .i64 (n : Int), .func (.func 47) #[] #[.pointer (some ⟨B1, 0, none⟩), .pointer (some ⟨B2, 0, none⟩), .pointer (some ⟨B3, 0, none⟩)]] w fun e w' => e = .returned (.int .i64 x) ∧ Below w.heap.size w w' := by
  have HH := Aside0.mk h
  have HC := Aside0.mk hcl
  clear h hcl
  go_enter Try.func42, Try.ntmps42
  go_wp2_with (fail)
  go_loopg [5, 6, 8] n (fun kq v5 v6 v8 wr => ∃ (j : Nat) (a : Int), v8 = .int .i64 (j : Int) ∧ v5 = .int .i64 a ∧ j ≤ n ∧ n ≤ j + kq ∧ Aside0 (mat_Mul.dotO k p j = some a) ∧ Aside0 (Below w.heap.size w wr))
  case atStart => exact ⟨0, 0, rfl, rfl, Nat.zero_le _, by omega, ⟨rfl⟩, ⟨Below.refl _ _⟩⟩
  case round =>
    obtain ⟨j, a, rfl, rfl, hj, hk, HA, HB⟩ := hrel
    by_cases hlt : j < n
    · obtain ⟨a', t, ha, ht, hs⟩ := mat_Mul.dotO_some HH.out j hlt
      obtain rfl : a = a' := Option.some.inj (HA.out.symm.trans ha)
      have HT := Aside0.mk ht
      have HS := Aside0.mk hs
      have hc := HC.out j hlt wr HB.out
      clear ha ht hs HA
      go_wp2_with (first | (go_at_call 47; refine hc.mono ?_; rintro e w1 ⟨rfl, ⟨nd, rfl⟩⟩) | (go_at_call 79; refine (mat_times.calls k _ _ t _ HT.out).mono ?_; rintro e w2 ⟨rfl, hb2⟩))
      go_roundg (gk - 1)
      case measure => omega
      case rel => exact ⟨j + 1, _, by go_num, rfl, by omega, by omega, HS, ⟨(pw_below_drewN HB.out _).trans (hb2.mono (pw_below_drewN HB.out _).size)⟩⟩
    · obtain rfl : j = n := by omega
      obtain rfl : a = x := Option.some.inj (HA.out.symm.trans HH.out)
      go_wp2_with (fail)
      go_ret
      exact ⟨rfl, HB.out⟩
def mat_Mul.pr (r : List Int) (b : List (List Int)) (c j : Nat) : Int × Int := (rd r (j : Int), rd (rd_L1 b (j : Int)) (c : Int))
def mat_Mul.rowO (k : Nat) (r : List Int) (b : List (List Int)) : Nat → Option (List Int)
  | 0 => some []
  | c + 1 => (mat_Mul.rowO k r b c).bind fun l => (mat_Mul.dotO k (mat_Mul.pr r b c) b.length).bind fun x => some (l ++ [x])
def mat_Mul.rowsO (k : Nat) (a b : List (List Int)) : Nat → Option (List (List Int))
  | 0 => some []
  | n + 1 => (mat_Mul.rowsO k a b n).bind fun m => if (rd_L1 a (n : Int)).length = b.length then (mat_Mul.rowO k (rd_L1 a (n : Int)) b (rd_L1 b 0).length).bind fun row => some (m ++ [row]) else none
theorem mat_Mul.rowO_mono (k : Nat) (r : List Int) (b : List (List Int)) : ∀ n, LeO (mat_Mul.rowO k r b n) (mat_Mul.rowO (k + 1) r b n)
  | 0 => LeO.refl _
  | n + 1 => by
    unfold mat_Mul.rowO
    exact LeO.bind (mat_Mul.rowO_mono k r b n) (fun _ => LeO.bind (mat_Mul.dotO_mono _ _ _) (fun _ => LeO.refl _))
theorem mat_Mul.rowsO_mono (k : Nat) (a b : List (List Int)) : ∀ n, LeO (mat_Mul.rowsO k a b n) (mat_Mul.rowsO (k + 1) a b n)
  | 0 => LeO.refl _
  | n + 1 => by
    unfold mat_Mul.rowsO
    exact LeO.bind (mat_Mul.rowsO_mono k a b n) (fun _ => LeO.ite (LeO.bind (mat_Mul.rowO_mono _ _ _ _) (fun _ => LeO.refl _)) (LeO.none _))
theorem mat_Mul.rowO_len {k : Nat} {r : List Int} {b : List (List Int)} : ∀ {n : Nat} {l : List Int}, mat_Mul.rowO k r b n = some l → l.length = n
  | 0, l, h => by simp [mat_Mul.rowO] at h; simp [h]
  | n + 1, l, h => by
    unfold mat_Mul.rowO at h
    obtain ⟨l', h1, h⟩ := Option.bind_eq_some_iff.mp h
    obtain ⟨x, _, h⟩ := Option.bind_eq_some_iff.mp h
    obtain rfl := Option.some.inj h
    simp [mat_Mul.rowO_len h1]
theorem mat_Mul.rowsO_len {k : Nat} {a b : List (List Int)} : ∀ {n : Nat} {l : List (List Int)}, mat_Mul.rowsO k a b n = some l → l.length = n
  | 0, l, h => by simp [mat_Mul.rowsO] at h; simp [h]
  | n + 1, l, h => by
    unfold mat_Mul.rowsO at h
    obtain ⟨l', h1, h⟩ := Option.bind_eq_some_iff.mp h
    split at h
    · obtain ⟨x, _, h⟩ := Option.bind_eq_some_iff.mp h
      obtain rfl := Option.some.inj h
      simp [mat_Mul.rowsO_len h1]
    · cases h
theorem mat_Mul.rowO_some {k : Nat} {r : List Int} {b : List (List Int)} : ∀ {n : Nat} {l : List Int}, mat_Mul.rowO k r b n = some l → ∀ i, i < n → ∃ l' x, mat_Mul.rowO k r b i = some l' ∧ mat_Mul.dotO k (mat_Mul.pr r b i) b.length = some x ∧ mat_Mul.rowO k r b (i + 1) = some (l' ++ [x])
  | 0, _, _, i, hi => absurd hi (Nat.not_lt_zero _)
  | n + 1, l, h, i, hi => by
    have h' := h
    unfold mat_Mul.rowO at h
    obtain ⟨l', h1, h2⟩ := Option.bind_eq_some_iff.mp h
    obtain ⟨x, hx, h3⟩ := Option.bind_eq_some_iff.mp h2
    rcases Nat.lt_or_ge i n with hlt | hge
    · exact mat_Mul.rowO_some h1 i hlt
    · obtain rfl : i = n := by omega
      exact ⟨l', x, h1, hx, h'.trans h3.symm⟩
theorem mat_Mul.rowsO_some {k : Nat} {a b : List (List Int)} : ∀ {n : Nat} {l : List (List Int)}, mat_Mul.rowsO k a b n = some l → ∀ i, i < n → ∃ l' row, mat_Mul.rowsO k a b i = some l' ∧ (rd_L1 a (i : Int)).length = b.length ∧ mat_Mul.rowO k (rd_L1 a (i : Int)) b (rd_L1 b 0).length = some row ∧ mat_Mul.rowsO k a b (i + 1) = some (l' ++ [row])
  | 0, _, _, i, hi => absurd hi (Nat.not_lt_zero _)
  | n + 1, l, h, i, hi => by
    have h' := h
    unfold mat_Mul.rowsO at h
    obtain ⟨l', h1, h2⟩ := Option.bind_eq_some_iff.mp h
    by_cases hc : (rd_L1 a (n : Int)).length = b.length
    · rw [if_pos hc] at h2
      obtain ⟨x, hx, h3⟩ := Option.bind_eq_some_iff.mp h2
      rcases Nat.lt_or_ge i n with hlt | hge
      · exact mat_Mul.rowsO_some h1 i hlt
      · obtain rfl : i = n := by omega
        exact ⟨l', x, h1, hc, hx, h'.trans h3.symm⟩
    · rw [if_neg hc] at h2
      cases h2
def mat_Mul.okB (a b : List (List Int)) : Bool := decide (0 < b.length) && decide (a.length ≤ 1000) && decide (b.length ≤ 1000) && decide ((rd_L1 b 0).length ≤ 1000) && decide (0 < (rd_L1 b 0).length) && b.all fun r => decide (r.length = (rd_L1 b 0).length)
def mat_Mul.f (k : Nat) (a b : List (List Int)) : Option (List (List Int) × Int) :=
  (mat_May.f k a).bind fun t => if t = true then (mat_May.f k b).bind fun u => (if u = true then (if 0 < a.length then (if (rd_L1 a 0).length = b.length then (if mat_Mul.okB a b = true then (mat_Mul.rowsO k a b a.length).bind fun l => some (l, 0) else none) else some (([] : List (List Int)), 1)) else none) else some (([] : List (List Int)), 4)) else some (([] : List (List Int)), 4)
theorem mat_Mul.mono : ∀ a0 a1 k, LeO (mat_Mul.f k a0 a1) (mat_Mul.f (k + 1) a0 a1) := by
  intro a0 a1 k
  unfold mat_Mul.f
  exact LeO.bind (mat_May.mono _ _) (fun _ => LeO.ite (LeO.bind (mat_May.mono _ _) (fun _ => LeO.ite (LeO.ite (LeO.ite (LeO.ite (LeO.bind (mat_Mul.rowsO_mono _ _ _ _) (fun _ => LeO.refl _)) (LeO.none _)) (LeO.refl _)) (LeO.none _)) (LeO.refl _))) (LeO.refl _))
set_option maxHeartbeats 400000 in
theorem mat_Mul.clo (B1 B2 B3 : Nat) (A1 A2 : Option Addr) (c1 c2 : Nat) (r : List Int) (b : List (List Int)) (i c : Int) (w : World) (h1 : w.cell? ⟨B1, 0, none⟩ = some (.slice A1 r.length c1)) (h2 : w.cell? ⟨B2, 0, none⟩ = some (.slice A2 b.length c2)) (h3 : w.cell? ⟨B3, 0, none⟩ = some (.int .i64 c))
    (hr : Kd.C (Kd.int .i64) w A1 r.length r) (hv : Kd.C (Kd.slice 3 (Kd.int .i64)) w A2 b.length b) (h0 : 0 ≤ i) (hi1 : i < (r.length : Int)) (hi2 : i < (b.length : Int)) (hc0 : 0 ≤ c) (hc1 : c < ((rd_L1 b i).length : Int)) :
    Calls Try.prog 47 #[.int .i64 i, .pointer (some ⟨B1, 0, none⟩), .pointer (some ⟨B2, 0, none⟩), .pointer (some ⟨B3, 0, none⟩)] w fun e w' => e = .returned (.tuple #[.int .i64 (rd r i), .int .i64 (rd (rd_L1 b i) c)]) ∧ Drawn0 w w' := by
  obtain ⟨ad1, e1, hx1⟩ := Kd.at_int hr i h0 hi1
  obtain ⟨ad2, A3, c3, e2, hx2, hl2, hr2⟩ := at_L1 hv i h0 hi2
  obtain ⟨ad3, e3, hx3⟩ := Kd.at_int hr2 c hc0 hc1
  subst e1 e2 e3
  clear hr hv hr2
  have p0 := decide_eq_true h0
  have p1 := decide_eq_true hi1
  have p2 := decide_eq_true hi2
  have p3 := decide_eq_true hc0
  have p4 := decide_eq_true hc1
  go_enter Try.func47, Try.ntmps47
  go_wp2_with (fail)
  go_quiet (fail)
  go_wp2_with (fail)
  go_ret2
  exact ⟨rfl, ⟨_, rfl⟩⟩
def mat_Mul.SetD (wk : World) (g c : Nat) (x : Int) (w' : World) : Prop := ∃ w2, Below wk.heap.size wk w2 ∧ w' = w2.setCell ⟨g, c, none⟩ (.int .i64 x)
def mul13T : Bool × List (List Nat × List Nat) := (true, [([], []), ([], []), ([], []), ([2], [2]), ([], []), ([3, 4], [3, 4]), ([0, 1, 0, 1, 2, 3, 4, 5], [0, 1]), ([6, 5, 5, 0, 1, 2, 3, 4, 5], [5, 6])])
def mul13B : List Nat := [0, 0, 0, 4, 0, 28, 63, 127]
theorem mul13tab : rtab .any (opsOf Try.f18 13) = mul13T := by kernel_rfl
theorem mul13bits : waitsOk mul13T.2 mul13B = true := by kernel_rfl
set_option maxHeartbeats 4000000 in
set_option maxRecDepth 100000 in
theorem mat_Mul.calls (k : Nat) (A0 : Option Addr) (c0 : Nat) (l0 : List (List Int)) (A1 : Option Addr) (c1 : Nat) (l1 : List (List Int)) (r1 : List (List Int)) (r2 : Int) (w : World) (hr0 : Kd.C (Kd.slice 3 (Kd.int .i64)) w A0 l0.length l0) (hc0 : l0.length ≤ c0) (hr1 : Kd.C (Kd.slice 3 (Kd.int .i64)) w A1 l1.length l1) (hc1 : l1.length ≤ c1) (h : mat_Mul.f k l0 l1 = some (r1, r2)) :
    Calls Try.prog 18 #[.slice A0 l0.length c0, .slice A1 l1.length c1] w fun e w' => ∃ v0_ : Value, e = .returned (.tuple #[v0_, .int .i64 r2]) ∧ Kd.S (Kd.slice 3 (Kd.int .i64)) 28 w' w.heap.size (fun _ => True) v0_ r1 ∧ Below w.heap.size w w' := by
  have HR0 := Aside0.mk hr0
  have HR1 := Aside0.mk hr1
  have HC0 := Aside0.mk hc0
  have HC1 := Aside0.mk hc1
  clear hr0 hr1 hc0 hc1
  have HB := Aside0.mk (below_alloc (Below.refl w.heap.size w) (.cells #[.slice A1 l1.length c1] 22))
  unfold mat_Mul.f at h
  obtain ⟨t, ht, h⟩ := Option.bind_eq_some_iff.mp h
  have HT := Aside0.mk ht
  clear ht
  cases t with
  | false =>
    replace h := Option.some.inj h
    simp only [Prod.mk.injEq] at h
    obtain ⟨rfl, rfl⟩ := h
    go_enter Try.func18, Try.ntmps18
    go_wp2_with (go_at_call 40; refine (mat_May.calls k A0 c0 l0 false _ (Kd.C_alloc HR0.out _) HC0.out HT.out).mono ?_; rintro e w1 ⟨rfl, ⟨nd, rfl⟩⟩)
    go_ret2
    exact ⟨_, rfl, Kd.S_nil _ _ _ _ _, (by repeat (first | (with_reducible first | exact HB.out | apply below_alloc | apply pw_below_drewN | apply below_drew1) | exact HB.out))⟩
  | true =>
    replace h : ((mat_May.f k l1).bind fun u => (if u = true then (if 0 < l0.length then (if (rd_L1 l0 0).length = l1.length then (if mat_Mul.okB l0 l1 = true then (mat_Mul.rowsO k l0 l1 l0.length).bind fun l => some (l, 0) else none) else some (([] : List (List Int)), 1)) else none) else some (([] : List (List Int)), 4))) = some (r1, r2) := h
    obtain ⟨t2, ht2, h⟩ := Option.bind_eq_some_iff.mp h
    have HT2 := Aside0.mk ht2
    clear ht2
    cases t2 with
    | false =>
      replace h := Option.some.inj h
      simp only [Prod.mk.injEq] at h
      obtain ⟨rfl, rfl⟩ := h
      have tok : Aside0 True := ⟨trivial⟩
      go_enter Try.func18, Try.ntmps18
      go_wp2_with (first | (go_at_call 40; have tk := tok; clear tok tk; refine (mat_May.calls k A0 c0 l0 true _ (Kd.C_alloc HR0.out _) HC0.out HT.out).mono ?_; rintro e w1 ⟨rfl, ⟨nd, rfl⟩⟩) | (go_at_call 40; refine (mat_May.calls k A1 c1 l1 false _ (Kd.C_drewN (Kd.C_alloc HR1.out _) _) HC1.out HT2.out).mono ?_; rintro e w2 ⟨rfl, ⟨nd2, rfl⟩⟩))
      go_ret2
      exact ⟨_, rfl, Kd.S_nil _ _ _ _ _, (by repeat (first | (with_reducible first | exact HB.out | apply below_alloc | apply pw_below_drewN | apply below_drew1) | exact HB.out))⟩
    | true =>
      replace h : (if 0 < l0.length then (if (rd_L1 l0 0).length = l1.length then (if mat_Mul.okB l0 l1 = true then (mat_Mul.rowsO k l0 l1 l0.length).bind fun l => some (l, 0) else none) else some (([] : List (List Int)), 1)) else none) = some (r1, r2) := h
      by_cases hg0 : 0 < l0.length
      · rw [if_pos hg0] at h
        obtain ⟨ad, A2, c2, e2, hx, hl2, hr2⟩ := at_L1 HR0.out 0 (Int.le_refl 0) (by omega)
        subst e2
        replace hx : w.cell? ad = some (.slice A2 (rd_L1 l0 0).length c2) := hx
        have HX := Aside0.mk hx
        clear hx hr2
        have q0 : decide ((0 : Int) < (l0.length : Int)) = true := decide_eq_true (by omega)
        have hx := (HB.out.cell (World.block_lt_of_cell? w _ HX.out)).trans HX.out
        by_cases hlen : (rd_L1 l0 0).length = l1.length
        · rw [if_pos hlen] at h
          by_cases hok : mat_Mul.okB l0 l1 = true
          · rw [if_pos hok] at h
            obtain ⟨l, hl, h⟩ := Option.bind_eq_some_iff.mp h
            simp only [Option.some.injEq, Prod.mk.injEq] at h
            obtain ⟨rfl, rfl⟩ := h
            simp only [mat_Mul.okB, Bool.and_eq_true, decide_eq_true_eq, List.all_eq_true] at hok
            obtain ⟨⟨⟨⟨⟨hb0, ha1⟩, hb1⟩, hn1⟩, hn2⟩, hall⟩ := hok
            have HALL := Aside0.mk hall
            have HL := Aside0.mk hl
            clear hl hall
            have HN := Aside0.mk hlen
            have z1 : (((rd_L1 l0 0).length : Int) != (l1.length : Int)) = false := by simp; omega
            have z2 : ((rd_L1 l0 0).length != l1.length) = false := by simp; omega
            clear hlen
            obtain ⟨n0, hn0⟩ : ∃ n0, n0 = (rd_L1 l1 0).length := ⟨_, rfl⟩
            obtain ⟨ad1, A5, c5, e5, hx5, hl5, hr5⟩ := at_L1 HR1.out 0 (Int.le_refl 0) (by omega)
            subst e5
            replace hx5 : w.cell? ad1 = some (.slice A5 n0 c5) := by rw [hn0]; exact hx5
            have HX5 := Aside0.mk hx5
            rw [← hn0] at hn1 hn2
            have HN0 := Aside0.mk hn0
            clear hn0 hx5 hl5 hr5
            have q1 : decide ((0 : Int) < (l1.length : Int)) = true := decide_eq_true (by omega)
            have tok : Aside0 True := ⟨trivial⟩
            go_enter Try.func18, Try.ntmps18
            go_wp2_with (first | (go_at_call 40; have tk := tok; clear tok tk; refine (mat_May.calls k (some ad) c0 l0 true _ (Kd.C_alloc HR0.out _) HC0.out HT.out).mono ?_; rintro e w1 ⟨rfl, ⟨nd, rfl⟩⟩) | (go_at_call 40; refine (mat_May.calls k (some ad1) c1 l1 true _ (Kd.C_drewN (Kd.C_alloc HR1.out _) _) HC1.out HT2.out).mono ?_; rintro e w2 ⟨rfl, ⟨nd2, rfl⟩⟩))
            go_quiet (fail)
            go_wp2_with (fail)
            obtain ⟨W0, hW0⟩ : ∃ W0, W0 = w.alloc (.cells #[.slice (some ad1) l1.length c1] 22) := ⟨_, rfl⟩
            have HS0 := Aside0.mk (show W0.heap.size = w.heap.size + 1 by rw [hW0]; simp)
            have HX0 := Aside0.mk (show W0.cell? ⟨w.heap.size, 0, none⟩ = some (.slice (some ad1) l1.length c1) by rw [hW0]; go_simp)
            have HB0 := Aside0.mk (show Below w.heap.size w W0 by rw [hW0]; exact HB.out)
            have HW0 := Aside0.mk hW0
            clear hW0
            go_loopg [6, 8, 9, 10, 28] l0.length (fun kq v6 v8 v9 v10 v28 wr => ∃ (j : Nat) (x6 : List (List Int)), v28 = .int .i64 (j : Int) ∧ j ≤ l0.length ∧ l0.length ≤ j + kq ∧ Aside0 (mat_Mul.rowsO k l0 l1 j = some x6) ∧ Aside0 (Kd.S (Kd.slice 3 (Kd.int .i64)) 28 wr W0.heap.size (fun _ => True) v6 x6) ∧ Aside0 (Below W0.heap.size W0 wr))
            case atStart => exact ⟨0, [], rfl, Nat.zero_le _, by omega, ⟨rfl⟩, ⟨Kd.S_nil _ _ _ _ _⟩, ⟨by rw [HW0.out]; exact (by repeat (first | (with_reducible first | exact Below.refl _ _ | apply below_alloc | apply pw_below_drewN | apply below_drew1) | exact Below.refl _ _))⟩⟩
            case round =>
              obtain ⟨j, x6, rfl, hj, hk, HA, HO, HBr⟩ := hrel
              by_cases hlt : j < l0.length
              · obtain ⟨x6', row, ha, hle, hdo, hs⟩ := mat_Mul.rowsO_some HL.out j hlt
                obtain rfl : x6 = x6' := Option.some.inj (HA.out.symm.trans ha)
                have HLn := Aside0.mk (mat_Mul.rowsO_len HA.out)
                have HSS := Aside0.mk hs
                obtain ⟨ad', A3, c3, e3, hx3, hl3, hr3⟩ := at_L1 HR0.out (j : Int) (by omega) (by omega)
                obtain rfl : ad = ad' := by injection e3
                obtain ⟨r, hr⟩ : ∃ r, r = rd_L1 l0 (j : Int) := ⟨_, rfl⟩
                rw [← hr] at hx3 hl3 hr3 hle hdo
                rw [Int.toNat_natCast] at hx3
                rw [← HN0.out] at hdo
                have HDR := Aside0.mk hdo
                have HBw := Aside0.mk (HB0.out.trans (HBr.out.mono (by have := HS0.out; omega)))
                have hx4 := (HBw.out.cell (World.block_lt_of_cell? w _ hx3)).trans hx3
                have hx6 := (HBw.out.cell (World.block_lt_of_cell? w _ HX5.out)).trans HX5.out
                have hwl : w.heap.size < wr.heap.size := by have := HS0.out; have := HBr.out.size; omega
                have hbx := (HBr.out.cell (p := ⟨w.heap.size, 0, none⟩) (by have := HS0.out; simp; omega)).trans HX0.out
                have HR3 := Aside0.mk hr3
                have HRr := Aside0.mk hr
                have HLE := Aside0.mk hle
                have hal : ad1.block < wr.heap.size := World.block_lt_of_cell? wr _ hx6
                clear hx3 hl3 hr3 hr hle hdo ha hs HA e3
                have HX4 := Aside0.mk hx4
                have HBX := Aside0.mk hbx
                obtain ⟨wo, hwo⟩ : ∃ wo : World, wo = wr := ⟨_, rfl⟩
                subst hwo
                obtain ⟨qo, hqo⟩ : ∃ qo : Nat, qo = gk := ⟨_, rfl⟩
                subst hqo
                go_wp2_with (first | ((with_reducible refine gate_dst (N := 36) rfl ?_); refine Kd.R_make (Kd.int .i64) _ 3 rfl (N := 36) rfl 28 _ _ rfl (n0 : Int) rfl rfl Try.underlying28 (.int .i64 0) 8 info3 rfl (by decide) (by omega) 0 (ok := fun _ => True) (okp := fun _ => True) rfl (fun _ hk => hk) trivial (by omega) (by omega) (Below.refl _ _) (Nat.le_refl _) ?_; intro v2_ w2_ ho2_ hb2_ hg2_ hn2_; have HO5 := Aside0.mk ho2_; have HB5 := Aside0.mk hb2_; clear ho2_ hb2_ hg2_ hn2_; obtain ⟨g, co, eo, hgB, hgl, cel, hce⟩ := Kd.R_form HO5.out (by simp; omega); clear hce; rw [show (List.replicate ((n0 : Nat) : Int).toNat (0:Int)).length = n0 by simp] at eo; subst eo))
                have HO6 : Aside0 (Kd.R (Kd.int .i64) 3 w2_ (wo.alloc (.cells #[.slice A3 r.length c3] 28)).heap.size (fun _ => True) (.slice (some ⟨g, 0, none⟩) n0 co) (List.replicate n0 0)) := ⟨by simpa using HO5.out⟩
                have hgB2 : wo.heap.size + 1 ≤ g := by simpa using hgB
                clear HO5 hgB
                go_loopg [10, 39] n0 (fun kq v10 v39 wi => ∃ (c : Nat) (y : List Int), v39 = .int .i64 (c : Int) ∧ c ≤ n0 ∧ n0 ≤ c + kq ∧ Aside0 (mat_Mul.rowO k r l1 c = some y) ∧ Aside0 (Kd.R (Kd.int .i64) 3 wi (wo.alloc (.cells #[.slice A3 r.length c3] 28)).heap.size (fun _ => True) (.slice (some ⟨g, 0, none⟩) n0 co) (y ++ List.replicate (n0 - c) 0)) ∧ Aside0 (Below (wo.alloc (.cells #[.slice A3 r.length c3] 28)).heap.size (wo.alloc (.cells #[.slice A3 r.length c3] 28)) wi))
                case atStart => exact ⟨0, [], rfl, Nat.zero_le _, by omega, ⟨rfl⟩, HO6, HB5⟩
                case round =>
                  obtain ⟨c, y, rfl, hc, hkc, HAc, HOc, HBc⟩ := hrel
                  have hsz := HBc.out.size
                  rw [World.size_alloc] at hsz
                  have HBa := Aside0.mk ((HBr.out.alloc HBr.out.size (.cells #[.slice A3 r.length c3] 28)).trans (HBc.out.mono (by have := HBr.out.size; simp; omega)))
                  by_cases hltc : c < n0
                  · obtain ⟨y', x, hy, hdx, hsx⟩ := mat_Mul.rowO_some HDR.out c hltc
                    obtain rfl : y = y' := Option.some.inj (HAc.out.symm.trans hy)
                    have HDO := Aside0.mk hdx
                    have HSX := Aside0.mk hsx
                    have HYL := Aside0.mk (mat_Mul.rowO_len hy)
                    have hK1 : (wr.alloc (.cells #[.int .i64 (c : Int)] 3)).cell? ⟨wr.heap.size, 0, none⟩ = some (.int .i64 (c : Int)) := by go_simp
                    have hK2 : (wr.alloc (.cells #[.int .i64 (c : Int)] 3)).cell? ⟨w.heap.size, 0, none⟩ = some (.slice (some ad1) l1.length c1) := ((below_alloc (Below.refl _ _) _).cell (World.block_lt_of_cell? wr _ ((HBa.out.cell (World.block_lt_of_cell? _ _ HX0.out)).trans HX0.out))).trans ((HBa.out.cell (World.block_lt_of_cell? _ _ HX0.out)).trans HX0.out)
                    have HK1 := Aside0.mk hK1
                    have HK2 := Aside0.mk hK2
                    have HCL : Aside0 (∀ j' : Nat, j' < l1.length → ∀ W : World, Below (wr.alloc (.cells #[.int .i64 (c : Int)] 3)).heap.size (wr.alloc (.cells #[.int .i64 (c : Int)] 3)) W → Calls Try.prog 47 #[.int .i64 (j' : Int), .pointer (some ⟨wo.heap.size, 0, none⟩), .pointer (some ⟨w.heap.size, 0, none⟩), .pointer (some ⟨wr.heap.size, 0, none⟩)] W fun e W' => e = .returned (.tuple #[.int .i64 (mat_Mul.pr r l1 c j').1, .int .i64 (mat_Mul.pr r l1 c j').2]) ∧ Drawn0 W W') := by
                      refine ⟨fun j' hj' W hb => ?_⟩
                      have hs0 := HS0.out
                      have hbr := HBr.out.size
                      have hwr : (wo.alloc (.cells #[.slice A3 r.length c3] 28)).cell? ⟨wo.heap.size, 0, none⟩ = some (.slice A3 r.length c3) := by go_simp
                      have g0 := (HBc.out.cell (World.block_lt_of_cell? _ _ hwr)).trans hwr
                      have hbb := (below_alloc (Below.refl wr.heap.size wr) (.cells #[.int .i64 (c : Int)] 3)).trans (hb.mono (by simp))
                      have g1 := (hbb.cell (World.block_lt_of_cell? _ _ g0)).trans g0
                      have g2 := (hb.cell (World.block_lt_of_cell? _ _ HK2.out)).trans HK2.out
                      have g3 := (hb.cell (World.block_lt_of_cell? _ _ HK1.out)).trans HK1.out
                      have hbw := HB0.out.trans ((HBa.out.trans (hbb.mono (by omega))).mono (by omega))
                      have hlj := HALL.out (rd_L1 l1 (j' : Int)) (by
                        show l1.getD ((j' : Nat) : Int).toNat [] ∈ l1
                        rw [Int.toNat_natCast, List.getD_eq_getElem?_getD, List.getElem?_eq_getElem hj']
                        exact List.getElem_mem hj')
                      have hn := HN0.out
                      exact mat_Mul.clo wo.heap.size w.heap.size wr.heap.size A3 (some ad1) c3 c1 r l1 (j' : Int) (c : Int) W g1 g2 g3 (Kd.C_below HR3.out hbw) (Kd.C_below HR1.out hbw) (by omega) (by have := HLE.out; omega) (by omega) (by omega) (by omega)
                    obtain ⟨hg1, hg2⟩ := Kd.R_celln (0 : Int) (Kd.R_alloc HOc.out (.cells #[.int .i64 (c : Int)] 3)) (c : Int) (by omega) (by omega)
                    rw [Int.toNat_natCast] at hg1 hg2
                    have HG1 := Aside0.mk hg1
                    have HG2 := Aside0.mk hg2
                    have HP := Aside0.mk (fun W (hb : Below (wr.alloc (.cells #[.int .i64 (c : Int)] 3)).heap.size (wr.alloc (.cells #[.int .i64 (c : Int)] 3)) W) => Kd.R_putg (Kd.R_below (Kd.R_alloc HOc.out (.cells #[.int .i64 (c : Int)] 3)) hb) (c : Int) x)
                    have d0 : decide ((c : Int) < (n0 : Int)) = true := decide_eq_true (by omega)
                    have d1 : decide ((0 : Int) ≤ (c : Int)) = true := decide_eq_true (by omega)
                    clear hy hdx hsx hK1 hK2 hg1 hg2 HAc
                    go_upto_region 13 with fail
                    have HS := Aside0.mk (below_drew (Below.refl (wr.alloc (.cells #[.int .i64 (c : Int)] 3)).heap.size (wr.alloc (.cells #[.int .i64 (c : Int)] 3))))
                    refine start_ (n := 8) (S := fun w' => True) (ds := []) #[false, false, false, false, false, false, false, false] (by kernel_rfl) rfl rfl trivial (fun hHeld => ?_)
                    refine with_tabW mul13tab mul13bits (fun HT_ HW_ => ?_)
                    refine inv_at [0, 1, 2, 3, 4, 5, 6, 7] (fun a0_ b a w' => a = putSel a0_ b [(0, 42, .slice (some ⟨g, 0, none⟩) n0 co), (1, 43, .int .i64 (c : Int)), (2, 44, .slice (some ad1) l1.length c1), (3, 45, .int .i64 (l1.length : Int)), (4, 46, .func (.func 47) #[] #[.pointer (some ⟨wo.heap.size, 0, none⟩), .pointer (some ⟨w.heap.size, 0, none⟩), .pointer (some ⟨wr.heap.size, 0, none⟩)]), (5, 47, .int .i64 x), (6, 48, .pointer (some ⟨g, c, none⟩))] ∧ (b 7 = false → Below (wr.alloc (.cells #[.int .i64 (c : Int)] 3)).heap.size (wr.alloc (.cells #[.int .i64 (c : Int)] 3)) w') ∧ (b 7 = true → mat_Mul.SetD (wr.alloc (.cells #[.int .i64 (c : Int)] 3)) g c x w')) HT_.out HW_.out (by kernel_rfl) (by kernel_rfl) ?_ ?_ ?_
                    · exact ⟨by simp only [putSel, Bool.false_eq_true, if_false], fun _ => HS.out, fun h_ => absurd h_ (by decide)⟩
                    · skip
                      clear HS
                      refine steps_cons ?_ ?_
                      · rintro b a w' ⟨ha, Q_HS, Q_FS⟩ hb_ hon hoff
                        refine ⟨_, rfl, fun K hK => ?_⟩
                        have e9 : a.tmps[9]? = some (.slice (some ⟨g, 0, none⟩) n0 co) := by rw [ha]; exact (putSel_off rfl).trans rfl
                        replace ha := Aside0.mk ha
                        have HS := Aside0.mk (Q_HS (hoff 7 (by kernel_rfl)))
                        refine value_ (w1 := w') (v := .slice (some ⟨g, 0, none⟩) n0 co) (by rfl) rfl ?_ ?_
                        · go_simp
                          (try simp only [i64_w])
                          try rfl
                        refine hK.out _ _ ⟨(by rw [ha.out]; exact putSel_upk 0 hb_ rfl rfl rfl), Q_HS, fun h0_ => absurd ((hoff 7 (by kernel_rfl)).symm.trans h0_) (by decide)⟩
                      refine steps_cons ?_ ?_
                      · rintro b a w' ⟨ha, Q_HS, Q_FS⟩ hb_ hon hoff
                        refine ⟨_, rfl, fun K hK => ?_⟩
                        have e10 : a.tmps[10]? = some (.pointer (some ⟨wr.heap.size, 0, none⟩)) := by rw [ha]; exact (putSel_off rfl).trans rfl
                        replace ha := Aside0.mk ha
                        have HS := Aside0.mk (Q_HS (hoff 7 (by kernel_rfl)))
                        have c1_ := (HS.out.cell (World.block_lt_of_cell? _ _ HK1.out)).trans HK1.out
                        refine value_ (w1 := w') (v := .int .i64 (c : Int)) (by rfl) rfl ?_ ?_
                        · go_simp
                          (try simp only [i64_w])
                          try rfl
                        refine hK.out _ _ ⟨(by rw [ha.out]; exact putSel_upk 1 hb_ rfl rfl rfl), Q_HS, fun h0_ => absurd ((hoff 7 (by kernel_rfl)).symm.trans h0_) (by decide)⟩
                      refine steps_cons ?_ ?_
                      · rintro b a w' ⟨ha, Q_HS, Q_FS⟩ hb_ hon hoff
                        refine ⟨_, rfl, fun K hK => ?_⟩
                        have e3 : a.tmps[3]? = some (.pointer (some ⟨w.heap.size, 0, none⟩)) := by rw [ha]; exact (putSel_off rfl).trans rfl
                        replace ha := Aside0.mk ha
                        have HS := Aside0.mk (Q_HS (hoff 7 (by kernel_rfl)))
                        have c2_ := (HS.out.cell (World.block_lt_of_cell? _ _ HK2.out)).trans HK2.out
                        refine value_ (w1 := w') (v := .slice (some ad1) l1.length c1) (by rfl) rfl ?_ ?_
                        · go_simp
                          (try simp only [i64_w])
                          try rfl
                        refine hK.out _ _ ⟨(by rw [ha.out]; exact putSel_upk 2 hb_ rfl rfl rfl), Q_HS, fun h0_ => absurd ((hoff 7 (by kernel_rfl)).symm.trans h0_) (by decide)⟩
                      refine steps_cons ?_ ?_
                      · rintro b a w' ⟨ha, Q_HS, Q_FS⟩ hb_ hon hoff
                        refine ⟨_, rfl, fun K hK => ?_⟩
                        have e44 : a.tmps[44]? = some (.slice (some ad1) l1.length c1) := by rw [ha]; exact putSel_on (e := (2, 44, .slice (some ad1) l1.length c1)) 2 rfl rfl (hon 2 (by kernel_rfl)) rfl
                        replace ha := Aside0.mk ha
                        have HS := Aside0.mk (Q_HS (hoff 7 (by kernel_rfl)))
                        refine value_ (w1 := w') (v := .int .i64 (l1.length : Int)) (by rfl) rfl ?_ ?_
                        · go_simp
                          (try simp only [i64_w])
                          try rfl
                        refine hK.out _ _ ⟨(by rw [ha.out]; exact putSel_upk 3 hb_ rfl rfl rfl), Q_HS, fun h0_ => absurd ((hoff 7 (by kernel_rfl)).symm.trans h0_) (by decide)⟩
                      refine steps_cons ?_ ?_
                      · rintro b a w' ⟨ha, Q_HS, Q_FS⟩ hb_ hon hoff
                        refine ⟨_, rfl, fun K hK => ?_⟩
                        have e8 : a.tmps[8]? = some (.pointer (some ⟨wo.heap.size, 0, none⟩)) := by rw [ha]; exact (putSel_off rfl).trans rfl
                        have e3 : a.tmps[3]? = some (.pointer (some ⟨w.heap.size, 0, none⟩)) := by rw [ha]; exact (putSel_off rfl).trans rfl
                        have e10 : a.tmps[10]? = some (.pointer (some ⟨wr.heap.size, 0, none⟩)) := by rw [ha]; exact (putSel_off rfl).trans rfl
                        replace ha := Aside0.mk ha
                        have HS := Aside0.mk (Q_HS (hoff 7 (by kernel_rfl)))
                        refine value_ (w1 := w') (v := .func (.func 47) #[] #[.pointer (some ⟨wo.heap.size, 0, none⟩), .pointer (some ⟨w.heap.size, 0, none⟩), .pointer (some ⟨wr.heap.size, 0, none⟩)]) (by rfl) rfl ?_ ?_
                        · go_simp
                          (try simp only [i64_w])
                          try rfl
                        refine hK.out _ _ ⟨(by rw [ha.out]; exact putSel_upk 4 hb_ rfl rfl rfl), Q_HS, fun h0_ => absurd ((hoff 7 (by kernel_rfl)).symm.trans h0_) (by decide)⟩
                      refine steps_cons ?_ ?_
                      · rintro b a w' ⟨ha, Q_HS, Q_FS⟩ hb_ hon hoff
                        refine ⟨_, rfl, fun K hK => ?_⟩
                        have e45 : a.tmps[45]? = some (.int .i64 (l1.length : Int)) := by rw [ha]; exact putSel_on (e := (3, 45, .int .i64 (l1.length : Int))) 3 rfl rfl (hon 3 (by kernel_rfl)) rfl
                        have e46 : a.tmps[46]? = some (.func (.func 47) #[] #[.pointer (some ⟨wo.heap.size, 0, none⟩), .pointer (some ⟨w.heap.size, 0, none⟩), .pointer (some ⟨wr.heap.size, 0, none⟩)]) := by rw [ha]; exact putSel_on (e := (4, 46, .func (.func 47) #[] #[.pointer (some ⟨wo.heap.size, 0, none⟩), .pointer (some ⟨w.heap.size, 0, none⟩), .pointer (some ⟨wr.heap.size, 0, none⟩)])) 4 rfl rfl (hon 4 (by kernel_rfl)) rfl
                        replace ha := Aside0.mk ha
                        have HS := Aside0.mk (Q_HS (hoff 7 (by kernel_rfl)))
                        refine goes_ Try.func42 (by kernel_rfl) rfl #[.int .i64 (l1.length : Int), .func (.func 47) #[] #[.pointer (some ⟨wo.heap.size, 0, none⟩), .pointer (some ⟨w.heap.size, 0, none⟩), .pointer (some ⟨wr.heap.size, 0, none⟩)]] (by rfl) rfl rfl (by first | (simp only [List.map_toArray, List.map_cons, List.map_nil, Act.eval, Array.getD_eq_getD_getElem?, Option.getD_some, e45, e46]; done) | (simp only [List.map_toArray, List.map_cons, List.map_nil, Act.eval, Array.getD_eq_getD_getElem?, Option.getD_some, e45, e46]; rfl)) ?_
                        refine (mat_Mul.dot k l1.length (mat_Mul.pr r l1 c) x wo.heap.size w.heap.size wr.heap.size _ (by omega) HDO.out (fun j' hj' W hb => HCL.out j' hj' W (HS.out.trans (hb.mono HS.out.size)))).mono ?_
                        rintro e2_ w2 ⟨rfl, hb2⟩
                        refine ⟨_, rfl, ?_⟩
                        refine hK.out _ _ ⟨(by rw [ha.out]; exact putSel_upk 5 hb_ rfl rfl rfl), fun _ => HS.out.trans (hb2.mono HS.out.size), fun h0_ => absurd ((hoff 7 (by kernel_rfl)).symm.trans h0_) (by decide)⟩
                      refine steps_cons ?_ ?_
                      · rintro b a w' ⟨ha, Q_HS, Q_FS⟩ hb_ hon hoff
                        refine ⟨_, rfl, fun K hK => ?_⟩
                        have e42 : a.tmps[42]? = some (.slice (some ⟨g, 0, none⟩) n0 co) := by rw [ha]; exact putSel_on (e := (0, 42, .slice (some ⟨g, 0, none⟩) n0 co)) 0 rfl rfl (hon 0 (by kernel_rfl)) rfl
                        have e43 : a.tmps[43]? = some (.int .i64 (c : Int)) := by rw [ha]; exact putSel_on (e := (1, 43, .int .i64 (c : Int))) 1 rfl rfl (hon 1 (by kernel_rfl)) rfl
                        replace ha := Aside0.mk ha
                        have HS := Aside0.mk (Q_HS (hoff 7 (by kernel_rfl)))
                        refine value_ (w1 := w') (v := .pointer (some ⟨g, c, none⟩)) (by rfl) rfl ?_ ?_
                        · go_simp
                          (try simp only [i64_w])
                          try rfl
                        refine hK.out _ _ ⟨(by rw [ha.out]; exact putSel_upk 6 hb_ rfl rfl rfl), Q_HS, fun h0_ => absurd ((hoff 7 (by kernel_rfl)).symm.trans h0_) (by decide)⟩
                      refine steps_cons ?_ ?_
                      · rintro b a w' ⟨ha, Q_HS, Q_FS⟩ hb_ hon hoff
                        refine ⟨_, rfl, fun K hK => ?_⟩
                        have e48 : a.tmps[48]? = some (.pointer (some ⟨g, c, none⟩)) := by rw [ha]; exact putSel_on (e := (6, 48, .pointer (some ⟨g, c, none⟩))) 6 rfl rfl (hon 6 (by kernel_rfl)) rfl
                        have e47 : a.tmps[47]? = some (.int .i64 x) := by rw [ha]; exact putSel_on (e := (5, 47, .int .i64 x)) 5 rfl rfl (hon 5 (by kernel_rfl)) rfl
                        replace ha := Aside0.mk ha
                        have HS := Aside0.mk (Q_HS hb_)
                        have c7_ := (HS.out.cell (World.block_lt_of_cell? _ _ HG1.out)).trans HG1.out
                        have f7_ := (HS.out.frozen (World.block_lt_of_cell? _ _ HG1.out)).trans HG2.out
                        refine skip_ (w1 := w'.setCell ⟨g, c, none⟩ (.int .i64 x)) (by rfl) rfl ?_ ?_
                        · go_simp
                          try rfl
                        refine hK.out _ _ ⟨(by rw [ha.out]; exact putSel_none (v := undef) rfl), fun h0_ => absurd ((up_self b 7).symm.trans h0_) (by decide), fun _ => ⟨_, HS.out, rfl⟩⟩
                      exact steps_nil
                    · rintro b a w' hall ⟨ha, Q_HS, Q_FS⟩
                      clear HS
                      have hb0_ := hall 0 (by kernel_rfl)
                      have hb1_ := hall 1 (by kernel_rfl)
                      have hb2_ := hall 2 (by kernel_rfl)
                      have hb3_ := hall 3 (by kernel_rfl)
                      have hb4_ := hall 4 (by kernel_rfl)
                      have hb5_ := hall 5 (by kernel_rfl)
                      have hb6_ := hall 6 (by kernel_rfl)
                      have hb7_ := hall 7 (by kernel_rfl)
                      subst ha
                      simp only [putSel, hb0_, hb1_, hb2_, hb3_, hb4_, hb5_, hb6_, hb7_, if_true, Act.put, List.setIfInBounds_toArray, List.set_cons_zero, List.set_cons_succ]
                      clear Q_HS
                      have FS := Aside0.mk (Q_FS hb7_)
                      clear Q_FS
                      clear hall hb0_ hb1_ hb2_ hb3_ hb4_ hb5_ hb6_ hb7_
                      clear hHeld
                      obtain ⟨w2, hw2, rfl⟩ := FS.out
                      have HPw := Aside0.mk (HP.out w2 hw2)
                      have HW2 := Aside0.mk hw2
                      clear hw2 FS
                      go_wp2_with (fail)
                      go_roundg (gk - 1)
                      case measure => omega
                      case rel =>
                        have e1 := HPw.out.1
                        have hbw2 := HBc.out.trans ((below_alloc (Below.refl wr.heap.size wr) (.cells #[.int .i64 (c : Int)] 3)).mono (by simp; omega) |>.trans (HW2.out.mono (by simp; omega)))
                        rw [Int.toNat_natCast, show (y ++ List.replicate (n0 - c) (0 : Int)).set c x = (y ++ [x]) ++ List.replicate (n0 - (c + 1)) 0 by
                          rw [List.set_append_right (h := by rw [HYL.out]; exact Nat.le_refl _), HYL.out, Nat.sub_self]
                          obtain ⟨d, hd⟩ : ∃ d, n0 - c = d + 1 := ⟨n0 - c - 1, by omega⟩
                          rw [hd, show n0 - (c + 1) = d by omega, List.replicate_succ, List.set_cons_zero, List.append_assoc, List.singleton_append]] at e1
                        exact ⟨c + 1, y ++ [x], by go_num, by omega, by omega, HSX, ⟨e1⟩, ⟨by simpa using below_set hbw2 (by simp; omega)⟩⟩
                  · obtain rfl : c = n0 := by omega
                    obtain rfl : y = row := Option.some.inj (HAc.out.symm.trans HDR.out)
                    have HO7 : Aside0 (Kd.R (Kd.int .i64) 3 wr W0.heap.size (fun _ => True) (.slice (some ⟨g, 0, none⟩) c co) y) := ⟨Kd.R_lower (by simpa using HOc.out) (by have := HBr.out.size; simp; omega)⟩
                    have HO8 : Aside0 (Kd.S (Kd.slice 3 (Kd.int .i64)) 28 wr W0.heap.size (fun k => True ∧ some k ≠ (.slice (some ⟨g, 0, none⟩) c co : Value).ownBlock) u6 x6) := ⟨Kd.S_elder' (Kd.S_alloc HO.out _) (fun k hk => by
                      have : g = k := by simpa [Value.ownBlock] using hk
                      simp; omega) HBc.out⟩
                    go_wp2_with (first | ((with_reducible refine gate_builtin (b := .append) (xs := #[.tmp 50, .tmp 52]) rfl ?_); at_builtin; refine Kd.S_append (Kd.slice 3 (Kd.int .i64)) (w0 := W0) W0.heap.size rfl (.tmp 50) (.tmp 52) 22 28 (.slice none 0 0) 24 rfl Try.underlying22 info28 rfl (by decide) (by omega) u6 x6 y [.slice (some ⟨g, 0, none⟩) c co] (fun _ => True) (fun k_ => some k_ = (.slice (some ⟨g, 0, none⟩) c co : Value).ownBlock) rfl rfl ?aP (fun k_ hk_ => (Kd.R_mono (ok' := fun k_ => True ∧ some k_ ≠ (u6 : Value).ownBlock) (Kd.R_apart' (HO7.out) (Kd.S_typed HO8.out) (by decide)) (fun k_ hk => ⟨trivial, hk.2⟩)).1 k_ hk_.symm) ?aF ?aO ?aB ?aS ?aL ?_; (case aP => exact Kd.M_row (Kd.R_mono (Kd.R_tight rfl (Kd.R_mono (ok' := fun k_ => True ∧ some k_ ≠ (u6 : Value).ownBlock) (Kd.R_apart' (HO7.out) (Kd.S_typed HO8.out) (by decide)) (fun k_ hk => ⟨trivial, hk.2⟩))) (fun _ h_ => h_))); (case aB => exact (by repeat (first | (with_reducible first | exact HBa.out | apply below_alloc | apply pw_below_drewN | apply below_drew1) | exact HBa.out))); (case aF => exact (fun _ _ => trivial)); (case aO => exact (by (with_reducible repeat (first | apply Kd.S_alloc | apply Kd.S_drewN | apply Kd.S_drew)); exact Kd.S_mono HO8.out (fun k_ hk => ⟨trivial, fun e_ => hk.2 e_⟩))); (case aS => exact (below_size (by repeat (first | (with_reducible first | exact HBa.out | apply below_alloc | apply pw_below_drewN | apply below_drew1) | exact HBa.out)))); (case aL => (have := HLn.out; omega)); intro v1_ w1_ ho_ hb_ hg_ hat_; have HO9 := Aside0.mk ho_; have HB9 := Aside0.mk hb_; clear ho_ hb_ hg_ hat_))
                    go_roundg (qo - 1)
                    case measure => omega
                    case rel => exact ⟨j + 1, _, by go_num, by omega, by omega, HSS, HO9, HB9⟩
              · obtain rfl : j = l0.length := by omega
                obtain rfl : x6 = l := Option.some.inj (HA.out.symm.trans HL.out)
                go_wp2_with (fail)
                go_ret2
                exact ⟨_, rfl, Kd.S_lower HO.out (by have := HS0.out; omega), HB0.out.trans (HBr.out.mono (by have := HS0.out; omega))⟩
          · rw [if_neg hok] at h
            cases h
        · rw [if_neg hlen] at h
          simp only [Option.some.injEq, Prod.mk.injEq] at h
          obtain ⟨rfl, rfl⟩ := h
          have z1 : (((rd_L1 l0 0).length : Int) != (l1.length : Int)) = true := by simp; omega
          have z2 : ((rd_L1 l0 0).length != l1.length) = true := by simp; omega
          clear hlen
          have tok : Aside0 True := ⟨trivial⟩
          go_enter Try.func18, Try.ntmps18
          go_wp2_with (first | (go_at_call 40; have tk := tok; clear tok tk; refine (mat_May.calls k (some ad) c0 l0 true _ (Kd.C_alloc HR0.out _) HC0.out HT.out).mono ?_; rintro e w1 ⟨rfl, ⟨nd, rfl⟩⟩) | (go_at_call 40; refine (mat_May.calls k A1 c1 l1 true _ (Kd.C_drewN (Kd.C_alloc HR1.out _) _) HC1.out HT2.out).mono ?_; rintro e w2 ⟨rfl, ⟨nd2, rfl⟩⟩))
          go_quiet (fail)
          go_wp2_with (fail)
          go_ret2
          exact ⟨_, rfl, Kd.S_nil _ _ _ _ _, (by repeat (first | (with_reducible first | exact HB.out | apply below_alloc | apply pw_below_drewN | apply below_drew1) | exact HB.out))⟩
      · rw [if_neg hg0] at h
        cases h

/-! ### quicksetref_Element: function 45 -/
def quicksetref_Element.f (a0 : Int) : Option (Bool) := if a0 ≥ 0 then (some (decide (a0 ≤ 255))) else (some false)
set_option maxHeartbeats 8000000 in
set_option maxRecDepth 100000 in
theorem quicksetref_Element.calls (a0 : Int) (r : Bool) (w : World) (h : quicksetref_Element.f a0 = some r) :
    Calls Try.prog 45 #[.int .i64 a0] w fun e w' => e = .returned (.bool r) ∧ Drawn0 w w' := by
  have H : (if a0 ≥ 0 then (some (decide (a0 ≤ 255))) else (some false)) = some r := h
  clear h
  by_cases c2 : a0 ≥ 0
  · rw [if_pos c2] at H
    have c2b0 : decide (0 ≤ a0) = true := decide_eq_true c2
    clear c2
    obtain rfl := Option.some.inj H
    go_enter Try.func45, Try.ntmps45
    go_wp2
    go_ret
    exact ⟨by first | rfl | (simp; done) | (simp [*]; done), by repeat (first | exact Drawn0.refl _ | apply Drawn0.step)⟩
  · rw [if_neg c2] at H
    have c2b0 : decide (0 ≤ a0) = false := decide_eq_false c2
    clear c2
    obtain rfl := Option.some.inj H
    go_enter Try.func45, Try.ntmps45
    go_wp2
    go_ret
    exact ⟨by first | rfl | (simp; done) | (simp [*]; done), by repeat (first | exact Drawn0.refl _ | apply Drawn0.step)⟩

end Go.Proofs.Ytpaenlplpaabjaa.QMatMuls
