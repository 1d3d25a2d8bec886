/- The reference's MatInvert where the matrix has an inverse, walked; the solver's contract is a hypothesis. -/
import Derived.Test.YtpaenlplpaabjaaMatY
set_option linter.unusedVariables false
set_option linter.unusedSimpArgs false
namespace Go.Proofs.Ytpaenlplpaabjaa.QMatInverts
open Go.RowKit Go.Proofs.YtpaenlplpaabjaaW.PrintWords Go.Proofs.YtpaenlplpaabjaaW.PrintLast Go.Proofs.YtpaenlplpaabjaaW.PrintMore
open Go.Proofs.Ytpaenlplpaabjaa.Sep Go.Proofs.Ytpaenlplpaabjaa.MatB
theorem matA_congr {T E g n m : Nat} {hs cs : Nat → Nat} {rows rows' : Nat → Nat → Int} {w0 w : World} {l : List Asn} (h : SL w0 w l) (k : Nat) (hk : l[k]? = some (matA T E g n m hs cs rows)) (he : ∀ a b, a < n → b < m → rows a b = rows' a b) : SL w0 w (l.set k (matA T E g n m hs cs rows')) := by
  refine h.imp k hk (fun S hA => ?_)
  obtain ⟨h1, h3, h4, h5, h7⟩ := hA
  refine ⟨h1, h3, h4, h5, fun i hi => ?_⟩
  obtain ⟨c, h8, h9, h10⟩ := h7 i hi
  exact ⟨c, h8, h9, fun j hj => by rw [← he i j hi hj]; exact h10 j hj⟩
/-- Columns ahead of k are there, of column k the first i numbers. -/
def colsR (X : Mx) (k i : Nat) : Mx := fun a b => if b < k ∨ (b = k ∧ a < i) then X a b else 0
theorem colsR_set (X : Mx) (k i : Nat) : setM (fun a b => ((colsR X k i a b : Nat) : Int)) i k ((X i k : Nat) : Int) = fun a b => ((colsR X k (i + 1) a b : Nat) : Int) := by
  funext a b
  unfold setM colsR
  dsimp only
  by_cases h : a = i ∧ b = k
  · obtain ⟨ha, hb⟩ := h
    subst ha hb
    rw [if_pos ⟨rfl, rfl⟩, if_pos (.inr ⟨rfl, by omega⟩)]
  · rw [if_neg h]
    by_cases h2 : b < k ∨ (b = k ∧ a < i)
    · rw [if_pos h2, if_pos (h2.imp id (fun q => ⟨q.1, by omega⟩))]
    · rw [if_neg h2, if_neg (fun q => h2 (q.imp id (fun q => ⟨q.1, by
        have : a ≠ i := fun e => h ⟨e, q.1⟩
        omega⟩)))]
theorem colsR_next (X : Mx) (k n : Nat) (a b : Nat) (ha : a < n) : colsR X k n a b = colsR X (k + 1) 0 a b := by
  unfold colsR
  by_cases h : b < k + 1
  · rw [if_pos (show b < k + 1 ∨ _ from .inl h), if_pos (by omega)]
  · rw [if_neg (by omega), if_neg (by omega)]
theorem solP_at (n : Nat) (f : Nat → Nat) (q : Nat) (h : q < n) : rd (solP n f n) (q : Int) = ((f q : Nat) : Int) := by
  unfold rd solP
  rw [Int.toNat_natCast, List.getD_eq_getElem?_getD, List.getElem?_map, List.getElem?_range h]
  simp [h]
def unitL (n k : Nat) : List Int := (List.replicate n (0 : Int)).set k 1
abbrev SolC (A0 : Option Addr) (c0 n : Nat) (X : Mx) (w : World) : Prop := ∀ (W : World), Below w.heap.size w W → ∀ (k : Nat), k < n → ∀ (A1 : Option Addr) (c1 : Nat), n ≤ c1 → Kd.C (Kd.int .i64) W A1 n (unitL n k) →
  Calls Try.prog 52 #[.slice A0 n c0, .slice A1 n c1] W fun e w' => ∃ v' : Value, e = .returned v' ∧ Kd.R (Kd.int .i64) 3 w' W.heap.size (fun _ => True) v' (solP n (fun i => X i k) n) ∧ Below W.heap.size W w'
set_option maxHeartbeats 4000000 in
set_option maxRecDepth 100000 in
theorem minv_calls (km : Nat) (A0 : Option Addr) (c0 n : Nat) (l0 : List (List Int)) (w : World) (X : Mx) (hX : small X) (hln : l0.length = n) (hr0 : Kd.C (Kd.slice 3 (Kd.int .i64)) w A0 l0.length l0) (hc0 : l0.length ≤ c0) (hm : mayB l0 = true) (hmay : quicksetref_MatMay.f km l0 = some true) (hsq : (rd_L1 l0 0).length = n) (hrk : rankN l0 = n) (hsol : SolC A0 c0 n X w) :
    Calls Try.prog 23 #[.slice A0 n c0] w fun e w' => ∃ (A : Option Addr) (c : Nat), e = .returned (.tuple #[.slice A n c, .int .i64 0]) ∧ n ≤ c ∧ Kd.C (Kd.slice 3 (Kd.int .i64)) w' A n (listM X n n) ∧ Below w.heap.size w w' := by
  obtain ⟨hn0, hn8, hm0, hm8, _⟩ := may_rows hm
  have HMAY := Aside0.mk (fun (W : World) (hb : Below w.heap.size w W) => quicksetref_MatMay.calls km A0 c0 l0 true W (Kd.C_below hr0 hb) hc0 hmay)
  have HSW := Aside0.mk (fun (W : World) (hb : Below w.heap.size w W) => swept_c A0 c0 l0 W (Kd.C_below hr0 hb) hc0 hm)
  rw [hrk] at HSW
  obtain ⟨ad0, A2, c2, rfl, hx0, _, _⟩ := at_L1 hr0 0 (Int.le_refl 0) (by omega)
  replace hx0 : w.cell? ad0 = some (.slice A2 (rd_L1 l0 0).length c2) := hx0
  rw [hsq] at hx0
  rw [hln] at HMAY HSW hn0 hn8
  have HX0 := Aside0.mk hx0
  have HSOL := Aside0.mk hsol
  have HXS := Aside0.mk hX
  have HN0 := Aside0.mk hn0
  have HN8 := Aside0.mk hn8
  have HB := Aside0.mk (Below.refl w.heap.size w)
  have hx := hx0
  have q0_ : decide ((0 : Int) < (n : Int)) = true := decide_eq_true (by omega)
  have q1_ : ((0 : Int) < (n : Int)) = True := eq_true (by omega)
  have q2_ : (0 < n) = True := eq_true hn0
  have q3_ : ((n : Int) != (n : Int)) = false := by simp
  have q4_ : (n != n) = false := by simp
  have hit : decide ((n : Int) < (n : Int)) = false := decide_eq_false (by omega)
  clear hr0 hc0 hm hmay hsq hrk hsol hX hx0 hln hn0 hm0 hm8
  go_enter Try.func23, Try.ntmps23
  go_upto_region 6 with (go_at_call 44; (with_reducible refine (HMAY.out _ HB.out).mono ?_); rintro e w1 ⟨rfl, ⟨nd, rfl⟩⟩; have n1_ := Aside0.mk (pw_below_drewN HB.out nd); have hx := (n1_.out.cell (World.block_lt_of_cell? w _ HX0.out)).trans HX0.out; clear HB; have HB := n1_; clear n1_)
  clear q0_ q1_ q2_ q3_ q4_ hx
  go_upto_region 8 with (go_at_call 50; (with_reducible refine (HSW.out _ HB.out).mono ?_); rintro e w2 ⟨rfl, hb_⟩; have n1_ := Aside0.mk (HB.out.trans (hb_.mono HB.out.size)); clear HB hb_; have HB := n1_; clear n1_)
  have HS := Aside0.mk ((SL.start w).ext HB.out)
  clear hit
  go_upto_region 10 with ((with_reducible refine gate_dst (N := 27) rfl ?_); (with_reducible apply Sep.make_row (d := Kd.slice 3 (Kd.int .i64)) (t := 22) (e := 28) (n := (n : Int)) (z0 := [])); (case hSL => exact (by repeat (first | (with_reducible first | exact HS.out | apply Sep.SL.drewN | apply Sep.SL.drew | apply Sep.SL.alloc | apply below_drew1) | exact HS.out))); (case hgd => exact rfl); (case hd => exact rfl); (case ho => exact rfl); (case hx => exact rfl); (case hy => exact rfl); (case ht => exact Try.underlying22); (case hinfo => exact infoR); (case hz => exact rfl); (case hs0 => decide); (case hb0 => decide); (case hzero => exact (fun _ _ => ⟨_, rfl, Kd.R_nil _ _ _ _ _⟩)); (case h0 => exact Int.natCast_nonneg _); (case hl => rw [Int.toNat_natCast]; omega); intro v1_ w1_ hs_; have n1_ := Aside0.mk hs_; clear HS hs_; have HS := n1_; clear n1_; obtain ⟨g, co, e1_⟩ := Sep.SL.form HS.out 0 rfl (by rw [List.length_replicate, Int.toNat_natCast]; exact HN0.out); rw [Int.toNat_natCast] at e1_ HS; rw [List.length_replicate] at e1_; subst e1_)
  have HCO : Aside0 (n ≤ co) := ⟨by have := (Kd.R_reads' (HS.out.row 0 rfl)).2.1; exact this⟩
  have HS := Aside0.mk (matP_start (E := 3) (m := n) (hs := fun _ => 0) (cs := fun _ => 0) (rows := fun _ _ => 0) HS.out (List.length_replicate))
  go_loopg [30] n (fun kq v30 wr => ∃ (i : Nat) (hs cs : Nat → Nat) (rows : Nat → Nat → Int), v30 = .int .i64 (i : Int) ∧ i + kq = n ∧ Aside0 (∀ a b, a < i → b < n → rows a b = 0) ∧ Aside0 (SL w wr [matP 28 3 g n n i hs cs rows]))
  case atStart => exact ⟨0, _, _, _, rfl, by omega, ⟨fun a b h => absurd h (Nat.not_lt_zero _)⟩, HS⟩
  case round =>
    clear HS
    obtain ⟨i, hs, cs, rows, rfl, hin, HZ, HS⟩ := hrel
    cases gk with
    | succ g1 =>
      have hlt : i < n := by omega
      have HLT := Aside0.mk hlt
      have HIN : Aside0 (i + 1 + g1 = n) := ⟨by omega⟩
      have hwi := Aside0.mk (wr1 i (by omega))
      have hit : decide ((i : Int) < (n : Int)) = true := decide_eq_true (Int.ofNat_lt.2 hlt)
      have hit2 : decide (i < n) = true := decide_eq_true hlt
      have hb0_ : ((0 : Int) ≤ (i : Int)) = True := eq_true (Int.natCast_nonneg i)
      have hb1_ : ((i : Int) < (n : Int)) = True := eq_true (Int.ofNat_lt.2 hlt)
      have hb2_ : (i < n) = True := eq_true hlt
      clear hin hlt
      go_wp2_with ((with_reducible refine gate_dst (N := 36) rfl ?_); (with_reducible apply Sep.make_row (d := (Kd.int .i64)) (t := 28) (e := 3) (n := (n : Int)) (z0 := 0)); (case hSL => exact (by repeat (first | (with_reducible first | exact HS.out | apply Sep.SL.drewN | apply Sep.SL.drew | apply Sep.SL.alloc | apply below_drew1) | exact HS.out))); (case hgd => exact rfl); (case hd => exact rfl); (case ho => exact rfl); (case hx => exact rfl); (case hy => exact rfl); (case ht => exact Try.underlying28); (case hinfo => exact info3); (case hz => exact rfl); (case hs0 => decide); (case hb0 => omega); (case hzero => exact (fun _ _ => rfl)); (case h0 => omega); (case hl => omega); intro v1_ w1_ hs_; have n1_ := Aside0.mk hs_; clear HS hs_; have HS := n1_; clear n1_; obtain ⟨gr, cr, e1_⟩ := Sep.SL.form HS.out 0 rfl (by rw [List.length_replicate, Int.toNat_natCast]; exact HN0.out); rw [Int.toNat_natCast] at e1_ HS; rw [List.length_replicate] at e1_; subst e1_; obtain ⟨uc_, hy1_, hy2_⟩ := matP_cell HS.out 1 rfl i HLT.out; have HP := Aside0.mk (matP_add (by decide) HS.out.swap HLT.out (List.length_replicate)))
      go_roundg g1
      case measure => exact Nat.lt_succ_self _
      case rel => exact ⟨i + 1, _, _, _, congrArg (Value.int .i64) hwi.out, HIN.out, ⟨fun a b ha hb => by
        by_cases e : a = i
        · simp only [if_pos e]; rw [List.getD_eq_getElem?_getD, List.getElem?_replicate, if_pos hb]; rfl
        · simp only [if_neg e]; exact HZ.out a b (by omega) hb⟩, HP⟩
    | zero =>
      have hie : i = n := by omega
      subst hie
      have hit : decide ((i : Int) < (i : Int)) = false := decide_eq_false (by omega)
      clear hin
      have hs3 := matA_congr (rows' := fun a b => ((colsR X 0 0 a b : Nat) : Int)) (matP_end HS.out) 0 rfl (fun a b ha hb => by
        rw [HZ.out a b ha hb]
        unfold colsR
        rw [if_neg (by omega)]
        rfl)
      have HS : Aside0 (SL w wr [matN 28 3 g i i hs cs (colsR X 0 0)]) := ⟨hs3⟩
      clear hs3 HZ
      go_upto_region 15 with (fail)
      go_loopg [7] i (fun kq v7 wr => ∃ k : Nat, v7 = .int .i64 (k : Int) ∧ k + kq = i ∧ Aside0 (SL w wr [matN 28 3 g i i hs cs (colsR X k 0)]))
      case atStart => exact ⟨0, rfl, by omega, HS⟩
      case round =>
        clear HS hit
        obtain ⟨k, rfl, hkk, HS⟩ := hrel
        cases gk with
        | zero =>
          have hki : k = i := by omega
          subst hki
          have hit : decide ((k : Int) < (k : Int)) = false := decide_eq_false (by omega)
          clear hkk
          go_wp2_with (fail)
          go_ret2
          exact ⟨_, _, rfl, HCO.out, mat_C (mat_congr HS.out 0 rfl (fun a b ha hb => by unfold colsR; rw [if_pos (Or.inl hb)])) 0 rfl (by have := HN8.out; omega) (by have := HN8.out; omega), HS.out.below⟩
        | succ g1 =>
          have hkn : k < i := by omega
          have HKN := Aside0.mk hkn
          have HKI : Aside0 (k + 1 + g1 = i) := ⟨by omega⟩
          have hwk := Aside0.mk (wr1 k (by have := HN8.out; omega))
          have hit : decide ((k : Int) < (i : Int)) = true := decide_eq_true (Int.ofNat_lt.2 hkn)
          have hit2 : decide (k < i) = true := decide_eq_true hkn
          have hb0_ : ((0 : Int) ≤ (k : Int)) = True := eq_true (Int.natCast_nonneg k)
          have hb1_ : ((k : Int) < (i : Int)) = True := eq_true (Int.ofNat_lt.2 hkn)
          have hb2_ : (k < i) = True := eq_true hkn
          clear hkk hkn
          go_upto_region 18 with ((with_reducible refine gate_dst (N := 45) rfl ?_); (with_reducible apply Sep.make_row (d := (Kd.int .i64)) (t := 28) (e := 3) (n := (i : Int)) (z0 := 0)); (case hSL => exact (by repeat (first | (with_reducible first | exact HS.out | apply Sep.SL.drewN | apply Sep.SL.drew | apply Sep.SL.alloc | apply below_drew1) | exact HS.out))); (case hgd => exact rfl); (case hd => exact rfl); (case ho => exact rfl); (case hx => exact rfl); (case hy => exact rfl); (case ht => exact Try.underlying28); (case hinfo => exact info3); (case hz => exact rfl); (case hs0 => decide); (case hb0 => omega); (case hzero => exact (fun _ _ => rfl)); (case h0 => omega); (case hl => omega); intro v1_ w1_ hs_; have n1_ := Aside0.mk hs_; clear HS hs_; have HS := n1_; clear n1_; obtain ⟨gv, cv, e1_⟩ := Sep.SL.form HS.out 0 rfl (by rw [List.length_replicate, Int.toNat_natCast]; exact HN0.out); rw [Int.toNat_natCast] at e1_ HS; rw [List.length_replicate] at e1_; subst e1_; obtain ⟨hy1_, hy2_⟩ := HS.out.int 0 rfl (k : Int) (Int.natCast_nonneg k) (by rw [List.length_replicate]; exact Int.ofNat_lt.2 HKN.out); rw [Int.toNat_natCast] at hy1_ hy2_; have HP := Aside0.mk (HS.out.intPut 0 rfl (k : Int) 1); rw [Int.toNat_natCast] at HP)
          go_upto_region 19 with (fail)
          clear hit hit2 hb0_ hb1_ hb2_ hy1_ hy2_ HS
          have hR_ := Kd.R_reads' (HP.out.row 0 rfl)
          have hC_ := hR_.2.2
          rw [List.length_set, List.length_replicate] at hC_
          have HC := Aside0.mk hC_
          have HCV : Aside0 (i ≤ cv) := ⟨hR_.2.1⟩
          clear hR_ hC_
          go_upto_region 20 with (go_at_call 52; (with_reducible refine (HSOL.out _ HP.out.below k HKN.out _ cv HCV.out HC.out).mono ?_); rintro e w5 ⟨vx, rfl, hS_, hb_⟩; have HS := Aside0.mk (SL.new (A := rowA (Kd.int .i64) 3 vx (solP i (fun a => X a k) i)) (S := fun _ => True) HP.out.drop hb_ hS_); clear hS_ hb_ HP HC; obtain ⟨gs, cx, e1_⟩ := Sep.SL.form HS.out 0 rfl (by rw [solP_len]; exact HN0.out); rw [solP_len] at e1_; subst e1_)
          go_loopg [53] i (fun kq v53 wr => ∃ q : Nat, v53 = .int .i64 (q : Int) ∧ q + kq = i ∧ Aside0 (SL w wr [rowA (Kd.int .i64) 3 (.slice (some ⟨gs, 0, none⟩) i cx) (solP i (fun a => X a k) i), matN 28 3 g i i hs cs (colsR X k q)]))
          case atStart => exact ⟨0, rfl, by omega, HS⟩
          case round =>
            clear HS
            obtain ⟨q, rfl, hqq, HS⟩ := hrel
            cases gk with
            | zero =>
              have hqi : q = i := by omega
              subst hqi
              have hit : decide ((q : Int) < (q : Int)) = false := decide_eq_false (by omega)
              clear hqq
              have n1_ := Aside0.mk (mat_congr HS.out.drop 0 rfl (fun a b ha hb => colsR_next X k q a b ha))
              clear HS
              have HS := n1_
              clear n1_
              go_wp2_with (fail)
              go_roundg g1
              case measure => exact Nat.lt_succ_self _
              case rel => exact ⟨k + 1, congrArg (Value.int .i64) hwk.out, HKI.out, HS⟩
            | succ g2 =>
              have hqn : q < i := by omega
              have HQN := Aside0.mk hqn
              have HQI : Aside0 (q + 1 + g2 = i) := ⟨by omega⟩
              have hwq := Aside0.mk (wr1 q (by have := HN8.out; omega))
              have hit : decide ((q : Int) < (i : Int)) = true := decide_eq_true (Int.ofNat_lt.2 hqn)
              have hit2 : decide (q < i) = true := decide_eq_true hqn
              have hcs := Aside0.mk (colsR_set X k q)
              have hb3_ : ((0 : Int) ≤ (q : Int)) = True := eq_true (Int.natCast_nonneg q)
              have hb4_ : ((q : Int) < (i : Int)) = True := eq_true (Int.ofNat_lt.2 hqn)
              have hb5_ : (q < i) = True := eq_true hqn
              clear hqq
              obtain ⟨hz1_, hz2_⟩ := HS.out.int 0 rfl (q : Int) (Int.natCast_nonneg q) (by rw [solP_len]; exact Int.ofNat_lt.2 HQN.out)
              rw [Int.toNat_natCast, solP_at _ _ _ HQN.out] at hz1_
              go_upto_region 22 with (fail)
              clear hit hit2 hz1_ hz2_
              have hb0_ : ((0 : Int) ≤ (k : Int)) = True := eq_true (Int.natCast_nonneg k)
              have hb1_ : ((k : Int) < (i : Int)) = True := eq_true (Int.ofNat_lt.2 HKN.out)
              have hb2_ : (k < i) = True := eq_true HKN.out
              obtain ⟨hx_, _, _⟩ := mat_row HS.out 1 rfl q hqn
              obtain ⟨hy1_, hy2_, _⟩ := mat_cellN HS.out 1 rfl q k hqn HKN.out _ rfl
              have HP := Aside0.mk (mat_putN HS.out 1 rfl q k hqn (X q k) hcs.out)
              clear hqn
              go_wp2_with (fail)
              go_roundg g2
              case measure => exact Nat.lt_succ_self _
              case rel => exact ⟨q + 1, congrArg (Value.int .i64) hwq.out, HQI.out, HP⟩
end Go.Proofs.Ytpaenlplpaabjaa.QMatInverts
