/- Package mat's Invert, walked; no conditions. -/
import Derived.Test.YtpaenlplpaabjaaMatG
import Derived.WalkSpells
set_option linter.unusedVariables false
set_option linter.unusedSimpArgs false
namespace Go.Proofs.Ytpaenlplpaabjaa.QMatInverts
open Go.RowKit Go.Proofs.YtpaenlplpaabjaaW.PrintWords Go.Proofs.YtpaenlplpaabjaaW.PrintLast Go.Proofs.YtpaenlplpaabjaaW.PrintMore
open Go.Proofs.Ytpaenlplpaabjaa.Sep Go.Proofs.Ytpaenlplpaabjaa.MatB
theorem R_build0i (E : Nat) {w : World} (B : Nat) (hB : B ≤ w.heap.size) : Kd.R (Kd.int .i64) E (w.alloc (.cells #[] E (0, 0))) B (fun _ => True) (.slice (some ⟨w.heap.size, 0, none⟩) 0 0) [] :=
  ints_of_cur (cur := []) (xs := []) trivial hB (blk_new w _) (Nat.le_refl _) rfl (Nat.zero_le _) rfl
set_option maxHeartbeats 1000000 in
set_option maxRecDepth 100000 in
theorem clonei_calls (ad : Addr) (n c : Nat) (l : List Int) (w : World) (hn : l.length = n) (hC : Kd.C (Kd.int .i64) w (some ad) n l) (hl : n ≤ 1048576) :
    Calls Try.prog 51 #[.slice (some ad) n c] w fun e w' => ∃ v : Value, e = .returned v ∧ Kd.R (Kd.int .i64) 3 w' w.heap.size (fun _ => True) v l ∧ Below w.heap.size w w' := by
  subst hn
  have HC := Aside0.mk hC
  have HL := Aside0.mk hl
  clear hC hl
  have hu := fun (W : World) => Lib.run_eql_slice_nil (P := Try.prog) W 28 3 (some ad) l.length c 0 0 Try.underlying28
  go_enter Try.func51, Try.ntmps51
  go_wp2_with ((with_reducible refine gate_builtin (b := .append) (xs := #[.tmp 5, .tmp 6]) rfl ?_); at_builtin; (with_reducible apply Kd.R_append_rows (Kd.int .i64) (Rr := (Kd.int .i64).K w) (w0 := w) (base := w.heap.size) (s := .tmp 5) (x := .tmp 6) (t := 28) (e := 3) (v := .slice (some ⟨w.heap.size, 0, none⟩) 0 0) (xs := []) (ys := l) (m := l.length) (ok := fun _ => True) (okp := fun _ => False)); (case hgd => exact rfl); (case ho => exact rfl); (case ht => exact Try.underlying28); (case hinfo => exact infoI); (case hz => exact rfl); (case hs0 => decide); (case hb0 => decide); (case hs => exact rfl); (case hx => exact rfl); (case HO => exact R_build0i _ _ (Nat.le_refl _)); (case HR => exact Kd.C_below HC.out (below_alloc (Below.refl _ _) _)); (case hKM => exact fun _ _ h_ => h_); (case hokp => exact fun _ h => h.elim); (case hfresh => exact fun _ _ => trivial); (case HB => exact below_alloc (Below.refl _ _) _); (case hbase => simp [World.size_alloc]); (case hl => have := HL.out; simp; omega); intro v1_ w1_ ho_ hb_ hg_ hat_; rw [List.nil_append] at ho_; have HO_ := Aside0.mk ho_; have HB_ := Aside0.mk hb_; clear ho_ hb_ hg_ hat_)
  go_ret
  exact ⟨_, rfl, HO_.out, HB_.out⟩
theorem _root_.List.getElem?_range_some {n j q : Nat} (h : (List.range n)[j]? = some q) : j < n ∧ j = q := by
  obtain ⟨h1, h2⟩ := List.getElem?_eq_some_iff.1 h
  rw [List.length_range] at h1
  exact ⟨h1, by rw [← h2, List.getElem_range]⟩
theorem C_ints {w : World} {g o n : Nat} (l : List Int) (hn : l.length = n) (hb : n ≤ 8000) (hc : ∀ j x, l[j]? = some x → w.cell? ⟨g, o + j, none⟩ = some (.int .i64 x)) : Kd.C (Kd.int .i64) w (some ⟨g, o, none⟩) n l := by
  refine ⟨hn, by omega, fun _ => ⟨_, rfl, fun j p hj => ⟨[.int .i64 p], rfl, rfl, fun i u hi => ?_⟩⟩⟩
  cases i with
  | zero =>
    have e : u = .int .i64 p := by simpa using hi.symm
    subst e
    have hs1 : (Kd.int .i64).sz = 1 := rfl
    rw [hs1, Nat.mul_one, Nat.add_zero, add_at]
    exact hc j p hj
  | succ i => simp at hi
theorem besRow_len (r : List Int) (more i : Nat) : (besRow r more i).length = r.length + more := by
  unfold besRow
  split
  · rw [List.length_set, List.length_append, List.length_replicate]
  · rw [List.length_append, List.length_replicate]
theorem bes_mem (l : List (List Int)) (more : Nat) : ∀ k x, x ∈ bes l more k → ∃ i, i < k ∧ x = besRow (rd_L1 l (i : Int)) more i
  | 0, x, h => absurd h (List.not_mem_nil)
  | k + 1, x, h => by
    rw [bes] at h
    rcases List.mem_append.1 h with h | h
    · obtain ⟨i, hi, e⟩ := bes_mem l more k x h
      exact ⟨i, by omega, e⟩
    · exact ⟨k, by omega, by simpa using h⟩
theorem besRow_el (r : List Int) (more i : Nat) (h : r.all elB = true) : (besRow r more i).all elB = true := by
  have h0 : (r ++ List.replicate more 0).all elB = true := by
    rw [List.all_append, h, Bool.true_and, List.all_eq_true]
    intro x hx
    rw [(List.mem_replicate.1 hx).2]
    rfl
  unfold besRow
  split
  · rw [List.all_eq_true]
    intro x hx
    rcases List.mem_or_eq_of_mem_set hx with h1 | h1
    · exact List.all_eq_true.1 h0 x h1
    · rw [h1]; rfl
  · exact h0
def invRun (l0 : List (List Int)) : Nat × Mx := redRun l0.length (l0.length + l0.length) l0.length 0 0 (natM (bes l0 l0.length l0.length))
def rowOf (R : Mx) (n i : Nat) : List Int := (List.range n).map (fun j => ((R i (n + j) : Nat) : Int))
def rowsOf (R : Mx) (n : Nat) : Nat → List (List Int)
  | 0 => []
  | i + 1 => rowsOf R n i ++ [rowOf R n i]
theorem rowsOf_len (R : Mx) (n : Nat) : ∀ i, (rowsOf R n i).length = i
  | 0 => rfl
  | i + 1 => by rw [rowsOf, List.length_append, rowsOf_len R n i, List.length_singleton]
def invF (l0 : List (List Int)) : List (List Int) × Int := if mayB l0 = true then (if (rd_L1 l0 0).length = l0.length then (if (invRun l0).1 < l0.length then ([], 10) else (rowsOf (invRun l0).2 l0.length l0.length, 0)) else ([], 1)) else ([], 4)
set_option maxHeartbeats 4000000 in
set_option maxRecDepth 100000 in
theorem invert_calls (k : Nat) (A0 : Option Addr) (c0 : Nat) (l0 : List (List Int)) (w : World) (hr0 : Kd.C (Kd.slice 3 (Kd.int .i64)) w A0 l0.length l0) (hc0 : l0.length ≤ c0) (hmay : mat_May.f k l0 = some (mayB l0)) :
    Calls Try.prog 22 #[.slice A0 l0.length c0] w fun e w' => ∃ v : Value, e = .returned (.tuple #[v, .int .i64 (invF l0).2]) ∧ Kd.R (Kd.slice 3 (Kd.int .i64)) 28 w' w.heap.size (fun _ => True) v (invF l0).1 ∧ Below w.heap.size w w' := by
  have HB := Aside0.mk (Below.refl w.heap.size w)
  by_cases hm : mayB l0 = true
  · obtain ⟨hn0, hn8, hm0, hm8, _⟩ := may_rows hm
    obtain ⟨hrow, hel⟩ := may_all hm
    rw [hm] at hmay
    have HMAY := Aside0.mk (fun (W : World) (hb : Below w.heap.size w W) => mat_May.calls k A0 c0 l0 true W (Kd.C_below hr0 hb) hc0 hmay)
    by_cases hsq : (rd_L1 l0 0).length = l0.length
    · have hval : invF l0 = (if (invRun l0).1 < l0.length then ([], 10) else (rowsOf (invRun l0).2 l0.length l0.length, 0)) := by unfold invF; rw [if_pos hm, if_pos hsq]
      have HBES := Aside0.mk (fun (W : World) (hb : Below w.heap.size w W) => bes_calls A0 c0 l0.length l0 W (Kd.C_below hr0 hb) hc0 hn8 (fun r hr => by rw [hrow r hr]; exact ⟨hm0, hm8⟩) (.inr (Nat.le_refl _)) hn8)
      obtain ⟨ad0, A2, c2, rfl, hx0, _, _⟩ := at_L1 hr0 0 (Int.le_refl 0) (by omega)
      replace hx0 : w.cell? ad0 = some (.slice A2 (rd_L1 l0 0).length c2) := hx0
      rw [hsq] at hx0
      have HX0 := Aside0.mk hx0
      have hbm := bes_mem l0 l0.length l0.length
      have hbl : (bes l0 l0.length l0.length).length = l0.length := bes_len _ _ _
      have hbr : ∀ x ∈ bes l0 l0.length l0.length, x.length = l0.length + l0.length := fun x hx => by
        obtain ⟨i, hi, rfl⟩ := hbm x hx
        rw [besRow_len, hrow _ (L1_mem i hi), hsq]
      have hbe : ∀ x ∈ bes l0 l0.length l0.length, x.all elB = true := fun x hx => by
        obtain ⟨i, hi, rfl⟩ := hbm x hx
        exact besRow_el _ _ _ (hel _ (L1_mem i hi))
      have HTO := Aside0.mk (fun (W w' : World) (v : Value) (h : SL W w' [sA (Kd.slice 3 (Kd.int .i64)) 28 v (bes l0 l0.length l0.length)]) => to_matN (m := l0.length + l0.length) h (by omega) (by omega) hbr hbe)
      rw [hbl] at HTO
      have HSM := Aside0.mk (natM_small _ hbe)
      obtain ⟨o, ho⟩ : ∃ o, o = invRun l0 := ⟨_, rfl⟩
      rw [← ho] at hval
      unfold invRun at ho
      obtain ⟨rk, R'⟩ := o
      have HRUN := Aside0.mk ho.symm
      have HVAL := Aside0.mk hval
      obtain ⟨R0, hR0⟩ : ∃ R0, R0 = natM (bes l0 l0.length l0.length) := ⟨_, rfl⟩
      rw [← hR0] at HRUN HSM HTO
      obtain ⟨n, hn⟩ : ∃ n, n = l0.length := ⟨_, rfl⟩
      have HN := Aside0.mk hn
      rw [← hn] at HBES HTO HRUN HMAY HX0 hn0 hn8 ⊢
      have HN0 := Aside0.mk hn0
      have HN8 := Aside0.mk hn8
      have q0_ : decide ((0 : Int) < (n : Int)) = true := decide_eq_true (by omega)
      have q1_ : ((0 : Int) < (n : Int)) = True := eq_true (by omega)
      have q2_ : (0 < n) = True := eq_true hn0
      have q3_ : ((n : Int) != (n : Int)) = false := by simp
      have q4_ : (n != n) = false := by simp
      clear hr0 hc0 hm hrow hel hx0 ho hn hn0 hn8 hm0 hm8 hsq hbm hbl hbr hbe hval hR0 hmay
      have hx := HX0.out
      go_enter Try.func22, Try.ntmps22
      go_upto_region 6 with (go_at_call 40; (with_reducible refine (HMAY.out _ HB.out).mono ?_); rintro e w1 ⟨rfl, ⟨nd, rfl⟩⟩)
      have HB2 := Aside0.mk (pw_below_drewN HB.out nd)
      clear HB hx HMAY q0_ q1_ q2_ q3_ q4_
      generalize World.drewN _ _ = w2 at HB2 ⊢
      by_cases hlt : rk < n
      · have hit : decide ((rk : Int) < (n : Int)) = true := decide_eq_true (by omega)
        have hit2 : decide (rk < n) = true := decide_eq_true hlt
        have hv2 : invF l0 = ([], 10) := by rw [HVAL.out, if_pos (by rw [← HN.out]; exact hlt)]
        have HV2 := Aside0.mk hv2
        clear hlt hv2
        go_upto_region 7 with (go_at_call 48; (with_reducible refine (HBES.out _ HB2.out).mono ?_); rintro e w4 ⟨v, rfl, hs_⟩; obtain ⟨g, cap, hs0, cs0, rfl, hcap, hs1_⟩ := HTO.out _ w4 v hs_; have HS := Aside0.mk hs1_; have HCAP := Aside0.mk hcap; clear hs_ hs1_ hcap)
        go_wp2_with (go_at_call 49; (with_reducible refine (red_calls inv_c _ _ g n (n + n) cap n hs0 cs0 R0 rk R' HS.out HSM.out (Nat.le_add_left n n) (Nat.le_trans HN8.out (by decide)) (Nat.le_trans (Nat.add_le_add HN8.out HN8.out) (by decide)) HCAP.out HRUN.out).mono ?_); rintro e w5 ⟨rfl, hs2, cs2, hs_⟩; have HF := Aside0.mk (HB2.out.trans (hs_.below.mono HB2.out.size)); clear HS hs_)
        go_ret2
        exact ⟨_, by rw [HV2.out]; rfl, by rw [HV2.out]; exact Kd.R_nil _ _ _ _ _, HF.out⟩
      · have hit : decide ((rk : Int) < (n : Int)) = false := decide_eq_false (by omega)
        have hit2 : decide (rk < n) = false := decide_eq_false hlt
        have hv2 : invF l0 = (rowsOf R' n n, 0) := by rw [HVAL.out, if_neg (by rw [← HN.out]; exact hlt), ← HN.out]
        have HV2 := Aside0.mk hv2
        clear hlt hv2
        go_upto_region 7 with (go_at_call 48; (with_reducible refine (HBES.out _ HB2.out).mono ?_); rintro e w4 ⟨v, rfl, hs_⟩; obtain ⟨g, cap, hs0, cs0, rfl, hcap, hs1_⟩ := HTO.out _ w4 v hs_; have HS := Aside0.mk hs1_; have HCAP := Aside0.mk hcap; clear hs_ hs1_ hcap)
        go_upto_region 9 with (go_at_call 49; (with_reducible refine (red_calls inv_c _ _ g n (n + n) cap n hs0 cs0 R0 rk R' HS.out HSM.out (Nat.le_add_left n n) (Nat.le_trans HN8.out (by decide)) (Nat.le_trans (Nat.add_le_add HN8.out HN8.out) (by decide)) HCAP.out HRUN.out).mono ?_); rintro e w5 ⟨rfl, hs2, cs2, hs_⟩; have HS2 := Aside0.mk hs_; clear HS hs_; have HS := HS2; clear HS2)
        clear hit hit2
        have HS := Aside0.mk (sA_nil HS.out (Kd.slice 3 (Kd.int .i64)) 28)
        go_upto_region 11 with (fail)
        go_loopg [6, 30] n (fun kq v6 v30 wr => ∃ i : Nat, v30 = .int .i64 (i : Int) ∧ i + kq = n ∧ Aside0 (SL w2 wr [sA (Kd.slice 3 (Kd.int .i64)) 28 v6 (rowsOf R' n i), matN 28 3 g n (n + n) hs2 cs2 R']))
        case atStart => exact ⟨0, rfl, by omega, HS⟩
        case round =>
          clear HS
          obtain ⟨i, rfl, hin, HS⟩ := hrel
          cases gk with
          | zero =>
            have hie : i = n := by omega
            subst hie
            have hit : decide ((i : Int) < (i : Int)) = false := decide_eq_false (by omega)
            clear hin
            obtain ⟨Ao, co, eo⟩ := sA_slice HS.out 0 rfl
            subst eo
            go_wp2_with (fail)
            go_ret2
            exact ⟨_, by rw [HV2.out]; rfl, by rw [HV2.out]; exact Kd.R_lower (sA_row HS.out 0 rfl) HB2.out.size, HB2.out.trans (HS.out.below.mono HB2.out.size)⟩
          | succ g1 =>
            have hlt : i < n := by omega
            have HIN : Aside0 (i + 1 + g1 = n) := ⟨by omega⟩
            have hwi := Aside0.mk (wr1 i (by have := HN8.out; omega))
            have hit : decide ((i : Int) < (n : Int)) = true := decide_eq_true (Int.ofNat_lt.2 hlt)
            have hit2 : decide (i < n) = true := decide_eq_true hlt
            have hi0_ : ((0 : Int) ≤ (i : Int)) = True := eq_true (Int.natCast_nonneg i)
            have hi1_ : ((i : Int) < (n : Int)) = True := eq_true (Int.ofNat_lt.2 hlt)
            have hi2_ : (i < n) = True := eq_true hlt
            have hle := mat_le HS.out 1 rfl i hlt
            obtain ⟨hx1_, _, _⟩ := mat_row HS.out 1 rfl i hlt
            obtain ⟨i0, hi, hz0, hz1, hz2⟩ := info_parts infoI
            have hcut := fun (W : World) => cut_from (P := Try.prog) 28 3 .i64 Try.underlying28 hi 1 hz1 (some ⟨hs2 i, 0, none⟩) (n + n) (cs2 i) (n : Int) (Int.natCast_nonneg _) (by omega) W
            have hA : (if cs2 i = ((n : Nat) : Int).toNat then (some ⟨hs2 i, 0, none⟩ : Option Addr) else (some ⟨hs2 i, 0, none⟩ : Option Addr).map (·.add (((n : Nat) : Int).toNat * 1))) = some ⟨hs2 i, n, none⟩ := by
              rw [Int.toNat_natCast, if_neg (by have := HN0.out; omega), Nat.mul_one]
              exact congrArg some ((add_at _ 0 n).trans (by rw [Nat.zero_add]))
            rw [hA, Int.toNat_natCast, Nat.add_sub_cancel] at hcut
            have HCL := Aside0.mk (fun (W : World) (hS : SL w2 W [sA (Kd.slice 3 (Kd.int .i64)) 28 u6 (rowsOf R' n i), matN 28 3 g n (n + n) hs2 cs2 R']) => clonei_calls ⟨hs2 i, n, none⟩ n (cs2 i - n) (rowOf R' n i) W (by unfold rowOf; rw [List.length_map, List.length_range]) (C_ints _ (by unfold rowOf; rw [List.length_map, List.length_range]) (by have := HN8.out; omega) (fun j x hj => by
              unfold rowOf at hj
              rw [List.getElem?_map] at hj
              obtain ⟨q, hq, rfl⟩ := Option.map_eq_some_iff.1 hj
              obtain ⟨hq1, hq2⟩ := List.getElem?_range_some hq
              rw [← hq2]
              exact (mat_cell hS 1 rfl i (n + j) hlt (by omega)).1)) (by have := HN8.out; omega))
            have HIB : Aside0 (((rowsOf R' n i).length + 1) * 24 ≤ 140737488355328) := ⟨by rw [rowsOf_len]; have := HN8.out; omega⟩
            have hnx : rowsOf R' n (i + 1) = rowsOf R' n i ++ [rowOf R' n i] := rfl
            have HNX := Aside0.mk hnx
            obtain ⟨x, hx⟩ : ∃ x, x = rowOf R' n i := ⟨_, rfl⟩
            rw [← hx] at HCL HNX
            clear hi hz0 hz1 hz2 hA hle hin hnx hx hlt
            go_wp2_with (first | (go_at_call 51; (with_reducible refine (HCL.out _ HS.out).mono ?_); rintro e w6 ⟨vn, rfl, hr_, hb_⟩; obtain ⟨An, cn, e1_⟩ := Kd.R_slice hr_; subst e1_; have HN2 := Aside0.mk (HS.out.newRow hb_ hr_); clear HS hb_ hr_) | ((with_reducible refine gate_builtin (b := .append) (xs := #[.tmp 34, .tmp 39]) rfl ?_); at_builtin; (with_reducible apply MatB.append_srow (d := Kd.int .i64) (e' := 3) (t := 22) (e := 28) (s := .tmp 34) (x := .tmp 39) (p := x)); (case hSL => exact HN2.out.swap); (case hgd => exact rfl); (case ho => exact rfl); (case ht => exact Try.underlying22); (case hinfo => exact infoR); (case hz => exact rfl); (case hb0 => exact Nat.succ_pos 23); (case hs => exact rfl); (case hx => exact rfl); (case hl => exact HIB.out); intro v1_ w1_ hs_; have HS := Aside0.mk hs_; clear HN2 hs_))
            go_roundg g1
            case measure => exact Nat.lt_succ_self _
            case rel => exact ⟨i + 1, congrArg (Value.int .i64) hwi.out, HIN.out, by rw [HNX.out]; exact HS⟩
    · have hval : invF l0 = ([], 1) := by unfold invF; rw [if_pos hm, if_neg hsq]
      have HVAL := Aside0.mk hval
      obtain ⟨ad0, A2, c2, rfl, hx0, _, _⟩ := at_L1 hr0 0 (Int.le_refl 0) (by omega)
      replace hx0 : w.cell? ad0 = some (.slice A2 (rd_L1 l0 0).length c2) := hx0
      obtain ⟨m, hmm⟩ : ∃ m, m = (rd_L1 l0 0).length := ⟨_, rfl⟩
      obtain ⟨n, hn⟩ : ∃ n, n = l0.length := ⟨_, rfl⟩
      rw [← hmm] at hx0 hsq
      rw [← hn] at hsq HMAY hn0 ⊢
      have hx := hx0
      have q0_ : decide ((0 : Int) < (n : Int)) = true := decide_eq_true (by omega)
      have q1_ : ((0 : Int) < (n : Int)) = True := eq_true (by omega)
      have q2_ : (0 < n) = True := eq_true hn0
      have q3_ : ((m : Int) != (n : Int)) = true := bne_iff_ne.2 (by omega)
      have q4_ : (m != n) = true := bne_iff_ne.2 hsq
      clear hr0 hc0 hm hrow hel hx0 hn hn0 hn8 hm0 hm8 hsq hval hmm hmay
      go_enter Try.func22, Try.ntmps22
      go_wp2_with (go_at_call 40; (with_reducible refine (HMAY.out _ HB.out).mono ?_); rintro e w1 ⟨rfl, ⟨nd, rfl⟩⟩)
      go_ret2
      exact ⟨_, by rw [HVAL.out]; rfl, by rw [HVAL.out]; exact Kd.R_nil _ _ _ _ _, pw_below_drewN HB.out nd⟩
  · have hval : invF l0 = ([], 4) := by unfold invF; rw [if_neg hm]
    have HVAL := Aside0.mk hval
    rw [Bool.eq_false_iff.2 hm] at hmay
    have HMAY := Aside0.mk (fun (W : World) (hb : Below w.heap.size w W) => mat_May.calls k A0 c0 l0 false W (Kd.C_below hr0 hb) hc0 hmay)
    clear hr0 hc0 hm hval hmay
    go_enter Try.func22, Try.ntmps22
    go_wp2_with (go_at_call 40; (with_reducible refine (HMAY.out _ HB.out).mono ?_); rintro e w1 ⟨rfl, ⟨nd, rfl⟩⟩)
    go_ret2
    exact ⟨_, by rw [HVAL.out]; rfl, by rw [HVAL.out]; exact Kd.R_nil _ _ _ _ _, pw_below_drewN HB.out nd⟩
end Go.Proofs.Ytpaenlplpaabjaa.QMatInverts
