/- The reference's MatInvert says what package mat's Invert says. No conditions but what a call's arguments are. -/
import Derived.Test.YtpaenlplpaabjaaMatE
import Derived.Test.YtpaenlplpaabjaaMatQ
import Derived.Test.YtpaenlplpaabjaaPureInv4
set_option linter.unusedVariables false
set_option linter.unusedSimpArgs false
namespace Go.Proofs.Ytpaenlplpaabjaa.InvL
open Go.Proofs.Ytpaenlplpaabjaa.QMatInverts Go.RowKit Go.Proofs.YtpaenlplpaabjaaW.PrintWords Go.Proofs.YtpaenlplpaabjaaW.PrintLast Go.Proofs.YtpaenlplpaabjaaW.PrintMore
open Go.Proofs.Ytpaenlplpaabjaa.Sep Go.Proofs.Ytpaenlplpaabjaa.MatB Go.Proofs.Ytpaenlplpaabjaa.Det
theorem element_is (a : Int) : quicksetref_Element.f a = some (elB a) := by
  unfold quicksetref_Element.f elB
  by_cases h : a ≥ 0
  · rw [if_pos h, decide_eq_true (show 0 ≤ a from h), Bool.true_and]
    congr 1
    rw [decide_eq_decide]; omega
  · rw [if_neg h, decide_eq_false (show ¬ 0 ≤ a from h), Bool.false_and]
def refRows (n : Nat) (l : List (List Int)) : Bool := l.all fun r => decide (r.length = n) && r.all elB
theorem refmay_row (m : List (List Int)) (i : Nat) (r : List Int) (hl : r.length < 1000000000000000) (q : Bool) (hq : ∃ k, quicksetref_MatMay.l0 k m m (m.length : Int) (wrap64 ((i : Int) + 1)) = some q) :
    ∀ d j, j + d = r.length → ∃ k, quicksetref_MatMay.l1 k m m (m.length : Int) (i : Int) r (r.length : Int) (j : Int) = some ((r.drop j).all elB && q)
  | 0, j, hj => by
    obtain ⟨k, hk⟩ := hq
    refine ⟨k + 1, ?_⟩
    simp only [quicksetref_MatMay.l1]
    rw [if_neg (by omega), List.drop_eq_nil_of_le (by omega), hk]; rfl
  | d + 1, j, hj => by
    obtain ⟨k, hk⟩ := refmay_row m i r hl q hq d (j + 1) (by omega)
    refine ⟨k + 1, ?_⟩
    simp only [quicksetref_MatMay.l1]
    rw [if_pos (by omega), if_pos (by omega), if_pos (by omega), element_is, bsome, wrap_suc j (by omega), hk, rd_cons r j (by omega), List.all_cons]
    cases elB (rd r j) <;> simp
theorem refmay_loop (m : List (List Int)) (hl : m.length ≤ 8) (hr : ∀ r ∈ m, r.length < 1000000000000000) : ∀ d i, i + d = m.length → ∃ k, quicksetref_MatMay.l0 k m m (m.length : Int) (i : Int) = some (refRows (rd_L1 m 0).length (m.drop i))
  | 0, i, hi => ⟨1, by simp only [quicksetref_MatMay.l0]; rw [if_neg (by omega), List.drop_eq_nil_of_le (by omega)]; rfl⟩
  | d + 1, i, hi => by
    have hn := refmay_loop m hl hr d (i + 1) (by omega)
    rw [← wrap_suc i (by omega)] at hn
    obtain ⟨k, hk⟩ := refmay_row m i (rd_L1 m i) (hr _ (L1_mem i (by omega))) _ hn (rd_L1 m i).length 0 (by omega)
    refine ⟨k + 1, ?_⟩
    simp only [quicksetref_MatMay.l0]
    rw [if_pos (by omega), if_pos (by omega), if_pos (by omega), if_pos (by omega), L1_cons m i (by omega)]
    simp only [refRows, List.all_cons] at hk ⊢
    by_cases h0 : ((rd_L1 m i).length : Int) = ((rd_L1 m 0).length : Int)
    · rw [if_pos h0, decide_eq_true (show (rd_L1 m i).length = (rd_L1 m 0).length from by omega), Bool.true_and, show (0 : Int) = ((0 : Nat) : Int) from rfl, hk]
      simp
    · rw [if_neg h0, decide_eq_false (show ¬ (rd_L1 m i).length = (rd_L1 m 0).length from by omega)]
      simp
theorem refRows_is (m : List (List Int)) (hl : 1 ≤ m.length) : (decide ((rd_L1 m 0).length ≠ 0) && decide ((rd_L1 m 0).length ≤ 8) && refRows (rd_L1 m 0).length m) = m.all (rowB (rd_L1 m 0).length) := by
  rw [Bool.eq_iff_iff]
  simp only [refRows, rowB, Bool.and_eq_true, decide_eq_true_eq, List.all_eq_true]
  constructor
  · rintro ⟨⟨h1, h2⟩, h3⟩ r hr
    have := h3 r hr
    exact ⟨⟨⟨this.1, by omega⟩, by omega⟩, this.2⟩
  · intro h
    have h0 := h (rd_L1 m 0) (L1_mem 0 (by omega))
    exact ⟨⟨by omega, by omega⟩, fun r hr => ⟨(h r hr).1.1.1, (h r hr).2⟩⟩
theorem refmay_is (m : List (List Int)) (hr : ∀ r ∈ m, r.length < 1000000000000000) : ∃ k, quicksetref_MatMay.f k m = some (mayB m) := by
  by_cases h0 : (m.length : Int) = 0
  · refine ⟨1, ?_⟩
    simp only [quicksetref_MatMay.f, quicksetref_MatMay.j0]
    rw [if_pos h0, if_pos trivial]; simp [mayB, show ¬ 1 ≤ m.length from by omega]
  · by_cases h1 : (m.length : Int) > 8
    · refine ⟨1, ?_⟩
      simp only [quicksetref_MatMay.f, quicksetref_MatMay.j0]
      rw [if_neg h0, if_pos h1, if_pos trivial]; simp [mayB, show ¬ m.length ≤ 8 from by omega]
    · have e := refRows_is m (by omega)
      have eb : mayB m = (decide ((rd_L1 m 0).length ≠ 0) && decide ((rd_L1 m 0).length ≤ 8) && refRows (rd_L1 m 0).length m) := by
        rw [e]; simp [mayB, show 1 ≤ m.length from by omega, show m.length ≤ 8 from by omega]
      rw [eb]
      by_cases h2 : ((rd_L1 m 0).length : Int) = 0
      · refine ⟨1, ?_⟩
        simp only [quicksetref_MatMay.f, quicksetref_MatMay.j0]
        rw [if_neg h0, if_neg h1, if_pos (by omega), if_pos h2, if_pos trivial]; simp [show (rd_L1 m 0).length = 0 from by omega]
      · by_cases h3 : ((rd_L1 m 0).length : Int) > 8
        · refine ⟨1, ?_⟩
          simp only [quicksetref_MatMay.f, quicksetref_MatMay.j0]
          rw [if_neg h0, if_neg h1, if_pos (by omega), if_neg h2, if_pos (by simpa using h3)]; simp [show ¬ (rd_L1 m 0).length ≤ 8 from by omega]
        · obtain ⟨k, hk⟩ := refmay_loop m (by omega) hr m.length 0 (by omega)
          refine ⟨k + 1, ?_⟩
          simp only [quicksetref_MatMay.f, quicksetref_MatMay.j0]
          rw [if_neg h0, if_neg h1, if_pos (by omega), if_neg h2, if_neg (by simpa using h3), show (0 : Int) = ((0 : Nat) : Int) from rfl, hk]
          have n0 : (rd_L1 m 0).length ≠ 0 := by omega
          have n8 : (rd_L1 m 0).length ≤ 8 := by omega
          simp [n0, n8]
theorem same_loop (a : List Int) (hl : a.length < 1000000000000000) : ∀ d i, i + d = a.length → ∃ k, quicksetlaw_sameInts.l0 k a a (i : Int) = some true
  | 0, i, hi => ⟨1, by simp only [quicksetlaw_sameInts.l0]; rw [if_neg (by omega)]⟩
  | d + 1, i, hi => by
    obtain ⟨k, hk⟩ := same_loop a hl d (i + 1) (by omega)
    refine ⟨k + 1, ?_⟩
    simp only [quicksetlaw_sameInts.l0]
    rw [if_pos (by omega), if_pos (by omega), if_pos (by omega), if_pos trivial, wrap_suc i (by omega), hk]
theorem same_ints (a : List Int) (hl : a.length < 1000000000000000) : ∃ k, quicksetlaw_sameInts.f k a a = some true := by
  obtain ⟨k, hk⟩ := same_loop a hl a.length 0 (by omega)
  refine ⟨k, ?_⟩
  unfold quicksetlaw_sameInts.f
  rw [if_pos rfl]
  exact hk
theorem same_mloop (a : List (List Int)) (hl : a.length < 1000000000000000) (hr : ∀ r ∈ a, r.length < 1000000000000000) : ∀ d i, i + d = a.length → ∃ k, quicksetlaw_sameMatrix.l0 k a a (i : Int) = some true
  | 0, i, hi => ⟨1, by rw [quicksetlaw_sameMatrix.l0, if_neg (by omega)]⟩
  | d + 1, i, hi => by
    obtain ⟨k, hk, hs⟩ := together (fun k => quicksetlaw_sameMatrix.mono_l k _ _ _) (fun k => quicksetlaw_sameInts.mono _ _ k) (same_mloop a hl hr d (i + 1) (by omega)) (same_ints (rd_L1 a (i : Int)) (hr _ (L1_mem i (by omega))))
    refine ⟨k + 1, ?_⟩
    rw [quicksetlaw_sameMatrix.l0, if_pos (by omega), if_pos (by omega), if_pos (by omega), hs, bsome, if_pos rfl, wrap_suc i (by omega), hk]
theorem same_matrix (a : List (List Int)) (hl : a.length < 1000000000000000) (hr : ∀ r ∈ a, r.length < 1000000000000000) : ∃ k, quicksetlaw_sameMatrix.f k a a = some true := by
  obtain ⟨k, hk⟩ := same_mloop a hl hr a.length 0 (by omega)
  refine ⟨k, ?_⟩
  unfold quicksetlaw_sameMatrix.f
  rw [if_pos rfl]
  exact hk
theorem outE_sol (R : Mx) (n : Nat) : outE R n n = solP n (subX R n n) n := by
  unfold outE solP
  exact List.map_congr_left (fun q hq => by rw [if_pos (List.mem_range.1 hq)])
def solB (n : Nat) (A : Mx) : Mx := fun i k => solE n (widM A n (fun a => dlt a k) n) i
theorem solC_big (A0 : Option Addr) (c0 n : Nat) (l0 : List (List Int)) (w : World) (hsq : squ n l0) (h5 : 5 ≤ n) (h8 : n ≤ 8) (hC : Kd.C (Kd.slice 3 (Kd.int .i64)) w A0 n l0) (hc : n ≤ c0) (hrank : swRun n n n 0 0 (natM l0) = n) : SolC A0 c0 n (solB n (natM l0)) w :=
  fun W hb k _ A1 c1 _ hV => by
    have h := Sol.solved_big A0 A1 c0 c1 n l0 (unitL n k) W hsq h5 h8 (Kd.C_below hC hb) hc hV (fun a => dlt a k) (fun a => dlt_lt a k) (fun a ha => rd_unit n k a ha) hrank
    rw [outE_sol] at h
    exact h
theorem inv_rowsB {n : Nat} {M : List (List Int)} {R' : Mx} (h : squ n M) (hrank : swRun n n n 0 0 (natM M) = n) (hR : small R') (hr : redRun n (n + n) n 0 0 (natM (bes M n n)) = (n, R')) : listM (solB n (natM M)) n n = rowsOf R' n n :=
  listM_rows (fun i k hi hk => by
    have hs := natM_small M h.2.2
    have hv : ∀ q, (fun a => dlt a k) q < 256 := fun q => dlt_lt q k
    show solE n (widM (natM M) n (fun a => dlt a k) n) i = _
    rw [solE_inv (bes_small h) (fun r j hr hj => bes_left h r j hr hj) (fun r k hr hk => bes_right h r k hr hk) hr (small_wid hs n hv n) (fun r j hr hj => by unfold widM; rw [if_neg (fun h => by omega)]) (fun a => dlt a k) hv (fun r hr => by unfold widM; rw [if_pos ⟨hr, rfl⟩]) hrank i hi, fn_unit hR hk])
theorem C_none (w : World) : Kd.C (Kd.slice 3 (Kd.int .i64)) w none 0 [] := by
  obtain ⟨A, c, e, _, h⟩ := Kd.R_reads (Kd.R_nil (Kd.slice 3 (Kd.int .i64)) 0 w 0 (fun _ => True))
  injection e with e1 _ _
  subst e1
  exact h
set_option maxHeartbeats 1000000 in
theorem refinv_calls (km : Nat) (A0 : Option Addr) (c0 : Nat) (l0 : List (List Int)) (w : World) (hr0 : Kd.C (Kd.slice 3 (Kd.int .i64)) w A0 l0.length l0) (hc0 : l0.length ≤ c0) (hmay : quicksetref_MatMay.f km l0 = some (mayB l0)) :
    Calls Try.prog 23 #[.slice A0 l0.length c0] w fun e w' => ∃ (A : Option Addr) (c : Nat), e = .returned (.tuple #[.slice A (invF l0).1.length c, .int .i64 (invF l0).2]) ∧ (invF l0).1.length ≤ c ∧ Kd.C (Kd.slice 3 (Kd.int .i64)) w' A (invF l0).1.length (invF l0).1 ∧ Below w.heap.size w w' := by
  by_cases hm : mayB l0 = true
  · rw [hm] at hmay
    obtain ⟨hrow, hel⟩ := may_all hm
    obtain ⟨hn0, hn8, _, _, _⟩ := may_rows hm
    by_cases hsq : (rd_L1 l0 0).length = l0.length
    · have hS : squ l0.length l0 := ⟨rfl, fun x hx => (hrow x hx).trans hsq, hel⟩
      have hrk : (invRun l0).1 = rankN l0 := by
        unfold invRun rankN
        rw [hsq]
        exact rank_same l0.length l0.length (l0.length + l0.length) (Nat.le_add_right _ _) l0.length 0 0 _ _ (fun a b _ ha hb => bes_left hS a b ha hb) (by omega) (Nat.zero_le _) (bes_small hS)
      by_cases hlt : rankN l0 < l0.length
      · have hv : invF l0 = ([], 10) := by unfold invF; rw [if_pos hm, if_pos hsq, hrk, if_pos hlt]
        rw [hv]
        exact (minv_zero km A0 c0 l0.length (rankN l0) l0 w rfl hr0 hc0 hm hmay hsq rfl hlt).mono (fun e w' h => ⟨none, 0, h.1, Nat.le_refl _, C_none w', h.2⟩)
      · have hle : rankN l0 ≤ l0.length := by
          unfold rankN
          have key : ∀ n d c r (W : Mx), r ≤ n → swRun n (rd_L1 l0 0).length d c r W ≤ n := by
            intro n d
            induction d with
            | zero => intro c r W h; exact h
            | succ d ih =>
              intro c r W h
              rw [swRun]
              split
              · rename_i h2
                exact ih (c + 1) (r + 1) _ (by have := (fnz_ge W c (n - r) r).1; omega)
              · exact ih (c + 1) r W h
          exact key _ _ _ _ _ (Nat.zero_le _)
        have hrn : rankN l0 = l0.length := by omega
        have hrun : swRun l0.length l0.length l0.length 0 0 (natM l0) = l0.length := by
          have h := hrn
          unfold rankN at h
          rw [hsq] at h
          exact h
        have hv : invF l0 = (rowsOf (invRun l0).2 l0.length l0.length, 0) := by unfold invF; rw [if_pos hm, if_pos hsq, hrk, if_neg hlt]
        have hred : redRun l0.length (l0.length + l0.length) l0.length 0 0 (natM (bes l0 l0.length l0.length)) = (l0.length, (invRun l0).2) := by
          have e : invRun l0 = ((invRun l0).1, (invRun l0).2) := rfl
          rw [hrk, hrn] at e
          exact e
        have hinv := inverse_of (bes_small hS) (fun r j hr hj => bes_left hS r j hr hj) (fun r k hr hk => bes_right hS r k hr hk) hred
        rw [hv]
        show Calls _ _ _ _ (fun e w' => ∃ (A : Option Addr) (c : Nat), e = .returned (.tuple #[.slice A (rowsOf (invRun l0).2 l0.length l0.length).length c, .int .i64 0]) ∧ (rowsOf (invRun l0).2 l0.length l0.length).length ≤ c ∧ Kd.C (Kd.slice 3 (Kd.int .i64)) w' A (rowsOf (invRun l0).2 l0.length l0.length).length (rowsOf (invRun l0).2 l0.length l0.length) ∧ Below w.heap.size w w')
        rw [rowsOf_len]
        by_cases h4 : l0.length ≤ 4
        · have hX : small (fun i k => cram l0.length (natM l0) (fun a => dlt a k) i) := fun i k => by
            unfold cram
            exact Gf.div_lt (Det.det_lt _ _ (small_col (natM_small l0 hel) i l0.length (fun a => dlt_lt a k))) (Det.det_lt _ _ (natM_small l0 hel))
          have h := minv_calls km A0 c0 l0.length l0 w _ hX rfl hr0 hc0 hm hmay hsq hrn (solC_small A0 c0 l0.length l0 w hS hn0 h4 hr0 hc0 hinv.2.1)
          rw [inv_rows hS hinv.1 hred] at h
          exact h
        · have hX : small (solB l0.length (natM l0)) := fun i k => by
            unfold solB solE
            exact subX_lt (small_eli _ _ _ (small_wid (natM_small l0 hel) _ (fun a => dlt_lt a k) _)) _ _ _
          have h := minv_calls km A0 c0 l0.length l0 w _ hX rfl hr0 hc0 hm hmay hsq hrn (solC_big A0 c0 l0.length l0 w hS (by omega) hn8 hr0 hc0 hrun)
          rw [inv_rowsB hS hrun hinv.1 hred] at h
          exact h
    · have hv : invF l0 = ([], 1) := by unfold invF; rw [if_pos hm, if_neg hsq]
      rw [hv]
      exact (minv_size km A0 c0 l0.length _ l0 w rfl hr0 hc0 hm hmay rfl hsq).mono (fun e w' h => ⟨none, 0, h.1, Nat.le_refl _, C_none w', h.2⟩)
  · have hv : invF l0 = ([], 4) := by unfold invF; rw [if_neg hm]
    rw [hv]
    rw [show mayB l0 = false from by simpa using hm] at hmay
    exact (minv_form km A0 c0 l0 w hr0 hc0 hmay).mono (fun e w' h => ⟨none, 0, h.1, Nat.le_refl _, C_none w', h.2⟩)
theorem invF_size (l0 : List (List Int)) : (invF l0).1.length ≤ 8 ∧ ∀ r ∈ (invF l0).1, r.length ≤ 8 := by
  unfold invF
  split
  · rename_i hm
    have h8 := (may_rows hm).2.1
    split
    · split
      · exact ⟨by simp, by simp⟩
      · refine ⟨by rw [rowsOf_len]; exact h8, fun r hr => ?_⟩
        rw [rowsOf_eq] at hr
        obtain ⟨i, _, rfl⟩ := List.mem_map.1 hr
        unfold rowOf
        rw [List.length_map, List.length_range]
        exact h8
    · exact ⟨by simp, by simp⟩
  · exact ⟨by simp, by simp⟩
set_option maxHeartbeats 2000000 in
set_option maxRecDepth 100000 in
theorem matInverts_calls (A : Option Addr) (c : Nat) (l : List (List Int)) (w : World) (hC : Kd.C (Kd.slice 3 (Kd.int .i64)) w A l.length l) (hl : l.length ≤ c) (h1 : l.length * 24 ≤ 140737488351232) (h2 : ∀ x ∈ l, (x.length * 8 ≤ 140737488351232 ∧ ∀ y ∈ x, (Lit.int .i64 y).wf = true)) :
    Calls Try.prog 7 #[.slice A l.length c] w fun e w' => e = .returned (.bool true) ∧ Below w.heap.size w w' := by
  have hr : ∀ r ∈ l, r.length < 1000000000000000 := fun r hr => by have := (h2 r hr).1; omega
  obtain ⟨k1, e1⟩ := may_is l hr
  obtain ⟨k2, e2⟩ := refmay_is l hr
  obtain ⟨g1, g2⟩ := invF_size l
  obtain ⟨k3, e3⟩ := same_matrix (invF l).1 (by omega) (fun r hr => by have := g2 r hr; omega)
  have HI := Aside0.mk (invert_calls k1 A c l w hC hl e1)
  have HR := Aside0.mk (fun (W : World) (hb : Below w.heap.size w W) => refinv_calls k2 A c l W (Kd.C_below hC hb) hl e2)
  have HSA := Aside0.mk (fun (A0 A1 : Option Addr) (c0 c1 : Nat) (W : World) (h : Kd.C (Kd.slice 3 (Kd.int .i64)) W A0 (invF l).1.length (invF l).1) (h' : Kd.C (Kd.slice 3 (Kd.int .i64)) W A1 (invF l).1.length (invF l).1) (hc : (invF l).1.length ≤ c0) (hc' : (invF l).1.length ≤ c1) => quicksetlaw_sameMatrix.calls k3 A0 c0 (invF l).1 A1 c1 (invF l).1 true W h hc h' hc' e3)
  have HB := Aside0.mk (Below.refl w.heap.size w)
  obtain ⟨len, hlen⟩ : ∃ len, len = l.length := ⟨_, rfl⟩
  rw [← hlen] at HI HR ⊢
  obtain ⟨iv, hiv⟩ : ∃ iv, iv = invF l := ⟨_, rfl⟩
  rw [← hiv] at HI HR HSA
  clear e1 e2 e3 g1 g2 h1 h2 hC hl hlen hr hiv
  go_enter Try.func7, Try.ntmps7
  go_upto_region 2 with (go_at_call 22; (with_reducible refine HI.out.mono ?_); rintro e w1 ⟨vx, rfl, hR_, hb_⟩; obtain ⟨Ax, cx, ex, hcx, hCx⟩ := Kd.R_reads hR_; subst ex; have HX := Aside0.mk hCx; have HXC := Aside0.mk hcx; clear HB; have HB := Aside0.mk hb_; clear hR_ hb_ hcx hCx)
  go_upto_region 3 with (go_at_call 23; (with_reducible refine (HR.out _ HB.out).mono ?_); rintro e w3 ⟨Ay, cy, rfl, hcy, hCy, hb_⟩; have HX2 := Aside0.mk (Kd.C_below HX.out hb_); clear HX; have HX := HX2; clear HX2; have HY := Aside0.mk hCy; have HYC := Aside0.mk hcy; have HB2 := Aside0.mk (HB.out.trans (hb_.mono HB.out.size)); clear HB; have HB := HB2; clear HB2 hcy hCy hb_)
  have HSB := Aside0.mk (HSA.out Ax Ay cx cy w3 HX.out HY.out HXC.out HYC.out)
  clear HI HR HSA
  go_wp2_with (go_at_call 14; (with_reducible refine HSB.out.mono ?_); rintro e w4 ⟨rfl, ⟨nd, rfl⟩⟩)
  go_ret
  exact ⟨rfl, pw_below_drewN HB.out nd⟩
end Go.Proofs.Ytpaenlplpaabjaa.InvL
