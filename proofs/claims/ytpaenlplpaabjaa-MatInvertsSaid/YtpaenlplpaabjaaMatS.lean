/- The reference's sweep of a matrix's rows, walked; no conditions. -/
import Derived.Test.YtpaenlplpaabjaaMatO
set_option linter.unusedVariables false
set_option linter.unusedSimpArgs false
namespace Go.Proofs.Ytpaenlplpaabjaa.QMatInverts
open Go.RowKit Go.Proofs.YtpaenlplpaabjaaW.PrintWords Go.Proofs.YtpaenlplpaabjaaW.PrintLast Go.Proofs.YtpaenlplpaabjaaW.PrintMore
open Go.Proofs.Ytpaenlplpaabjaa.Sep Go.Proofs.Ytpaenlplpaabjaa.MatB
/-! ### A matrix of elements, as plain numbers -/
def natM (l : List (List Int)) : Mx := fun i j => ((l.getD i []).getD j 0).toNat
theorem natM_el (l : List (List Int)) (h : ∀ x ∈ l, x.all elB = true) (i j : Nat) : (l.getD i []).getD j 0 = ((natM l i j : Nat) : Int) ∧ natM l i j < 256 := by
  have key : elB ((l.getD i []).getD j 0) = true := by
    rw [List.getD_eq_getElem?_getD, List.getD_eq_getElem?_getD]
    by_cases hi : i < l.length
    · rw [List.getElem?_eq_getElem hi, Option.getD_some]
      by_cases hj : j < l[i].length
      · rw [List.getElem?_eq_getElem hj, Option.getD_some]
        exact List.all_eq_true.1 (h _ (List.getElem_mem hi)) _ (List.getElem_mem hj)
      · rw [List.getElem?_eq_none (Nat.le_of_not_lt hj)]; rfl
    · rw [List.getElem?_eq_none (Nat.le_of_not_lt hi)]; rfl
  have := elB_nat key
  exact ⟨this.1, this.2⟩
theorem natM_small (l : List (List Int)) (h : ∀ x ∈ l, x.all elB = true) : small (natM l) := fun i j => (natM_el l h i j).2
theorem to_matN {E T m : Nat} {w0 w : World} {l : List Asn} {v : Value} {xs : List (List Int)} (h : SL w0 w (sA (Kd.slice E (Kd.int .i64)) T v xs :: l)) (hn : 0 < xs.length) (hm : 0 < m) (hrow : ∀ x ∈ xs, x.length = m) (hel : ∀ x ∈ xs, x.all elB = true) :
    ∃ g cap hs cs, v = .slice (some ⟨g, 0, none⟩) xs.length cap ∧ xs.length ≤ cap ∧ SL w0 w (matN T E g xs.length m hs cs (natM xs) :: l) := by
  obtain ⟨g, cap, hs, cs, h1, h2, h3⟩ := to_mat h hn hm hrow
  refine ⟨g, cap, hs, cs, h1, h2, ?_⟩
  have e : (fun i j => (xs.getD i []).getD j 0) = fun a b => ((natM xs a b : Nat) : Int) := by
    funext i j
    exact (natM_el xs hel i j).1
  rw [e] at h3
  exact h3
/-! ### The sweep over plain numbers -/
def lowAll (R : Mx) (r c m i : Nat) : Mx := fun a b => if r < a ∧ a < i ∧ b < m then R a b ^^^ Gf.mul (Gf.div (R a c) (R r c)) (R r b) else R a b
def swStep (n m c r p : Nat) (R : Mx) : Mx := lowAll (swapR R r p) r c m n
def swRun (n m : Nat) : Nat → Nat → Nat → Mx → Nat
  | 0, _, r, _ => r
  | d + 1, c, r, R => if fnz R c (n - r) r < n then swRun n m d (c + 1) (r + 1) (swStep n m c r (fnz R c (n - r) r) R) else swRun n m d (c + 1) r R
theorem sw_none {n m d c r o : Nat} {R : Mx} (h : swRun n m (d + 1) c r R = o) (hp : ¬ fnz R c (n - r) r < n) : swRun n m d (c + 1) r R = o := by rw [swRun, if_neg hp] at h; exact h
theorem sw_some {n m d c r o p : Nat} {R : Mx} (h : swRun n m (d + 1) c r R = o) (hq : fnz R c (n - r) r = p) (hp : p < n) : swRun n m d (c + 1) (r + 1) (lowAll (swapR R r p) r c m n) = o := by subst hq; rw [swRun, if_pos hp] at h; exact h
theorem small_low {R : Mx} (h : small R) (r c m i : Nat) : small (lowAll R r c m i) := fun a b => by
  unfold lowAll; split
  · exact Gf.xor_lt (h _ _) (Gf.mul_lt (Gf.div_lt (h _ _) (h _ _)) _)
  · exact h _ _
theorem low_zero (R : Mx) (r c m : Nat) : lowAll R r c m (r + 1) = R := by funext a b; unfold lowAll; rw [if_neg (fun h => by omega)]
theorem low_row (R : Mx) (r c m i : Nat) (hr : r < i) : lowAll R r c m (i + 1) = elimR (lowAll R r c m i) r i (Gf.div (R i c) (R r c)) m := by
  funext a b
  unfold elimR
  by_cases ha : a = i ∧ b < m
  · rw [if_pos ha]
    obtain ⟨ha, hb⟩ := ha
    subst ha
    unfold lowAll
    rw [if_pos ⟨hr, by omega, hb⟩, if_neg (fun h => by omega), if_neg (fun h => by omega)]
  · rw [if_neg ha]
    unfold lowAll
    by_cases h : r < a ∧ a < i ∧ b < m
    · rw [if_pos h, if_pos ⟨h.1, by omega, h.2.2⟩]
    · rw [if_neg h, if_neg (fun h2 => ?_)]
      by_cases h3 : a = i
      · exact ha ⟨h3, h2.2.2⟩
      · exact h ⟨h2.1, by omega, h2.2.2⟩
theorem low_at (R : Mx) (r c m i j : Nat) : lowAll R r c m i i j = R i j := by unfold lowAll; rw [if_neg (fun h => by omega)]
theorem low_piv (R : Mx) (r c m i j : Nat) : lowAll R r c m i r j = R r j := by unfold lowAll; rw [if_neg (fun h => by omega)]
theorem elim_start {T E g n m : Nat} {hs cs : Nat → Nat} {R : Mx} {w0 w : World} {l : List Asn} (h : SL w0 w (matN T E g n m hs cs R :: l)) (r i f : Nat) : SL w0 w (matN T E g n m hs cs (elimR R r i f 0) :: l) := by rw [elim_zero]; exact h
theorem low_start {T E g n m : Nat} {hs cs : Nat → Nat} {R : Mx} {w0 w : World} {l : List Asn} (h : SL w0 w (matN T E g n m hs cs R :: l)) (r c : Nat) : SL w0 w (matN T E g n m hs cs (lowAll R r c m (r + 1)) :: l) := by rw [low_zero]; exact h
abbrev MulC : Prop := ∀ (a b : Nat) (w : World), a < 256 → b < 256 → Calls Try.prog 46 #[.int .i64 (a : Int), .int .i64 (b : Int)] w fun e w' => e = .returned (.int .i64 ((Gf.mul a b : Nat) : Int)) ∧ Below w.heap.size w w'
abbrev DivC : Prop := ∀ (a b : Nat) (w : World), a < 256 → 0 < b → b < 256 → Calls Try.prog 84 #[.int .i64 (a : Int), .int .i64 (b : Int)] w fun e w' => e = .returned (.int .i64 ((Gf.div a b : Nat) : Int)) ∧ Below w.heap.size w w'
set_option maxHeartbeats 4000000 in
set_option maxRecDepth 100000 in
theorem sw_calls (HMul : MulC) (HDiv : DivC) (A : Option Addr) (c0 : Nat) (l0 : List (List Int)) (w : World) (hC : Kd.C (Kd.slice 3 (Kd.int .i64)) w A l0.length l0) (hc : l0.length ≤ c0) (n m : Nat) (hn : l0.length = n) (hn0 : 0 < n) (hn8 : n ≤ 8) (hm0 : 0 < m) (hm8 : m ≤ 8) (hrow : ∀ x ∈ l0, x.length = m) (hel : ∀ x ∈ l0, x.all elB = true) (rk : Nat) (hrun : swRun n m m 0 0 (natM l0) = rk) :
    Calls Try.prog 50 #[.slice A l0.length c0] w fun e w' => e = .returned (.int .i64 (rk : Int)) ∧ Below w.heap.size w w' := by
  subst hn
  have HOWN := Aside0.mk (own_calls A c0 l0 w hC hc hn8 (fun r hr => by rw [hrow r hr]; omega))
  have HTO := Aside0.mk (fun (v : Value) (w' : World) (h : SL w w' [sA (Kd.slice 3 (Kd.int .i64)) 28 v l0]) => to_matN h hn0 hm0 hrow hel)
  obtain ⟨ad0, A2, c2, rfl, hx0, _, _⟩ := at_L1 hC 0 (Int.le_refl 0) (by omega)
  replace hx0 : w.cell? ad0 = some (.slice A2 (rd_L1 l0 ((0 : Nat) : Int)).length c2) := hx0
  rw [hrow _ (L1_mem 0 hn0)] at hx0
  have HX0 := Aside0.mk hx0
  have HRUN := Aside0.mk hrun
  have HSM := Aside0.mk (natM_small l0 hel)
  have HMUL := Aside0.mk HMul
  have HDIV := Aside0.mk HDiv
  obtain ⟨n, hn⟩ : ∃ n, n = l0.length := ⟨_, rfl⟩
  have HN := Aside0.mk hn
  rw [← hn] at HRUN HTO HOWN hn0 hn8 ⊢
  obtain ⟨R0, hR0⟩ : ∃ R0, R0 = natM l0 := ⟨_, rfl⟩
  rw [← hR0] at HRUN HSM HTO
  have q0_ : decide ((0 : Int) < (n : Int)) = true := decide_eq_true (by omega)
  have q1_ : ((0 : Int) < (n : Int)) = True := eq_true (by omega)
  have q2_ : (0 < n) = True := eq_true hn0
  clear hC hc hrow hel hx0 hrun HMul HDiv hn hR0
  go_enter Try.func50, Try.ntmps50
  go_upto_region 4 with (go_at_call 83; (with_reducible refine HOWN.out.mono ?_); rintro e w1 ⟨v, rfl, hs_⟩; obtain ⟨g, cap, hs0, cs0, rfl, hcap, hs1_⟩ := HTO.out v w1 hs_; have HS := Aside0.mk hs1_; clear hs1_ hs_ HTO HOWN)
  have HCAP := Aside0.mk hcap
  clear hcap
  go_loopg [4, 5] m (fun kq v4 v5 wr => ∃ (c r : Nat) (hs cs : Nat → Nat) (R : Mx), v4 = .int .i64 (r : Int) ∧ v5 = .int .i64 (c : Int) ∧ c + kq = m ∧ r ≤ n ∧ Aside0 (small R) ∧ Aside0 (swRun n m kq c r R = rk) ∧ Aside0 (SL w wr [matN 28 3 g n m hs cs R]))
  case atStart => exact ⟨0, 0, hs0, cs0, R0, rfl, rfl, by omega, Nat.zero_le _, HSM, HRUN, HS⟩
  case round =>
    clear HS HSM HRUN
    obtain ⟨c, r, hs, cs, R, rfl, rfl, hck, hrn, HSM, HRUN, HS⟩ := hrel
    have hx := (HS.out.below.cell (World.block_lt_of_cell? w _ HX0.out)).trans HX0.out
    cases gk with
    | zero =>
      obtain rfl : c = m := by omega
      have hit : decide ((c : Int) < (c : Int)) = false := decide_eq_false (by omega)
      have he : r = rk := by have h_ := HRUN.out; rw [swRun] at h_; exact h_
      subst he
      clear hck
      go_wp2_with (fail)
      go_ret
      exact ⟨rfl, HS.out.below⟩
    | succ g1 =>
      have hcm : c < m := by omega
      have hit : decide ((c : Int) < (m : Int)) = true := decide_eq_true (by omega)
      have HCK : Aside0 (c + 1 + g1 = m) := ⟨by omega⟩
      have hwc := wr1 c (by omega)
      have hc0_ : ((0 : Int) ≤ (c : Int)) = True := eq_true (Int.natCast_nonneg c)
      have hc1_ : ((c : Int) < (m : Int)) = True := eq_true (Int.ofNat_lt.2 hcm)
      have hc2_ : (c < m) = True := eq_true hcm
      clear hck
      go_upto_region 7 with (fail)
      clear hx
      go_loopg [4, 6] (n - r) (fun kq v4 v6 wr => ∃ i : Nat, v4 = .int .i64 (r : Int) ∧ v6 = .int .i64 (i : Int) ∧ i + kq = n ∧ r ≤ i ∧ Aside0 (fnz R c kq i = fnz R c (n - r) r) ∧ Aside0 (SL w wr [matN 28 3 g n m hs cs R]))
      case atStart => exact ⟨r, rfl, rfl, by omega, Nat.le_refl _, ⟨rfl⟩, HS⟩
      case round =>
        clear HS
        obtain ⟨i, rfl, rfl, hik, hri, HFZ, HS⟩ := hrel
        cases gk with
        | zero =>
          obtain rfl : i = n := by omega
          have hfz := HFZ.out
          rw [fnz] at hfz
          have HRUN := Aside0.mk (sw_none HRUN.out (by omega))
          have hit2 : decide ((i : Int) < (i : Int)) = false := decide_eq_false (by omega)
          clear hfz hik HFZ hit
          go_wp2_with (fail)
          go_roundg g1
          case measure => exact Nat.lt_succ_self _
          case rel => exact ⟨c + 1, r, hs, cs, R, rfl, rfl, HCK.out, hrn, HSM, HRUN, HS⟩
        | succ g2 =>
          have hin : i < n := by omega
          have HIK : Aside0 (i + 1 + g2 = n) := ⟨by omega⟩
          have hwi := wr1 i (by omega)
          have hfz := HFZ.out
          rw [fnz] at hfz
          have hi0_ : ((0 : Int) ≤ (i : Int)) = True := eq_true (Int.natCast_nonneg i)
          have hi1_ : ((i : Int) < (n : Int)) = True := eq_true (Int.ofNat_lt.2 hin)
          have hi2_ : (i < n) = True := eq_true hin
          have hit2 : decide ((i : Int) < (n : Int)) = true := decide_eq_true (Int.ofNat_lt.2 hin)
          obtain ⟨hx1_, _, _⟩ := mat_row HS.out 0 rfl i hin
          clear hik
          by_cases h0 : R i c = 0
          · rw [if_pos h0] at hfz
            have HFZ := Aside0.mk hfz
            obtain ⟨hx2_, _, _⟩ := mat_cellN HS.out 0 rfl i c hin hcm 0 h0
            clear hfz h0 hit
            go_wp2_with (fail)
            go_roundg g2
            case measure => exact Nat.lt_succ_self _
            case rel => exact ⟨i + 1, rfl, rfl, HIK.out, by omega, HFZ, HS⟩
          · rw [if_neg h0] at hfz
            have HRUN := Aside0.mk (sw_some HRUN.out hfz.symm hin)
            obtain ⟨hx2_, _, _⟩ := mat_cellN HS.out 0 rfl i c hin hcm (R i c) rfl
            have hne0 : ((((R i c : Nat) : Int)) == 0) = false := beq_eq_false_iff_ne.2 (by omega)
            have hrn' : r < n := by omega
            have hr0_ : ((0 : Int) ≤ (r : Int)) = True := eq_true (Int.natCast_nonneg r)
            have hr1_ : ((r : Int) < (n : Int)) = True := eq_true (Int.ofNat_lt.2 hrn')
            have hr2_ : (r < n) = True := eq_true hrn'
            have HNZ := Aside0.mk h0
            clear hfz h0
            go_upto_region 10 with (fail)
            clear hne0 hx1_ hx2_
            (refine start_ (n := 16) (S := (fun w_ => SL w w_ [matN 28 3 g n m hs cs R])) (ds := [13, 15]) #[false, false, false, false, false, false, false, false, false, false, false, false, false, false, false, false] (by kernel_rfl) rfl rfl (by repeat (first | (with_reducible first | exact HS.out | apply Sep.SL.drewN | apply Sep.SL.drew | apply Sep.SL.alloc | apply below_drew1) | exact HS.out)) (fun hHeld => ?_); clear HS; have HS := Aside0.mk hHeld; clear hHeld; generalize World.drew _ = wr_ at HS ⊢)
            (refine pure_ (i := 0) (N := some 35) (v := ?_) (a' := ?_) #[true, false, false, false, false, false, false, false, false, false, false, false, false, false, false, false] rfl rfl (by kernel_rfl) (fun _ _ _ h => h) (Or.inl ⟨by rfl, ?_⟩) ?_ ?_; rotate_left; (intro w_; go_simp; with_reducible rfl); rotate_left; (simp only [Act.put, List.setIfInBounds_toArray, List.set_cons_zero, List.set_cons_succ, i64_w, i32_w]; rfl))
            (refine pure_ (i := 1) (N := some 36) (v := ?_) (a' := ?_) #[true, true, false, false, false, false, false, false, false, false, false, false, false, false, false, false] rfl rfl (by kernel_rfl) (fun _ _ _ h => h) (Or.inl ⟨by rfl, ?_⟩) ?_ ?_; rotate_left; (intro w_; go_simp; with_reducible rfl); rotate_left; (simp only [Act.put, List.setIfInBounds_toArray, List.set_cons_zero, List.set_cons_succ, i64_w, i32_w]; rfl))
            (refine pure_ (i := 2) (N := some 37) (v := ?_) (a' := ?_) #[true, true, true, false, false, false, false, false, false, false, false, false, false, false, false, false] rfl rfl (by kernel_rfl) (fun _ _ _ h => h) (Or.inl ⟨by rfl, ?_⟩) ?_ ?_; rotate_left; (intro w_; go_simp; with_reducible rfl); rotate_left; (simp only [Act.put, List.setIfInBounds_toArray, List.set_cons_zero, List.set_cons_succ, i64_w, i32_w]; rfl))
            (refine pure_ (i := 3) (N := some 38) (v := ?_) (a' := ?_) #[true, true, true, true, false, false, false, false, false, false, false, false, false, false, false, false] rfl rfl (by kernel_rfl) (fun _ _ _ h => h) (Or.inl ⟨by rfl, ?_⟩) ?_ ?_; rotate_left; (intro w_; go_simp; with_reducible rfl); rotate_left; (simp only [Act.put, List.setIfInBounds_toArray, List.set_cons_zero, List.set_cons_succ, i64_w, i32_w]; rfl))
            (refine pure_ (i := 4) (N := some 39) (v := ?_) (a' := ?_) #[true, true, true, true, true, false, false, false, false, false, false, false, false, false, false, false] rfl rfl (by kernel_rfl) (fun _ _ _ h => h) (Or.inl ⟨by rfl, ?_⟩) ?_ ?_; rotate_left; (intro w_; go_simp; with_reducible rfl); rotate_left; (simp only [Act.put, List.setIfInBounds_toArray, List.set_cons_zero, List.set_cons_succ, i64_w, i32_w]; rfl))
            (refine pure_ (i := 5) (N := some 40) (v := ?_) (a' := ?_) #[true, true, true, true, true, true, false, false, false, false, false, false, false, false, false, false] rfl rfl (by kernel_rfl) (fun _ _ _ h => h) (Or.inl ⟨by rfl, ?_⟩) ?_ ?_; rotate_left; (intro w_; go_simp; with_reducible rfl); rotate_left; (simp only [Act.put, List.setIfInBounds_toArray, List.set_cons_zero, List.set_cons_succ, i64_w, i32_w]; rfl))
            (refine pure_ (i := 6) (N := some 41) (v := ?_) (a' := ?_) #[true, true, true, true, true, true, true, false, false, false, false, false, false, false, false, false] rfl rfl (by kernel_rfl) (fun _ _ _ h => h) (Or.inl ⟨by rfl, ?_⟩) ?_ ?_; rotate_left; (intro w_; go_simp; with_reducible rfl); rotate_left; (simp only [Act.put, List.setIfInBounds_toArray, List.set_cons_zero, List.set_cons_succ, i64_w, i32_w]; rfl))
            (refine take_ (i := 7) (N := some 42) (v := (.slice (some ⟨hs i, 0, none⟩) m (cs i))) (a' := ?_) #[true, true, true, true, true, true, true, true, false, false, false, false, false, false, false, false] rfl rfl (by kernel_rfl) (fun _ _ _ h => h) (Or.inl ⟨by rfl, ?_⟩) HS.out ?_ ?_; (intro w_ hS_; (obtain ⟨hx_, _, _⟩ := mat_row hS_ 0 rfl i hin; go_simp)); rotate_left; (simp only [Act.put, List.setIfInBounds_toArray, List.set_cons_zero, List.set_cons_succ, i64_w, i32_w]; rfl))
            (refine pure_ (i := 8) (N := some 43) (v := ?_) (a' := ?_) #[true, true, true, true, true, true, true, true, true, false, false, false, false, false, false, false] rfl rfl (by kernel_rfl) (fun _ _ _ h => h) (Or.inl ⟨by rfl, ?_⟩) ?_ ?_; rotate_left; (intro w_; go_simp; with_reducible rfl); rotate_left; (simp only [Act.put, List.setIfInBounds_toArray, List.set_cons_zero, List.set_cons_succ, i64_w, i32_w]; rfl))
            (refine pure_ (i := 9) (N := some 44) (v := ?_) (a' := ?_) #[true, true, true, true, true, true, true, true, true, true, false, false, false, false, false, false] rfl rfl (by kernel_rfl) (fun _ _ _ h => h) (Or.inl ⟨by rfl, ?_⟩) ?_ ?_; rotate_left; (intro w_; go_simp; with_reducible rfl); rotate_left; (simp only [Act.put, List.setIfInBounds_toArray, List.set_cons_zero, List.set_cons_succ, i64_w, i32_w]; rfl))
            (refine pure_ (i := 10) (N := some 45) (v := ?_) (a' := ?_) #[true, true, true, true, true, true, true, true, true, true, true, false, false, false, false, false] rfl rfl (by kernel_rfl) (fun _ _ _ h => h) (Or.inl ⟨by rfl, ?_⟩) ?_ ?_; rotate_left; (intro w_; go_simp; with_reducible rfl); rotate_left; (simp only [Act.put, List.setIfInBounds_toArray, List.set_cons_zero, List.set_cons_succ, i64_w, i32_w]; rfl))
            (refine take_ (i := 11) (N := some 46) (v := (.slice (some ⟨hs r, 0, none⟩) m (cs r))) (a' := ?_) #[true, true, true, true, true, true, true, true, true, true, true, true, false, false, false, false] rfl rfl (by kernel_rfl) (fun _ _ _ h => h) (Or.inl ⟨by rfl, ?_⟩) HS.out ?_ ?_; (intro w_ hS_; (obtain ⟨hx_, _, _⟩ := mat_row hS_ 0 rfl r hrn'; go_simp)); rotate_left; (simp only [Act.put, List.setIfInBounds_toArray, List.set_cons_zero, List.set_cons_succ, i64_w, i32_w]; rfl))
            (refine pure_ (i := 12) (N := some 47) (v := ?_) (a' := ?_) #[true, true, true, true, true, true, true, true, true, true, true, true, true, false, false, false] rfl rfl (by kernel_rfl) (fun _ _ _ h => h) (Or.inl ⟨by rfl, ?_⟩) ?_ ?_; rotate_left; (intro w_; go_simp; with_reducible rfl); rotate_left; (simp only [Act.put, List.setIfInBounds_toArray, List.set_cons_zero, List.set_cons_succ, i64_w, i32_w]; rfl))
            obtain ⟨hz1_, hz2_, hz3_⟩ := mat_row HS.out 0 rfl r hrn'
            obtain ⟨vq_, hy1_, hy2_⟩ := mat_row_after HS.out 0 rfl r i hin (.slice (some ⟨hs i, 0, none⟩) m (cs i))
            (refine last_ (i := 13) (N := none) #[true, true, true, true, true, true, true, true, true, true, true, true, true, true, false, false] rfl rfl (by kernel_rfl) (by decide) (fun K hK => ?_); (go_simp); refine hK.out _ _ ?_; clear hK K)
            (refine pure_ (i := 14) (N := some 48) (v := ?_) (a' := ?_) #[true, true, true, true, true, true, true, true, true, true, true, true, true, true, true, false] rfl rfl (by kernel_rfl) (fun _ _ _ h => h) (Or.inl ⟨by rfl, ?_⟩) ?_ ?_; rotate_left; (intro w_; go_simp; with_reducible rfl); rotate_left; (simp only [Act.put, List.setIfInBounds_toArray, List.set_cons_zero, List.set_cons_succ, i64_w, i32_w]; rfl))
            (refine last_ (i := 15) (N := none) #[true, true, true, true, true, true, true, true, true, true, true, true, true, true, true, true] rfl rfl (by kernel_rfl) (by decide) (fun K hK => ?_); (go_simp); refine hK.out _ _ ?_; clear hK K)
            refine done_ (by kernel_rfl) ?_
            obtain ⟨hs1, cs1, h1_⟩ := matN_swap HS.out 0 rfl r i hrn' hin
            obtain ⟨R1, hR1⟩ : ∃ R1, R1 = swapR R r i := ⟨_, rfl⟩
            have hrun3 := HRUN.out
            have hnz1 : R1 r c ≠ 0 := by rw [hR1, swap_at]; exact HNZ.out
            have hsm1 : small R1 := by rw [hR1]; exact small_swap HSM.out _ _
            rw [← hR1] at h1_ hrun3
            have HS := Aside0.mk (low_start (l := []) h1_ r c)
            have HNZ := Aside0.mk hnz1
            have HSM1 := Aside0.mk hsm1
            have HRUN := Aside0.mk hrun3
            clear h1_ hrun3 hnz1 hsm1 hR1 hz1_ hz2_ hz3_ hy1_ hy2_ hi0_ hi1_ hi2_ hit2 hwi
            generalize World.setCell _ _ _ = w3 at HS ⊢
            have hwr := wr1 r (by omega)
            have HCM := Aside0.mk hcm
            have HRN := Aside0.mk hrn'
            have HN8 := Aside0.mk hn8
            have HM8 := Aside0.mk hm8
            clear hit hc0_ hc1_ hc2_ hr0_ hr1_ hr2_ hwc q0_ q1_ q2_ hcm hrn hrn' hin hri hm0 hm8 hn8 hn0
            go_upto_region 12 with (fail)
            obtain ⟨q_, hq_⟩ : ∃ q_, q_ = wrap64 ((r : Int) + 1) := ⟨_, rfl⟩
            rw [← hq_]
            have HQ := Aside0.mk (hq_.trans hwr)
            clear hq_ hwr
            have hcm := HCM.out
            have hrn' := HRN.out
            have hn8 := HN8.out
            have hm8 := HM8.out
            go_loopg [7] (n - (r + 1)) (fun kq v7 wr => ∃ j : Nat, v7 = .int .i64 (j : Int) ∧ j + kq = n ∧ r < j ∧ Aside0 (SL w wr [matN 28 3 g n m hs1 cs1 (lowAll R1 r c m j)]))
            case atStart => exact ⟨r + 1, congrArg (Value.int .i64) HQ.out, by omega, Nat.lt_succ_self _, HS⟩
            case round =>
              clear HS
              obtain ⟨j, rfl, hjk, hrj, HS⟩ := hrel
              cases gk with
              | zero =>
                obtain rfl : j = n := by omega
                clear hjk
                have hit3 : decide ((j : Int) < (j : Int)) = false := decide_eq_false (by omega)
                have HSM := Aside0.mk (small_low HSM1.out r c m j)
                have hwc := wr1 c (by omega)
                have hwr := wr1 r (by omega)
                clear hcm hrn' hn8 hm8 hrj
                go_wp2_with (fail)
                go_roundg g1
                case measure => exact Nat.lt_succ_self _
                case rel => exact ⟨c + 1, r + 1, hs1, cs1, _, congrArg (Value.int .i64) hwr, congrArg (Value.int .i64) hwc, HCK.out, HRN.out, HSM, HRUN, HS⟩
              | succ g3 =>
                have hjn : j < n := by omega
                have HJK : Aside0 (j + 1 + g3 = n) := ⟨by omega⟩
                have hwj := wr1 j (by omega)
                clear hjk
                have hit3 : decide ((j : Int) < (n : Int)) = true := decide_eq_true (Int.ofNat_lt.2 hjn)
                have hj0_ : ((0 : Int) ≤ (j : Int)) = True := eq_true (Int.natCast_nonneg j)
                have hj1_ : ((j : Int) < (n : Int)) = True := eq_true (Int.ofNat_lt.2 hjn)
                have hj2_ : (j < n) = True := eq_true hjn
                have hc0_ : ((0 : Int) ≤ (c : Int)) = True := eq_true (Int.natCast_nonneg c)
                have hc1_ : ((c : Int) < (m : Int)) = True := eq_true (Int.ofNat_lt.2 hcm)
                have hc2_ : (c < m) = True := eq_true hcm
                have hr0_ : ((0 : Int) ≤ (r : Int)) = True := eq_true (Int.natCast_nonneg r)
                have hr1_ : ((r : Int) < (n : Int)) = True := eq_true (Int.ofNat_lt.2 hrn')
                have hr2_ : (r < n) = True := eq_true hrn'
                have HLA := Aside0.mk (low_at R1 r c m j c)
                have HLP := Aside0.mk (low_piv R1 r c m j c)
                obtain ⟨f, hf⟩ : ∃ f, f = Gf.div (R1 j c) (R1 r c) := ⟨_, rfl⟩
                have HF := Aside0.mk hf
                have HF256 : Aside0 (f < 256) := ⟨by rw [hf]; exact Gf.div_lt (HSM1.out j c) (HSM1.out r c)⟩
                clear hf
                go_upto_region 14 with (fail)
                (refine start_ (n := 16) (S := (fun w_ => SL w w_ [matN 28 3 g n m hs1 cs1 (lowAll R1 r c m j)])) (ds := []) #[false, false, false, false, false, false, false, false, false, false, false, false, false, false, false, false] (by kernel_rfl) rfl rfl (by repeat (first | (with_reducible first | exact HS.out | apply Sep.SL.drewN | apply Sep.SL.drew | apply Sep.SL.alloc | apply below_drew1) | exact HS.out)) (fun hHeld => ?_); clear HS; have HS := Aside0.mk hHeld; clear hHeld; generalize World.drew _ = wr_ at HS ⊢)
                (refine pure_ (i := 0) (N := some 57) (v := ?_) (a' := ?_) #[true, false, false, false, false, false, false, false, false, false, false, false, false, false, false, false] rfl rfl (by kernel_rfl) (fun _ _ _ h => h) (Or.inl ⟨by rfl, ?_⟩) ?_ ?_; rotate_left; (intro w_; go_simp; with_reducible rfl); rotate_left; (simp only [Act.put, List.setIfInBounds_toArray, List.set_cons_zero, List.set_cons_succ, i64_w, i32_w]; rfl))
                (refine pure_ (i := 1) (N := some 58) (v := ?_) (a' := ?_) #[true, true, false, false, false, false, false, false, false, false, false, false, false, false, false, false] rfl rfl (by kernel_rfl) (fun _ _ _ h => h) (Or.inl ⟨by rfl, ?_⟩) ?_ ?_; rotate_left; (intro w_; go_simp; with_reducible rfl); rotate_left; (simp only [Act.put, List.setIfInBounds_toArray, List.set_cons_zero, List.set_cons_succ, i64_w, i32_w]; rfl))
                (refine pure_ (i := 2) (N := some 59) (v := ?_) (a' := ?_) #[true, true, true, false, false, false, false, false, false, false, false, false, false, false, false, false] rfl rfl (by kernel_rfl) (fun _ _ _ h => h) (Or.inl ⟨by rfl, ?_⟩) ?_ ?_; rotate_left; (intro w_; go_simp; with_reducible rfl); rotate_left; (simp only [Act.put, List.setIfInBounds_toArray, List.set_cons_zero, List.set_cons_succ, i64_w, i32_w]; rfl))
                (refine take_ (i := 3) (N := some 60) (v := (.slice (some ⟨hs1 j, 0, none⟩) m (cs1 j))) (a' := ?_) #[true, true, true, true, false, false, false, false, false, false, false, false, false, false, false, false] rfl rfl (by kernel_rfl) (fun _ _ _ h => h) (Or.inl ⟨by rfl, ?_⟩) HS.out ?_ ?_; (intro w_ hS_; (obtain ⟨hx_, _, _⟩ := mat_row hS_ 0 rfl j hjn; go_simp)); rotate_left; (simp only [Act.put, List.setIfInBounds_toArray, List.set_cons_zero, List.set_cons_succ, i64_w, i32_w]; rfl))
                (refine pure_ (i := 4) (N := some 61) (v := ?_) (a' := ?_) #[true, true, true, true, true, false, false, false, false, false, false, false, false, false, false, false] rfl rfl (by kernel_rfl) (fun _ _ _ h => h) (Or.inl ⟨by rfl, ?_⟩) ?_ ?_; rotate_left; (intro w_; go_simp; with_reducible rfl); rotate_left; (simp only [Act.put, List.setIfInBounds_toArray, List.set_cons_zero, List.set_cons_succ, i64_w, i32_w]; rfl))
                (refine pure_ (i := 5) (N := some 62) (v := ?_) (a' := ?_) #[true, true, true, true, true, true, false, false, false, false, false, false, false, false, false, false] rfl rfl (by kernel_rfl) (fun _ _ _ h => h) (Or.inl ⟨by rfl, ?_⟩) ?_ ?_; rotate_left; (intro w_; go_simp; with_reducible rfl); rotate_left; (simp only [Act.put, List.setIfInBounds_toArray, List.set_cons_zero, List.set_cons_succ, i64_w, i32_w]; rfl))
                (refine take_ (i := 6) (N := some 63) (v := (.int .i64 ((R1 j c : Nat) : Int))) (a' := ?_) #[true, true, true, true, true, true, true, false, false, false, false, false, false, false, false, false] rfl rfl (by kernel_rfl) (fun _ _ _ h => h) (Or.inl ⟨by rfl, ?_⟩) HS.out ?_ ?_; (intro w_ hS_; (obtain ⟨hx_, _, _⟩ := mat_cellN hS_ 0 rfl j c hjn hcm (R1 j c) HLA.out; go_simp)); rotate_left; (simp only [Act.put, List.setIfInBounds_toArray, List.set_cons_zero, List.set_cons_succ, i64_w, i32_w]; rfl))
                (refine pure_ (i := 7) (N := some 64) (v := ?_) (a' := ?_) #[true, true, true, true, true, true, true, true, false, false, false, false, false, false, false, false] rfl rfl (by kernel_rfl) (fun _ _ _ h => h) (Or.inl ⟨by rfl, ?_⟩) ?_ ?_; rotate_left; (intro w_; go_simp; with_reducible rfl); rotate_left; (simp only [Act.put, List.setIfInBounds_toArray, List.set_cons_zero, List.set_cons_succ, i64_w, i32_w]; rfl))
                (refine pure_ (i := 8) (N := some 65) (v := ?_) (a' := ?_) #[true, true, true, true, true, true, true, true, true, false, false, false, false, false, false, false] rfl rfl (by kernel_rfl) (fun _ _ _ h => h) (Or.inl ⟨by rfl, ?_⟩) ?_ ?_; rotate_left; (intro w_; go_simp; with_reducible rfl); rotate_left; (simp only [Act.put, List.setIfInBounds_toArray, List.set_cons_zero, List.set_cons_succ, i64_w, i32_w]; rfl))
                (refine pure_ (i := 9) (N := some 66) (v := ?_) (a' := ?_) #[true, true, true, true, true, true, true, true, true, true, false, false, false, false, false, false] rfl rfl (by kernel_rfl) (fun _ _ _ h => h) (Or.inl ⟨by rfl, ?_⟩) ?_ ?_; rotate_left; (intro w_; go_simp; with_reducible rfl); rotate_left; (simp only [Act.put, List.setIfInBounds_toArray, List.set_cons_zero, List.set_cons_succ, i64_w, i32_w]; rfl))
                (refine take_ (i := 10) (N := some 67) (v := (.slice (some ⟨hs1 r, 0, none⟩) m (cs1 r))) (a' := ?_) #[true, true, true, true, true, true, true, true, true, true, true, false, false, false, false, false] rfl rfl (by kernel_rfl) (fun _ _ _ h => h) (Or.inl ⟨by rfl, ?_⟩) HS.out ?_ ?_; (intro w_ hS_; (obtain ⟨hx_, _, _⟩ := mat_row hS_ 0 rfl r hrn'; go_simp)); rotate_left; (simp only [Act.put, List.setIfInBounds_toArray, List.set_cons_zero, List.set_cons_succ, i64_w, i32_w]; rfl))
                (refine pure_ (i := 11) (N := some 68) (v := ?_) (a' := ?_) #[true, true, true, true, true, true, true, true, true, true, true, true, false, false, false, false] rfl rfl (by kernel_rfl) (fun _ _ _ h => h) (Or.inl ⟨by rfl, ?_⟩) ?_ ?_; rotate_left; (intro w_; go_simp; with_reducible rfl); rotate_left; (simp only [Act.put, List.setIfInBounds_toArray, List.set_cons_zero, List.set_cons_succ, i64_w, i32_w]; rfl))
                (refine pure_ (i := 12) (N := some 69) (v := ?_) (a' := ?_) #[true, true, true, true, true, true, true, true, true, true, true, true, true, false, false, false] rfl rfl (by kernel_rfl) (fun _ _ _ h => h) (Or.inl ⟨by rfl, ?_⟩) ?_ ?_; rotate_left; (intro w_; go_simp; with_reducible rfl); rotate_left; (simp only [Act.put, List.setIfInBounds_toArray, List.set_cons_zero, List.set_cons_succ, i64_w, i32_w]; rfl))
                (refine take_ (i := 13) (N := some 70) (v := (.int .i64 ((R1 r c : Nat) : Int))) (a' := ?_) #[true, true, true, true, true, true, true, true, true, true, true, true, true, true, false, false] rfl rfl (by kernel_rfl) (fun _ _ _ h => h) (Or.inl ⟨by rfl, ?_⟩) HS.out ?_ ?_; (intro w_ hS_; (obtain ⟨hx_, _, _⟩ := mat_cellN hS_ 0 rfl r c hrn' hcm (R1 r c) HLP.out; go_simp)); rotate_left; (simp only [Act.put, List.setIfInBounds_toArray, List.set_cons_zero, List.set_cons_succ, i64_w, i32_w]; rfl))
                (refine one_ (i := 14) (N := some 71) #[true, true, true, true, true, true, true, true, true, true, true, true, true, true, true, false] rfl rfl (by kernel_rfl) (by decide) (fun K hK => ?_); refine goes_ Try.func84 (by kernel_rfl) rfl #[.int .i64 ((R1 j c : Nat) : Int), .int .i64 ((R1 r c : Nat) : Int)] (by rfl) rfl rfl (by simp only [List.map_toArray, List.map_cons, List.map_nil]; rfl) ?_; refine (HDIV.out (R1 j c) (R1 r c) _ (HSM1.out j c) (Nat.pos_of_ne_zero HNZ.out) (HSM1.out r c)).mono ?_; (rintro e w4 ⟨rfl, hb_⟩; have n1_ := Aside0.mk (SL.ext HS.out hb_); clear HS hb_; have HS := n1_; clear n1_); refine ⟨(.int .i64 ((Gf.div (R1 j c) (R1 r c) : Nat) : Int)), rfl, ?_⟩; refine hK.out _ _ HS.out (fun hHeld => ?_); clear hK K hHeld; refine norm_ (a' := ?_) ?_ ?_; rotate_left; (show Act.put _ (some 71) _ = _; simp only [Act.put, List.setIfInBounds_toArray, List.set_cons_zero, List.set_cons_succ, i64_w, i32_w]; rfl))
                (refine pure_ (i := 15) (N := some 8) (v := ?_) (a' := ?_) #[true, true, true, true, true, true, true, true, true, true, true, true, true, true, true, true] rfl rfl (by kernel_rfl) (fun _ _ _ h => h) (Or.inl ⟨by rfl, ?_⟩) ?_ ?_; rotate_left; (intro w_; go_simp; with_reducible rfl); rotate_left; (simp only [Act.put, List.setIfInBounds_toArray, List.set_cons_zero, List.set_cons_succ, i64_w, i32_w]; rfl))
                refine done_ (by kernel_rfl) ?_
                rw [← HF.out]
                obtain ⟨hx1_, _, _⟩ := mat_row HS.out 0 rfl j hjn
                have HS := Aside0.mk (elim_start HS.out r j f)
                go_upto_region 16 with (fail)
                clear hx1_
                go_loopg [77] m (fun kq v77 wr => ∃ k : Nat, v77 = .int .i64 (k : Int) ∧ k + kq = m ∧ Aside0 (SL w wr [matN 28 3 g n m hs1 cs1 (elimR (lowAll R1 r c m j) r j f k)]))
                case atStart => exact ⟨0, rfl, by omega, HS⟩
                case round =>
                  clear HS
                  obtain ⟨k, rfl, hkk, HS⟩ := hrel
                  cases gk with
                  | zero =>
                    obtain rfl : k = m := by omega
                    clear hkk
                    have HS2 : Aside0 (SL w wr [matN 28 3 g n k hs1 cs1 (lowAll R1 r c k (j + 1))]) := by rw [low_row _ _ _ _ _ hrj, ← HF.out]; exact HS
                    have hit6 : decide ((k : Int) < (k : Int)) = false := decide_eq_false (by omega)
                    have hrj2 : r < j + 1 := by omega
                    have HRJ := Aside0.mk hrj2
                    clear HS hrj2 hrj hjn hj0_ hj1_ hj2_ hc0_ hc1_ hc2_ hr0_ hr1_ hr2_ hcm hrn' hn8 hm8 hit3
                    go_wp2_with (fail)
                    go_roundg g3
                    case measure => exact Nat.lt_succ_self _
                    case rel => exact ⟨j + 1, congrArg (Value.int .i64) hwj, HJK.out, HRJ.out, HS2⟩
                  | succ g4 =>
                    have hkm : k < m := by omega
                    have HKK : Aside0 (k + 1 + g4 = m) := ⟨by omega⟩
                    have hwk := wr1 k (by omega)
                    clear hkk
                    have hit6 : decide ((k : Int) < (m : Int)) = true := decide_eq_true (Int.ofNat_lt.2 hkm)
                    have hit7 : decide (k < m) = true := decide_eq_true hkm
                    have hk0_ : ((0 : Int) ≤ (k : Int)) = True := eq_true (Int.natCast_nonneg k)
                    have hk1_ : ((k : Int) < (m : Int)) = True := eq_true (Int.ofNat_lt.2 hkm)
                    have hk2_ : (k < m) = True := eq_true hkm
                    have hjr : j ≠ r := Nat.ne_of_gt hrj
                    have hea := (elim_at (lowAll R1 r c m j) r j f k).trans (low_at R1 r c m j k)
                    have heb := (elim_piv (lowAll R1 r c m j) r j f k k hjr).trans (low_piv R1 r c m j k)
                    have hes := elim_set (lowAll R1 r c m j) r j f k hjr
                    rw [low_at, low_piv] at hes
                    have HEA := Aside0.mk hea
                    have HEB := Aside0.mk heb
                    have HES := Aside0.mk hes
                    have hbx := bxor (a := R1 j k) (b := Gf.mul f (R1 r k)) (Nat.lt_trans (HSM1.out j k) (by decide)) (Nat.lt_trans (Gf.mul_lt HF256.out (R1 r k)) (by decide))
                    have HKM := Aside0.mk hkm
                    have HJN := Aside0.mk hjn
                    clear hea heb hes hjr hk0_ hk1_ hk2_ hj0_ hj1_ hj2_ hc0_ hc1_ hc2_ hr0_ hr1_ hr2_ hcm hrn' hn8 hm8 hit3 hkm hjn hrj
                    go_upto_region 18 with (fail)
                    have hkm := HKM.out
                    have hjn := HJN.out
                    have hrn' := HRN.out
                    have hk0_ : ((0 : Int) ≤ (k : Int)) = True := eq_true (Int.natCast_nonneg k)
                    have hk1_ : ((k : Int) < (m : Int)) = True := eq_true (Int.ofNat_lt.2 hkm)
                    have hk2_ : (k < m) = True := eq_true hkm
                    have hj0_ : ((0 : Int) ≤ (j : Int)) = True := eq_true (Int.natCast_nonneg j)
                    have hj1_ : ((j : Int) < (n : Int)) = True := eq_true (Int.ofNat_lt.2 hjn)
                    have hj2_ : (j < n) = True := eq_true hjn
                    have hr0_ : ((0 : Int) ≤ (r : Int)) = True := eq_true (Int.natCast_nonneg r)
                    have hr1_ : ((r : Int) < (n : Int)) = True := eq_true (Int.ofNat_lt.2 hrn')
                    have hr2_ : (r < n) = True := eq_true hrn'
                    (refine start_ (n := 19) (S := (fun w_ => SL w w_ [matN 28 3 g n m hs1 cs1 (elimR (lowAll R1 r c m j) r j f k)])) (ds := [18]) #[false, false, false, false, false, false, false, false, false, false, false, false, false, false, false, false, false, false, false] (by kernel_rfl) rfl rfl (by repeat (first | (with_reducible first | exact HS.out | apply Sep.SL.drewN | apply Sep.SL.drew | apply Sep.SL.alloc | apply below_drew1) | exact HS.out)) (fun hHeld => ?_); clear HS; have HS := Aside0.mk hHeld; clear hHeld; generalize World.drew _ = wr_ at HS ⊢)
                    (refine pure_ (i := 0) (N := some 80) (v := ?_) (a' := ?_) #[true, false, false, false, false, false, false, false, false, false, false, false, false, false, false, false, false, false, false] rfl rfl (by kernel_rfl) (fun _ _ _ h => h) (Or.inl ⟨by rfl, ?_⟩) ?_ ?_; rotate_left; (intro w_; go_simp; with_reducible rfl); rotate_left; (simp only [Act.put, List.setIfInBounds_toArray, List.set_cons_zero, List.set_cons_succ, i64_w, i32_w]; rfl))
                    (refine pure_ (i := 1) (N := some 81) (v := ?_) (a' := ?_) #[true, true, false, false, false, false, false, false, false, false, false, false, false, false, false, false, false, false, false] rfl rfl (by kernel_rfl) (fun _ _ _ h => h) (Or.inl ⟨by rfl, ?_⟩) ?_ ?_; rotate_left; (intro w_; go_simp; with_reducible rfl); rotate_left; (simp only [Act.put, List.setIfInBounds_toArray, List.set_cons_zero, List.set_cons_succ, i64_w, i32_w]; rfl))
                    (refine pure_ (i := 2) (N := some 82) (v := ?_) (a' := ?_) #[true, true, true, false, false, false, false, false, false, false, false, false, false, false, false, false, false, false, false] rfl rfl (by kernel_rfl) (fun _ _ _ h => h) (Or.inl ⟨by rfl, ?_⟩) ?_ ?_; rotate_left; (intro w_; go_simp; with_reducible rfl); rotate_left; (simp only [Act.put, List.setIfInBounds_toArray, List.set_cons_zero, List.set_cons_succ, i64_w, i32_w]; rfl))
                    (refine take_ (i := 3) (N := some 83) (v := (.slice (some ⟨hs1 j, 0, none⟩) m (cs1 j))) (a' := ?_) #[true, true, true, true, false, false, false, false, false, false, false, false, false, false, false, false, false, false, false] rfl rfl (by kernel_rfl) (fun _ _ _ h => h) (Or.inl ⟨by rfl, ?_⟩) HS.out ?_ ?_; (intro w_ hS_; (obtain ⟨hx_, _, _⟩ := mat_row hS_ 0 rfl j hjn; go_simp)); rotate_left; (simp only [Act.put, List.setIfInBounds_toArray, List.set_cons_zero, List.set_cons_succ, i64_w, i32_w]; rfl))
                    (refine pure_ (i := 4) (N := some 84) (v := ?_) (a' := ?_) #[true, true, true, true, true, false, false, false, false, false, false, false, false, false, false, false, false, false, false] rfl rfl (by kernel_rfl) (fun _ _ _ h => h) (Or.inl ⟨by rfl, ?_⟩) ?_ ?_; rotate_left; (intro w_; go_simp; with_reducible rfl); rotate_left; (simp only [Act.put, List.setIfInBounds_toArray, List.set_cons_zero, List.set_cons_succ, i64_w, i32_w]; rfl))
                    (refine pure_ (i := 5) (N := some 85) (v := ?_) (a' := ?_) #[true, true, true, true, true, true, false, false, false, false, false, false, false, false, false, false, false, false, false] rfl rfl (by kernel_rfl) (fun _ _ _ h => h) (Or.inl ⟨by rfl, ?_⟩) ?_ ?_; rotate_left; (intro w_; go_simp; with_reducible rfl); rotate_left; (simp only [Act.put, List.setIfInBounds_toArray, List.set_cons_zero, List.set_cons_succ, i64_w, i32_w]; rfl))
                    (refine take_ (i := 6) (N := some 86) (v := (.int .i64 ((R1 j k : Nat) : Int))) (a' := ?_) #[true, true, true, true, true, true, true, false, false, false, false, false, false, false, false, false, false, false, false] rfl rfl (by kernel_rfl) (fun _ _ _ h => h) (Or.inl ⟨by rfl, ?_⟩) HS.out ?_ ?_; (intro w_ hS_; (obtain ⟨hx_, _, _⟩ := mat_cellN hS_ 0 rfl j k hjn hkm (R1 j k) HEA.out; go_simp)); rotate_left; (simp only [Act.put, List.setIfInBounds_toArray, List.set_cons_zero, List.set_cons_succ, i64_w, i32_w]; rfl))
                    (refine pure_ (i := 7) (N := some 87) (v := ?_) (a' := ?_) #[true, true, true, true, true, true, true, true, false, false, false, false, false, false, false, false, false, false, false] rfl rfl (by kernel_rfl) (fun _ _ _ h => h) (Or.inl ⟨by rfl, ?_⟩) ?_ ?_; rotate_left; (intro w_; go_simp; with_reducible rfl); rotate_left; (simp only [Act.put, List.setIfInBounds_toArray, List.set_cons_zero, List.set_cons_succ, i64_w, i32_w]; rfl))
                    (refine pure_ (i := 8) (N := some 88) (v := ?_) (a' := ?_) #[true, true, true, true, true, true, true, true, true, false, false, false, false, false, false, false, false, false, false] rfl rfl (by kernel_rfl) (fun _ _ _ h => h) (Or.inl ⟨by rfl, ?_⟩) ?_ ?_; rotate_left; (intro w_; go_simp; with_reducible rfl); rotate_left; (simp only [Act.put, List.setIfInBounds_toArray, List.set_cons_zero, List.set_cons_succ, i64_w, i32_w]; rfl))
                    (refine pure_ (i := 9) (N := some 89) (v := ?_) (a' := ?_) #[true, true, true, true, true, true, true, true, true, true, false, false, false, false, false, false, false, false, false] rfl rfl (by kernel_rfl) (fun _ _ _ h => h) (Or.inl ⟨by rfl, ?_⟩) ?_ ?_; rotate_left; (intro w_; go_simp; with_reducible rfl); rotate_left; (simp only [Act.put, List.setIfInBounds_toArray, List.set_cons_zero, List.set_cons_succ, i64_w, i32_w]; rfl))
                    (refine pure_ (i := 10) (N := some 90) (v := ?_) (a' := ?_) #[true, true, true, true, true, true, true, true, true, true, true, false, false, false, false, false, false, false, false] rfl rfl (by kernel_rfl) (fun _ _ _ h => h) (Or.inl ⟨by rfl, ?_⟩) ?_ ?_; rotate_left; (intro w_; go_simp; with_reducible rfl); rotate_left; (simp only [Act.put, List.setIfInBounds_toArray, List.set_cons_zero, List.set_cons_succ, i64_w, i32_w]; rfl))
                    (refine take_ (i := 11) (N := some 91) (v := (.slice (some ⟨hs1 r, 0, none⟩) m (cs1 r))) (a' := ?_) #[true, true, true, true, true, true, true, true, true, true, true, true, false, false, false, false, false, false, false] rfl rfl (by kernel_rfl) (fun _ _ _ h => h) (Or.inl ⟨by rfl, ?_⟩) HS.out ?_ ?_; (intro w_ hS_; (obtain ⟨hx_, _, _⟩ := mat_row hS_ 0 rfl r hrn'; go_simp)); rotate_left; (simp only [Act.put, List.setIfInBounds_toArray, List.set_cons_zero, List.set_cons_succ, i64_w, i32_w]; rfl))
                    (refine pure_ (i := 12) (N := some 92) (v := ?_) (a' := ?_) #[true, true, true, true, true, true, true, true, true, true, true, true, true, false, false, false, false, false, false] rfl rfl (by kernel_rfl) (fun _ _ _ h => h) (Or.inl ⟨by rfl, ?_⟩) ?_ ?_; rotate_left; (intro w_; go_simp; with_reducible rfl); rotate_left; (simp only [Act.put, List.setIfInBounds_toArray, List.set_cons_zero, List.set_cons_succ, i64_w, i32_w]; rfl))
                    (refine pure_ (i := 13) (N := some 93) (v := ?_) (a' := ?_) #[true, true, true, true, true, true, true, true, true, true, true, true, true, true, false, false, false, false, false] rfl rfl (by kernel_rfl) (fun _ _ _ h => h) (Or.inl ⟨by rfl, ?_⟩) ?_ ?_; rotate_left; (intro w_; go_simp; with_reducible rfl); rotate_left; (simp only [Act.put, List.setIfInBounds_toArray, List.set_cons_zero, List.set_cons_succ, i64_w, i32_w]; rfl))
                    (refine take_ (i := 14) (N := some 94) (v := (.int .i64 ((R1 r k : Nat) : Int))) (a' := ?_) #[true, true, true, true, true, true, true, true, true, true, true, true, true, true, true, false, false, false, false] rfl rfl (by kernel_rfl) (fun _ _ _ h => h) (Or.inl ⟨by rfl, ?_⟩) HS.out ?_ ?_; (intro w_ hS_; (obtain ⟨hx_, _, _⟩ := mat_cellN hS_ 0 rfl r k hrn' hkm (R1 r k) HEB.out; go_simp)); rotate_left; (simp only [Act.put, List.setIfInBounds_toArray, List.set_cons_zero, List.set_cons_succ, i64_w, i32_w]; rfl))
                    (refine one_ (i := 15) (N := some 95) #[true, true, true, true, true, true, true, true, true, true, true, true, true, true, true, true, false, false, false] rfl rfl (by kernel_rfl) (by decide) (fun K hK => ?_); refine goes_ Try.func46 (by kernel_rfl) rfl #[.int .i64 (f : Int), .int .i64 ((R1 r k : Nat) : Int)] (by rfl) rfl rfl (by simp only [List.map_toArray, List.map_cons, List.map_nil]; rfl) ?_; refine (HMUL.out f (R1 r k) _ HF256.out (HSM1.out r k)).mono ?_; (rintro e w4 ⟨rfl, hb_⟩; have n1_ := Aside0.mk (SL.ext HS.out hb_); clear HS hb_; have HS := n1_; clear n1_); refine ⟨(.int .i64 ((Gf.mul f (R1 r k) : Nat) : Int)), rfl, ?_⟩; refine hK.out _ _ HS.out (fun hHeld => ?_); clear hK K hHeld; refine norm_ (a' := ?_) ?_ ?_; rotate_left; (show Act.put _ (some 95) _ = _; simp only [Act.put, List.setIfInBounds_toArray, List.set_cons_zero, List.set_cons_succ, i64_w, i32_w]; rfl))
                    (refine pure_ (i := 16) (N := some 96) (v := ?_) (a' := ?_) #[true, true, true, true, true, true, true, true, true, true, true, true, true, true, true, true, true, false, false] rfl rfl (by kernel_rfl) (fun _ _ _ h => h) (Or.inl ⟨by rfl, ?_⟩) ?_ ?_; rotate_left; (intro w_; go_simp; with_reducible rfl); rotate_left; (simp only [Act.put, List.setIfInBounds_toArray, List.set_cons_zero, List.set_cons_succ, i64_w, i32_w]; rfl))
                    (refine pure_ (i := 17) (N := some 97) (v := ?_) (a' := ?_) #[true, true, true, true, true, true, true, true, true, true, true, true, true, true, true, true, true, true, false] rfl rfl (by kernel_rfl) (fun _ _ _ h => h) (Or.inl ⟨by rfl, ?_⟩) ?_ ?_; rotate_left; (intro w_; go_simp; with_reducible rfl); rotate_left; (simp only [Act.put, List.setIfInBounds_toArray, List.set_cons_zero, List.set_cons_succ, i64_w, i32_w]; rfl))
                    obtain ⟨hy1_, hy2_, _⟩ := mat_cellN HS.out 0 rfl j k hjn hkm (R1 j k) HEA.out
                    have HP := Aside0.mk (mat_putN HS.out 0 rfl j k hjn (R1 j k ^^^ Gf.mul f (R1 r k)) HES.out)
                    (refine last_ (i := 18) (N := none) #[true, true, true, true, true, true, true, true, true, true, true, true, true, true, true, true, true, true, true] rfl rfl (by kernel_rfl) (by decide) (fun K hK => ?_); (go_simp); refine hK.out _ _ ?_; clear hK K)
                    refine done_ (by kernel_rfl) ?_
                    clear HS
                    generalize World.setCell _ _ _ = w6 at HP ⊢
                    clear hbx HEA HEB HES hy1_ hy2_
                    generalize ((R1 j k ^^^ Gf.mul f (R1 r k) : Nat) : Int) = y1_
                    generalize ((Gf.mul f (R1 r k) : Nat) : Int) = y2_
                    try clear hj0_
                    try clear hj1_
                    try clear hj2_
                    try clear hk0_
                    try clear hk1_
                    try clear hk2_
                    try clear hr0_
                    try clear hr1_
                    try clear hr2_
                    try clear hit6
                    try clear hit7
                    try clear hwj
                    try clear hwr
                    try clear hjn
                    try clear hkm
                    try clear hrn
                    try clear hrn'
                    go_wp2_with (fail)
                    go_roundg g4
                    case measure => exact Nat.lt_succ_self _
                    case rel => exact ⟨k + 1, congrArg (Value.int .i64) hwk, HKK.out, HP⟩
end Go.Proofs.Ytpaenlplpaabjaa.QMatInverts
