/- The reference's MatInvert where it answers an error, walked. -/
import Derived.Test.YtpaenlplpaabjaaMatZ
set_option linter.unusedVariables false
set_option linter.unusedSimpArgs false
namespace Go.Proofs.Ytpaenlplpaabjaa.QMatInverts
open Go.RowKit Go.Proofs.YtpaenlplpaabjaaW.PrintWords Go.Proofs.YtpaenlplpaabjaaW.PrintLast Go.Proofs.YtpaenlplpaabjaaW.PrintMore
open Go.Proofs.Ytpaenlplpaabjaa.Sep Go.Proofs.Ytpaenlplpaabjaa.MatB Go.Proofs.Ytpaenlplpaabjaa.Det
set_option maxHeartbeats 4000000 in
set_option maxRecDepth 100000 in
theorem minv_form (km : Nat) (A0 : Option Addr) (c0 : Nat) (l0 : List (List Int)) (w : World) (hr0 : Kd.C (Kd.slice 3 (Kd.int .i64)) w A0 l0.length l0) (hc0 : l0.length ≤ c0) (hmay : quicksetref_MatMay.f km l0 = some false) :
    Calls Try.prog 23 #[.slice A0 l0.length c0] w fun e w' => e = .returned (.tuple #[.slice none 0 0, .int .i64 4]) ∧ Below w.heap.size w w' := by
  have HB := Aside0.mk (Below.refl w.heap.size w)
  have HMAY := Aside0.mk (fun (W : World) (hb : Below w.heap.size w W) => quicksetref_MatMay.calls km A0 c0 l0 false W (Kd.C_below hr0 hb) hc0 hmay)
  clear hr0 hc0 hmay
  go_enter Try.func23, Try.ntmps23
  go_wp2_with (go_at_call 44; (with_reducible refine (HMAY.out _ HB.out).mono ?_); rintro e w1 ⟨rfl, ⟨nd, rfl⟩⟩)
  go_ret2
  exact ⟨rfl, pw_below_drewN HB.out nd⟩
set_option maxHeartbeats 4000000 in
set_option maxRecDepth 100000 in
theorem minv_size (km : Nat) (A0 : Option Addr) (c0 n m : Nat) (l0 : List (List Int)) (w : World) (hln : l0.length = n) (hr0 : Kd.C (Kd.slice 3 (Kd.int .i64)) w A0 l0.length l0) (hc0 : l0.length ≤ c0) (hm : mayB l0 = true) (hmay : quicksetref_MatMay.f km l0 = some true) (hmm : (rd_L1 l0 0).length = m) (hsq : m ≠ n) :
    Calls Try.prog 23 #[.slice A0 n c0] w fun e w' => e = .returned (.tuple #[.slice none 0 0, .int .i64 1]) ∧ Below w.heap.size w w' := by
  obtain ⟨hn0, hn8, hm0, hm8, _⟩ := may_rows hm
  have HMAY := Aside0.mk (fun (W : World) (hb : Below w.heap.size w W) => quicksetref_MatMay.calls km A0 c0 l0 true W (Kd.C_below hr0 hb) hc0 hmay)
  obtain ⟨ad0, A2, c2, rfl, hx0, _, _⟩ := at_L1 hr0 0 (Int.le_refl 0) (by omega)
  replace hx0 : w.cell? ad0 = some (.slice A2 (rd_L1 l0 0).length c2) := hx0
  rw [hmm] at hx0
  rw [hln] at HMAY hn0 hn8
  have HX0 := Aside0.mk hx0
  have HB := Aside0.mk (Below.refl w.heap.size w)
  have hx := hx0
  have q0_ : decide ((0 : Int) < (n : Int)) = true := decide_eq_true (by omega)
  have q1_ : ((0 : Int) < (n : Int)) = True := eq_true (by omega)
  have q2_ : (0 < n) = True := eq_true hn0
  have q3_ : ((m : Int) != (n : Int)) = true := bne_iff_ne.2 (by omega)
  have q4_ : (m != n) = true := bne_iff_ne.2 hsq
  clear hr0 hc0 hm hmay hsq hx0 hln hn0 hm0 hm8 hmm
  go_enter Try.func23, Try.ntmps23
  go_wp2_with (go_at_call 44; (with_reducible refine (HMAY.out _ HB.out).mono ?_); rintro e w1 ⟨rfl, ⟨nd, rfl⟩⟩; have n1_ := Aside0.mk (pw_below_drewN HB.out nd); have hx := (n1_.out.cell (World.block_lt_of_cell? w _ HX0.out)).trans HX0.out; clear HB; have HB := n1_; clear n1_)
  go_ret2
  exact ⟨rfl, HB.out⟩
set_option maxHeartbeats 4000000 in
set_option maxRecDepth 100000 in
theorem minv_zero (km : Nat) (A0 : Option Addr) (c0 n rk : Nat) (l0 : List (List Int)) (w : World) (hln : l0.length = n) (hr0 : Kd.C (Kd.slice 3 (Kd.int .i64)) w A0 l0.length l0) (hc0 : l0.length ≤ c0) (hm : mayB l0 = true) (hmay : quicksetref_MatMay.f km l0 = some true) (hsq : (rd_L1 l0 0).length = n) (hrk : rankN l0 = rk) (hlt : rk < n) :
    Calls Try.prog 23 #[.slice A0 n c0] w fun e w' => e = .returned (.tuple #[.slice none 0 0, .int .i64 10]) ∧ Below w.heap.size w w' := by
  obtain ⟨hn0, hn8, hm0, hm8, _⟩ := may_rows hm
  have HMAY := Aside0.mk (fun (W : World) (hb : Below w.heap.size w W) => quicksetref_MatMay.calls km A0 c0 l0 true W (Kd.C_below hr0 hb) hc0 hmay)
  have HSW := Aside0.mk (fun (W : World) (hb : Below w.heap.size w W) => swept_c A0 c0 l0 W (Kd.C_below hr0 hb) hc0 hm)
  rw [hrk] at HSW
  obtain ⟨ad0, A2, c2, rfl, hx0, _, _⟩ := at_L1 hr0 0 (Int.le_refl 0) (by omega)
  replace hx0 : w.cell? ad0 = some (.slice A2 (rd_L1 l0 0).length c2) := hx0
  rw [hsq] at hx0
  rw [hln] at HMAY HSW hn0 hn8
  have HX0 := Aside0.mk hx0
  have HB := Aside0.mk (Below.refl w.heap.size w)
  have hx := hx0
  have q0_ : decide ((0 : Int) < (n : Int)) = true := decide_eq_true (by omega)
  have q1_ : ((0 : Int) < (n : Int)) = True := eq_true (by omega)
  have q2_ : (0 < n) = True := eq_true hn0
  have q3_ : ((n : Int) != (n : Int)) = false := by simp
  have q4_ : (n != n) = false := by simp
  have hit : decide ((rk : Int) < (n : Int)) = true := decide_eq_true (by omega)
  have hit2 : decide (rk < n) = true := decide_eq_true hlt
  clear hr0 hc0 hm hmay hsq hrk hx0 hln hn0 hm0 hm8 hlt
  go_enter Try.func23, Try.ntmps23
  go_upto_region 6 with (go_at_call 44; (with_reducible refine (HMAY.out _ HB.out).mono ?_); rintro e w1 ⟨rfl, ⟨nd, rfl⟩⟩; have n1_ := Aside0.mk (pw_below_drewN HB.out nd); have hx := (n1_.out.cell (World.block_lt_of_cell? w _ HX0.out)).trans HX0.out; clear HB; have HB := n1_; clear n1_)
  clear q0_ q1_ q2_ q3_ q4_ hx
  go_wp2_with (go_at_call 50; (with_reducible refine (HSW.out _ HB.out).mono ?_); rintro e w2 ⟨rfl, hb_⟩; have n1_ := Aside0.mk (HB.out.trans (hb_.mono HB.out.size)); clear HB hb_; have HB := n1_; clear n1_)
  go_ret2
  exact ⟨rfl, HB.out⟩
theorem rd_unit (n k a : Nat) (ha : a < n) : rd (unitL n k) (a : Int) = ((dlt a k : Nat) : Int) := by
  unfold rd unitL dlt
  rw [Int.toNat_natCast, List.getD_eq_getElem?_getD, List.getElem?_set, List.length_replicate, List.getElem?_replicate, if_pos ha]
  by_cases h : a = k
  · subst h
    simp [ha]
  · rw [if_neg (Ne.symm h), if_neg h]
    rfl
theorem dlt_lt (a k : Nat) : dlt a k < 256 := by
  unfold dlt
  split <;> decide
/-- The solver's contract where the matrix has at most four rows. -/
theorem solC_small (A0 : Option Addr) (c0 n : Nat) (l0 : List (List Int)) (w : World) (hsq : squ n l0) (h1 : 1 ≤ n) (h4 : n ≤ 4) (hC : Kd.C (Kd.slice 3 (Kd.int .i64)) w A0 n l0) (hc : n ≤ c0) (hd0 : Det.det n (natM l0) ≠ 0) : SolC A0 c0 n (fun i k => cram n (natM l0) (fun a => dlt a k) i) w :=
  fun W hb k _ A1 c1 _ hV => solved_small A0 A1 c0 c1 n l0 (unitL n k) W hsq h1 h4 (Kd.C_below hC hb) hc hV (fun a => dlt a k) (fun a => dlt_lt a k) (fun a ha => rd_unit n k a ha) hd0
end Go.Proofs.Ytpaenlplpaabjaa.QMatInverts
