/- The reference's solver, walked; no conditions. -/
import Derived.Test.YtpaenlplpaabjaaPureEli
import Derived.Test.YtpaenlplpaabjaaSepCopy
set_option linter.unusedVariables false
set_option linter.unusedSimpArgs false
namespace Go.Proofs.Ytpaenlplpaabjaa.QMatInverts
open Go.RowKit Go.Proofs.YtpaenlplpaabjaaW.PrintWords Go.Proofs.YtpaenlplpaabjaaW.PrintLast Go.Proofs.YtpaenlplpaabjaaW.PrintMore
open Go.Proofs.Ytpaenlplpaabjaa.Sep Go.Proofs.Ytpaenlplpaabjaa.MatB Go.Proofs.Ytpaenlplpaabjaa.Det
/-! ### A matrix of the call's own, read as lists -/
def listM (R : Mx) (n m : Nat) : List (List Int) := (List.range n).map (fun i => (List.range m).map (fun j => ((R i j : Nat) : Int)))
theorem listM_len (R : Mx) (n m : Nat) : (listM R n m).length = n := by unfold listM; rw [List.length_map, List.length_range]
theorem mat_C {T E g n m : Nat} {hs cs : Nat → Nat} {R : Mx} {w0 w : World} {l : List Asn} (h : SL w0 w l) (k : Nat) (hk : l[k]? = some (matN T E g n m hs cs R)) (hn : n ≤ 4000) (hm : m ≤ 4000) : Kd.C (Kd.slice E (Kd.int .i64)) w (some ⟨g, 0, none⟩) n (listM R n m) := by
  refine ⟨listM_len R n m, by omega, fun _ => ⟨_, rfl, fun j p hj => ?_⟩⟩
  unfold listM at hj
  rw [List.getElem?_map] at hj
  obtain ⟨q, hq, rfl⟩ := Option.map_eq_some_iff.1 hj
  obtain ⟨hq1, hq2⟩ := List.getElem?_range_some hq
  subst hq2
  have hle := mat_le h k hk j hq1
  have hC := C_ints (w := w) (g := hs j) (o := 0) (n := m) ((List.range m).map (fun b => ((R j b : Nat) : Int))) (by rw [List.length_map, List.length_range]) (by omega) (fun b x hb => by
    rw [List.getElem?_map] at hb
    obtain ⟨q, hq, rfl⟩ := Option.map_eq_some_iff.1 hb
    obtain ⟨hb1, hb2⟩ := List.getElem?_range_some hq
    subst hb2
    rw [Nat.zero_add]
    exact (mat_cell h k hk j b hq1 hb1).1)
  have hl : ((List.range m).map (fun b => ((R j b : Nat) : Int))).length = m := by rw [List.length_map, List.length_range]
  refine ⟨[.slice (some ⟨hs j, 0, none⟩) m (cs j)], rfl, ⟨some ⟨hs j, 0, none⟩, cs j, by rw [hl], by rw [hl]; exact hle.1, by rw [hl]; exact hC⟩, fun i u hi => ?_⟩
  cases i with
  | zero =>
    have e : u = .slice (some ⟨hs j, 0, none⟩) m (cs j) := by simpa using hi.symm
    subst e
    have hs1 : (Kd.slice E (Kd.int .i64)).sz = 1 := rfl
    rw [hs1, Nat.mul_one, Nat.add_zero, add_at, Nat.zero_add]
    exact (mat_row h k hk j hq1).1
  | succ i => simp at hi
theorem listM_squ {R : Mx} (hR : small R) (n : Nat) : squ n (listM R n n) := by
  refine ⟨listM_len R n n, fun x hx => ?_, fun x hx => ?_⟩
  · unfold listM at hx
    obtain ⟨i, _, rfl⟩ := List.mem_map.1 hx
    rw [List.length_map, List.length_range]
  · unfold listM at hx
    obtain ⟨i, _, rfl⟩ := List.mem_map.1 hx
    rw [List.all_eq_true]
    intro y hy
    obtain ⟨j, _, rfl⟩ := List.mem_map.1 hy
    exact elB_cast (hR i j)
theorem natM_list (R : Mx) (n i j : Nat) (hi : i < n) (hj : j < n) : natM (listM R n n) i j = R i j := by
  unfold natM listM
  have e1 : ((List.range n).map (fun i => (List.range n).map (fun j => ((R i j : Nat) : Int)))).getD i [] = (List.range n).map (fun j => ((R i j : Nat) : Int)) := by
    rw [List.getD_eq_getElem?_getD, List.getElem?_map, List.getElem?_eq_getElem (by rw [List.length_range]; exact hi), List.getElem_range]
    rfl
  rw [e1, List.getD_eq_getElem?_getD, List.getElem?_map, List.getElem?_eq_getElem (by rw [List.length_range]; exact hj), List.getElem_range]
  rfl
/-- The determinant of a matrix that may be read. -/
theorem det_c (A0 : Option Addr) (c0 n : Nat) (l0 : List (List Int)) (hsq : squ n l0) (h1 : 1 ≤ n) (h8 : n ≤ 8) (w : World) (hr0 : Kd.C (Kd.slice 3 (Kd.int .i64)) w A0 n l0) (hc0 : n ≤ c0) :
    Calls Try.prog 85 #[.slice A0 n c0] w fun e w' => e = .returned (.int .i64 ((Det.det n (natM l0) : Nat) : Int)) ∧ Below w.heap.size w w' := by
  obtain ⟨k, hk⟩ := det_is n l0 hsq h1 h8
  have hl := hsq.1
  rw [← hl] at hr0 hc0 ⊢
  rw [hl]
  have h2 := quicksetref_det.calls k (fun q => q < w.heap.size) A0 c0 l0 _ w (Kd.V_mk hc0 (Kd.C_F (Kd.heap_slice _ (Kd.heap_int .i64)) hr0)) hk
  rw [hl] at h2
  exact h2
/-! ### Up to four rows: Cramer -/
def colR (A : Mx) (i k : Nat) (v : Nat → Nat) : Mx := fun a b => if b = i ∧ a < k then v a else A a b
theorem colR_zero (A : Mx) (i : Nat) (v : Nat → Nat) : colR A i 0 v = A := by funext a b; unfold colR; rw [if_neg (fun h => by omega)]
theorem small_col {A : Mx} (h : small A) (i k : Nat) {v : Nat → Nat} (hv : ∀ a, v a < 256) : small (colR A i k v) := fun a b => by
  unfold colR; split
  · exact hv a
  · exact h a b
theorem col_set (A : Mx) (i k : Nat) (v : Nat → Nat) : setM (fun a b => ((colR A i k v a b : Nat) : Int)) k i ((v k : Nat) : Int) = fun a b => ((colR A i (k + 1) v a b : Nat) : Int) := by
  funext a b
  unfold setM colR
  dsimp only
  by_cases ha : a = k
  · subst ha
    by_cases hb : b = i
    · subst hb; rw [if_pos ⟨rfl, rfl⟩, if_pos ⟨rfl, by omega⟩]
    · rw [if_neg (fun h => hb h.2), if_neg (fun h => hb h.1), if_neg (fun h => hb h.1)]
  · rw [if_neg (fun h => ha h.1)]
    by_cases h : b = i ∧ a < k
    · rw [if_pos h, if_pos ⟨h.1, by omega⟩]
    · rw [if_neg h, if_neg (fun h2 => h ⟨h2.1, by omega⟩)]
def cram (n : Nat) (A : Mx) (v : Nat → Nat) (i : Nat) : Nat := Gf.div (Det.det n (colR A i n v)) (Det.det n A)
def solP (n : Nat) (f : Nat → Nat) (i : Nat) : List Int := (List.range n).map (fun q => if q < i then ((f q : Nat) : Int) else 0)
theorem solP_len (n : Nat) (f : Nat → Nat) (i : Nat) : (solP n f i).length = n := by unfold solP; rw [List.length_map, List.length_range]
theorem solP_zero (n : Nat) (f : Nat → Nat) : solP n f 0 = List.replicate n 0 := by
  unfold solP
  apply List.ext_getElem?
  intro j
  by_cases h : j < n
  · rw [List.getElem?_map, List.getElem?_eq_getElem (by rw [List.length_range]; exact h), List.getElem?_replicate, if_pos h]; rfl
  · rw [List.getElem?_eq_none (by rw [List.length_map, List.length_range]; omega), List.getElem?_eq_none (by rw [List.length_replicate]; omega)]
theorem solP_set (n : Nat) (f : Nat → Nat) (i : Nat) (h : i < n) : (solP n f i).set i ((f i : Nat) : Int) = solP n f (i + 1) := by
  unfold solP
  apply List.ext_getElem?
  intro j
  rw [List.getElem?_set]
  by_cases hj : i = j
  · subst hj
    rw [if_pos rfl, if_pos (by rw [List.length_map, List.length_range]; exact h), List.getElem?_map, List.getElem?_eq_getElem (by rw [List.length_range]; exact h), List.getElem_range]
    show _ = some (if i < i + 1 then ((f i : Nat) : Int) else 0)
    rw [if_pos (Nat.lt_succ_self i)]
  · rw [if_neg hj, List.getElem?_map, List.getElem?_map]
    by_cases h2 : j < n
    · rw [List.getElem?_eq_getElem (by rw [List.length_range]; exact h2), List.getElem_range]
      show some (if j < i then ((f j : Nat) : Int) else 0) = some (if j < i + 1 then ((f j : Nat) : Int) else 0)
      by_cases h3 : j < i
      · rw [if_pos h3, if_pos (by omega)]
      · rw [if_neg h3, if_neg (by omega)]
    · rw [List.getElem?_eq_none (by rw [List.length_range]; omega)]; rfl
theorem SL.also {w0 w w' : World} {l : List Asn} {A : Asn} (h : SL w0 w l) (h2 : SL w w' [A]) : SL w0 w' (A :: l) := by
  obtain ⟨hb, S, _, hA, _⟩ := h2
  exact h.new hb hA
set_option maxHeartbeats 4000000 in
set_option maxRecDepth 100000 in
theorem solved_small (A0 A1 : Option Addr) (c0 c1 n : Nat) (l0 : List (List Int)) (vl : List Int) (w : World) (hsq : squ n l0) (h1 : 1 ≤ n) (h4 : n ≤ 4) (hC : Kd.C (Kd.slice 3 (Kd.int .i64)) w A0 n l0) (hc : n ≤ c0) (hV : Kd.C (Kd.int .i64) w A1 n vl) (v : Nat → Nat) (hv : ∀ a, v a < 256) (hvl : ∀ a, a < n → rd vl (a : Int) = ((v a : Nat) : Int)) (hd0 : Det.det n (natM l0) ≠ 0) :
    Calls Try.prog 52 #[.slice A0 n c0, .slice A1 n c1] w fun e w' => ∃ v' : Value, e = .returned v' ∧ Kd.R (Kd.int .i64) 3 w' w.heap.size (fun _ => True) v' (solP n (cram n (natM l0) v) n) ∧ Below w.heap.size w w' := by
  have hln := hsq.1
  have HDET := Aside0.mk (fun (W : World) (hb : Below w.heap.size w W) => det_c A0 c0 n l0 hsq h1 (by omega) W (Kd.C_below hC hb) hc)
  have HOWN := Aside0.mk (fun (W : World) (hb : Below w.heap.size w W) => own_calls A0 c0 l0 W (by rw [hln]; exact Kd.C_below hC hb) (by rw [hln]; exact hc) (by rw [hln]; omega) (fun r hr => by rw [hsq.2.1 r hr]; omega))
  have HTO := Aside0.mk (fun (W w' : World) (l : List Asn) (v' : Value) (h : SL W w' (sA (Kd.slice 3 (Kd.int .i64)) 28 v' l0 :: l)) => to_matN (m := n) h (by omega) (by omega) hsq.2.1 hsq.2.2)
  rw [hln] at HOWN HTO
  have hAs := natM_small l0 hsq.2.2
  obtain ⟨adv, rfl, _⟩ := Kd.at_int hV 0 (Int.le_refl 0) (by omega)
  have HV := Aside0.mk (fun (W : World) (hb : Below w.heap.size w W) (a : Nat) (ha : a < n) => (show W.cell? (adv.add a) = some (.int .i64 ((v a : Nat) : Int)) by
    obtain ⟨ad2, e2, hx⟩ := Kd.at_int hV (a : Int) (Int.natCast_nonneg _) (by omega)
    injection e2 with e2
    subst e2
    rw [Int.toNat_natCast, hvl a ha] at hx
    exact (hb.cell (World.block_lt_of_cell? w _ hx)).trans hx))
  obtain ⟨A, hAe⟩ : ∃ A, A = natM l0 := ⟨_, rfl⟩
  rw [← hAe] at HDET HTO hAs hd0 ⊢
  have HA := Aside0.mk hAs
  have HD0 := Aside0.mk hd0
  have HVS := Aside0.mk hv
  have HN4 := Aside0.mk h4
  have HN1 := Aside0.mk h1
  have HSQ := Aside0.mk hsq
  have HAE := Aside0.mk hAe
  have HDD : Aside0 (Det.det n A < 256) := ⟨Det.det_lt n A hAs⟩
  obtain ⟨dd, hdd⟩ : ∃ dd, dd = Det.det n A := ⟨_, rfl⟩
  rw [← hdd] at HDET hd0 HDD
  have HDE := Aside0.mk hdd
  have HS := Aside0.mk (SL.start w)
  have q0_ : decide ((n : Int) ≤ 4) = true := decide_eq_true (by omega)
  have q1_ : decide (n ≤ 4) = true := decide_eq_true h4
  clear hsq hC hc hV hvl hd0 hAs hv hln hAe hdd
  go_enter Try.func52, Try.ntmps52
  go_upto_region 4 with (go_at_call 85; (with_reducible refine (HDET.out _ (Below.refl _ _)).mono ?_); rintro e w1 ⟨rfl, hb_⟩; have n1_ := Aside0.mk (HS.out.ext hb_); clear HS hb_; have HS := n1_; clear n1_)
  clear q0_ q1_
  go_upto_region 6 with ((with_reducible refine gate_dst (N := 29) rfl ?_); (with_reducible apply Sep.make_row (d := (Kd.int .i64)) (t := 28) (e := 3) (n := (n : Int)) (z0 := 0)); (case hSL => exact (by repeat (first | (with_reducible first | exact HS.out | apply Sep.SL.drewN | apply Sep.SL.drew | apply Sep.SL.alloc | apply below_drew1) | exact HS.out))); (case hgd => exact rfl); (case hd => exact rfl); (case ho => exact rfl); (case hx => exact rfl); (case hy => exact rfl); (case ht => exact Try.underlying28); (case hinfo => exact info3); (case hz => exact rfl); (case hs0 => decide); (case hb0 => omega); (case hzero => exact (fun _ _ => rfl)); (case h0 => omega); (case hl => omega); intro v1_ w1_ hs_; have n1_ := Aside0.mk hs_; clear HS hs_; have HS := n1_; clear n1_; obtain ⟨go, co, e1_⟩ := Sep.SL.form HS.out 0 rfl (by rw [List.length_replicate, Int.toNat_natCast]; exact HN1.out); rw [Int.toNat_natCast] at e1_ HS; rw [List.length_replicate] at e1_; subst e1_)
  rw [← solP_zero n (cram n A v)] at HS
  go_loopg [32] n (fun kq v32 wr => ∃ i : Nat, v32 = .int .i64 (i : Int) ∧ i + kq = n ∧ Aside0 (SL w wr [rowA (Kd.int .i64) 3 (.slice (some ⟨go, 0, none⟩) n co) (solP n (cram n A v) i)]))
  case atStart => exact ⟨0, rfl, by omega, HS⟩
  case round =>
    clear HS
    obtain ⟨i, rfl, hik, HS⟩ := hrel
    cases gk with
    | zero =>
      obtain rfl : i = n := by omega
      have hit : decide ((i : Int) < (i : Int)) = false := decide_eq_false (by omega)
      clear hik h1 h4
      go_wp2_with (fail)
      go_ret
      exact ⟨_, rfl, HS.out.row 0 rfl, HS.out.below⟩
    | succ g1 =>
      have hin : i < n := by omega
      have HIN := Aside0.mk hin
      have HIK : Aside0 (i + 1 + g1 = n) := ⟨by omega⟩
      have hwi := Aside0.mk (wr1 i (by omega))
      have hit : decide ((i : Int) < (n : Int)) = true := decide_eq_true (Int.ofNat_lt.2 hin)
      have hit2 : decide (i < n) = true := decide_eq_true hin
      clear hik h1 h4 hin
      go_upto_region 10 with (go_at_call 83; (with_reducible refine (HOWN.out _ HS.out.below).mono ?_); rintro e w2 ⟨vo, rfl, hs_⟩; have n1_ := SL.also HS.out hs_; obtain ⟨g, cap, hs, cs, rfl, hcap, hs1_⟩ := HTO.out w w2 _ vo n1_; clear HS hs_ n1_; have HS := Aside0.mk hs1_; have HCAP := Aside0.mk hcap; clear hs1_ hcap)
      clear hit hit2
      have HS : Aside0 (SL w w2 [matN 28 3 g n n hs cs (colR A i 0 v), rowA (Kd.int .i64) 3 (.slice (some ⟨go, 0, none⟩) n co) (solP n (cram n A v) i)]) := by rw [colR_zero]; exact HS
      go_loopg [39] n (fun kq v39 wr => ∃ k : Nat, v39 = .int .i64 (k : Int) ∧ k + kq = n ∧ Aside0 (SL w wr [matN 28 3 g n n hs cs (colR A i k v), rowA (Kd.int .i64) 3 (.slice (some ⟨go, 0, none⟩) n co) (solP n (cram n A v) i)]))
      case atStart => exact ⟨0, rfl, by omega, HS⟩
      case round =>
        clear HS
        obtain ⟨k, rfl, hkk, HS⟩ := hrel
        cases gk with
        | zero =>
          have hkn : k = n := by omega
          subst hkn
          clear hkk
          have hit : decide ((k : Int) < (k : Int)) = false := decide_eq_false (by omega)
          have hsc := small_col HA.out i k HVS.out
          have hdc : Det.det k (natM (listM (colR A i k v) k k)) = Det.det k (colR A i k v) := Det.det_congr k _ _ (fun r c hr hc => natM_list _ k r c hr hc)
          have HDC := Aside0.mk (fun (W : World) (hS : SL w W [matN 28 3 g k k hs cs (colR A i k v), rowA (Kd.int .i64) 3 (.slice (some ⟨go, 0, none⟩) k co) (solP k (cram k A v) i)]) => det_c (some ⟨g, 0, none⟩) cap k (listM (colR A i k v) k k) (listM_squ hsc k) HN1.out (Nat.le_trans HN4.out (by decide)) W (mat_C hS 0 rfl (Nat.le_trans HN4.out (by decide)) (Nat.le_trans HN4.out (by decide))) HCAP.out)
          rw [hdc] at HDC
          have HDL : Aside0 (Det.det k (colR A i k v) < 256) := ⟨Det.det_lt k _ hsc⟩
          have hcr : cram k A v i = Gf.div (Det.det k (colR A i k v)) dd := by rw [HDE.out]; rfl
          obtain ⟨dc, hdc2⟩ : ∃ dc, dc = Det.det k (colR A i k v) := ⟨_, rfl⟩
          rw [← hdc2] at HDC HDL hcr
          have HCR := Aside0.mk hcr
          clear hsc hdc hcr hdc2
          have hset := solP_set k (cram k A v) i HIN.out
          rw [HCR.out] at hset
          have HSET := Aside0.mk hset
          clear hset
          have hb0_ : ((0 : Int) ≤ (i : Int)) = True := eq_true (Int.natCast_nonneg i)
          have hb1_ : ((i : Int) < (k : Int)) = True := eq_true (Int.ofNat_lt.2 HIN.out)
          have hb2_ : (i < k) = True := eq_true HIN.out
          go_wp2_with (first | (go_at_call 85; (with_reducible refine (HDC.out _ HS.out).mono ?_); rintro e w3 ⟨rfl, hb_⟩; have n1_ := Aside0.mk (HS.out.ext hb_); clear HS hb_; have HS := n1_; clear n1_) | (go_at_call 84; (with_reducible refine (div_c dc dd _ HDL.out (Nat.pos_of_ne_zero (by rw [HDE.out]; exact HD0.out)) HDD.out).mono ?_); rintro e w4 ⟨rfl, hb_⟩; have n1_ := Aside0.mk (HS.out.ext hb_); clear HS hb_; have HS := n1_; clear n1_; obtain ⟨hy1_, hy2_⟩ := HS.out.int 1 rfl (i : Int) (Int.natCast_nonneg i) (by rw [solP_len]; exact Int.ofNat_lt.2 HIN.out); rw [Int.toNat_natCast] at hy1_ hy2_; have HP := Aside0.mk (HS.out.drop.intPut 0 rfl (i : Int) ((Gf.div dc dd : Nat) : Int)); rw [Int.toNat_natCast, HSET.out] at HP))
          go_roundg g1
          case measure => exact Nat.lt_succ_self _
          case rel => exact ⟨i + 1, congrArg (Value.int .i64) hwi.out, HIK.out, HP⟩
        | succ g2 =>
          have hkn : k < n := by omega
          have HKK : Aside0 (k + 1 + g2 = n) := ⟨by omega⟩
          have hwk := Aside0.mk (wr1 k (by have := HN4.out; omega))
          have hit : decide ((k : Int) < (n : Int)) = true := decide_eq_true (Int.ofNat_lt.2 hkn)
          have hit2 : decide (k < n) = true := decide_eq_true hkn
          have hcs := Aside0.mk (col_set A i k v)
          clear hkk
          go_upto_region 12 with (fail)
          clear hit hit2
          have hb0_ : ((0 : Int) ≤ (i : Int)) = True := eq_true (Int.natCast_nonneg i)
          have hb1_ : ((i : Int) < (n : Int)) = True := eq_true (Int.ofNat_lt.2 HIN.out)
          have hb2_ : (i < n) = True := eq_true HIN.out
          have hb3_ : ((0 : Int) ≤ (k : Int)) = True := eq_true (Int.natCast_nonneg k)
          have hb4_ : ((k : Int) < (n : Int)) = True := eq_true (Int.ofNat_lt.2 hkn)
          have hb5_ : (k < n) = True := eq_true hkn
          (refine start_ (n := 11) (S := (fun w_ => SL w w_ [matN 28 3 g n n hs cs (colR A i k v), rowA (Kd.int .i64) 3 (.slice (some ⟨go, 0, none⟩) n co) (solP n (cram n A v) i)])) (ds := [10]) #[false, false, false, false, false, false, false, false, false, false, false] (by kernel_rfl) rfl rfl (by repeat (first | (with_reducible first | exact HS.out | apply Sep.SL.drewN | apply Sep.SL.drew | apply Sep.SL.alloc | apply below_drew1) | exact HS.out)) (fun hHeld => ?_); clear HS; have HS := Aside0.mk hHeld; clear hHeld; generalize World.drew _ = wr_ at HS ⊢)
          (refine pure_ (i := 0) (N := some 42) (v := ?_) (a' := ?_) #[true, false, false, false, false, false, false, false, false, false, false] rfl rfl (by kernel_rfl) (fun _ _ _ h => h) (Or.inl ⟨by rfl, ?_⟩) ?_ ?_; rotate_left; (intro w_; go_simp; with_reducible rfl); rotate_left; (simp only [Act.put, List.setIfInBounds_toArray, List.set_cons_zero, List.set_cons_succ, i64_w, i32_w]; rfl))
          (refine pure_ (i := 1) (N := some 43) (v := ?_) (a' := ?_) #[true, true, false, false, false, false, false, false, false, false, false] rfl rfl (by kernel_rfl) (fun _ _ _ h => h) (Or.inl ⟨by rfl, ?_⟩) ?_ ?_; rotate_left; (intro w_; go_simp; with_reducible rfl); rotate_left; (simp only [Act.put, List.setIfInBounds_toArray, List.set_cons_zero, List.set_cons_succ, i64_w, i32_w]; rfl))
          (refine pure_ (i := 2) (N := some 44) (v := ?_) (a' := ?_) #[true, true, true, false, false, false, false, false, false, false, false] rfl rfl (by kernel_rfl) (fun _ _ _ h => h) (Or.inl ⟨by rfl, ?_⟩) ?_ ?_; rotate_left; (intro w_; go_simp; with_reducible rfl); rotate_left; (simp only [Act.put, List.setIfInBounds_toArray, List.set_cons_zero, List.set_cons_succ, i64_w, i32_w]; rfl))
          (refine take_ (i := 3) (N := some 45) (v := (.slice (some ⟨hs k, 0, none⟩) n (cs k))) (a' := ?_) #[true, true, true, true, false, false, false, false, false, false, false] rfl rfl (by kernel_rfl) (fun _ _ _ h => h) (Or.inl ⟨by rfl, ?_⟩) HS.out ?_ ?_; (intro w_ hS_; (obtain ⟨hx_, _, _⟩ := mat_row hS_ 0 rfl k hkn; go_simp)); rotate_left; (simp only [Act.put, List.setIfInBounds_toArray, List.set_cons_zero, List.set_cons_succ, i64_w, i32_w]; rfl))
          (refine pure_ (i := 4) (N := some 46) (v := ?_) (a' := ?_) #[true, true, true, true, true, false, false, false, false, false, false] rfl rfl (by kernel_rfl) (fun _ _ _ h => h) (Or.inl ⟨by rfl, ?_⟩) ?_ ?_; rotate_left; (intro w_; go_simp; with_reducible rfl); rotate_left; (simp only [Act.put, List.setIfInBounds_toArray, List.set_cons_zero, List.set_cons_succ, i64_w, i32_w]; rfl))
          (refine pure_ (i := 5) (N := some 47) (v := ?_) (a' := ?_) #[true, true, true, true, true, true, false, false, false, false, false] rfl rfl (by kernel_rfl) (fun _ _ _ h => h) (Or.inl ⟨by rfl, ?_⟩) ?_ ?_; rotate_left; (intro w_; go_simp; with_reducible rfl); rotate_left; (simp only [Act.put, List.setIfInBounds_toArray, List.set_cons_zero, List.set_cons_succ, i64_w, i32_w]; rfl))
          (refine pure_ (i := 6) (N := some 48) (v := ?_) (a' := ?_) #[true, true, true, true, true, true, true, false, false, false, false] rfl rfl (by kernel_rfl) (fun _ _ _ h => h) (Or.inl ⟨by rfl, ?_⟩) ?_ ?_; rotate_left; (intro w_; go_simp; with_reducible rfl); rotate_left; (simp only [Act.put, List.setIfInBounds_toArray, List.set_cons_zero, List.set_cons_succ, i64_w, i32_w]; rfl))
          (refine pure_ (i := 7) (N := some 49) (v := ?_) (a' := ?_) #[true, true, true, true, true, true, true, true, false, false, false] rfl rfl (by kernel_rfl) (fun _ _ _ h => h) (Or.inl ⟨by rfl, ?_⟩) ?_ ?_; rotate_left; (intro w_; go_simp; with_reducible rfl); rotate_left; (simp only [Act.put, List.setIfInBounds_toArray, List.set_cons_zero, List.set_cons_succ, i64_w, i32_w]; rfl))
          (refine take_ (i := 8) (N := some 50) (v := (.int .i64 ((v k : Nat) : Int))) (a' := ?_) #[true, true, true, true, true, true, true, true, true, false, false] rfl rfl (by kernel_rfl) (fun _ _ _ h => h) (Or.inl ⟨by rfl, ?_⟩) HS.out ?_ ?_; (intro w_ hS_; (have hx_ := HV.out w_ hS_.below k hkn; go_simp)); rotate_left; (simp only [Act.put, List.setIfInBounds_toArray, List.set_cons_zero, List.set_cons_succ, i64_w, i32_w]; rfl))
          (refine pure_ (i := 9) (N := some 51) (v := ?_) (a' := ?_) #[true, true, true, true, true, true, true, true, true, true, false] rfl rfl (by kernel_rfl) (fun _ _ _ h => h) (Or.inl ⟨by rfl, ?_⟩) ?_ ?_; rotate_left; (intro w_; go_simp; with_reducible rfl); rotate_left; (simp only [Act.put, List.setIfInBounds_toArray, List.set_cons_zero, List.set_cons_succ, i64_w, i32_w]; rfl))
          obtain ⟨hy1_, hy2_, _⟩ := mat_cellN HS.out 0 rfl k i hkn HIN.out _ rfl
          have HP := Aside0.mk (mat_putN HS.out 0 rfl k i hkn (v k) hcs.out)
          (refine last_ (i := 10) (N := none) #[true, true, true, true, true, true, true, true, true, true, true] rfl rfl (by kernel_rfl) (by decide) (fun K hK => ?_); (go_simp); refine hK.out _ _ ?_; clear hK K)
          refine done_ (by kernel_rfl) ?_
          clear HS
          generalize World.setCell _ _ _ = w6 at HP ⊢
          clear hb0_ hb1_ hb2_ hb3_ hb4_ hb5_ hy1_ hy2_ hkn
          go_wp2_with (fail)
          go_roundg g2
          case measure => exact Nat.lt_succ_self _
          case rel => exact ⟨k + 1, congrArg (Value.int .i64) hwk.out, HKK.out, HP⟩
end Go.Proofs.Ytpaenlplpaabjaa.QMatInverts
