/- The reference's solver for more than four rows, walked; no conditions. -/
import Derived.Test.YtpaenlplpaabjaaMatK
import Derived.Test.YtpaenlplpaabjaaMatX
set_option linter.unusedVariables false
set_option linter.unusedSimpArgs false
namespace Go.Proofs.Ytpaenlplpaabjaa.Sol
open Go.Proofs.Ytpaenlplpaabjaa.QMatInverts Go.RowKit Go.Proofs.YtpaenlplpaabjaaW.PrintWords Go.Proofs.YtpaenlplpaabjaaW.PrintLast Go.Proofs.YtpaenlplpaabjaaW.PrintMore
open Go.Proofs.Ytpaenlplpaabjaa.Sep Go.Proofs.Ytpaenlplpaabjaa.MatB Go.Proofs.Ytpaenlplpaabjaa.Det
theorem lowC_start {T E g n m : Nat} {hs cs : Nat → Nat} {R : Mx} {w0 w : World} {l : List Asn} (h : SL w0 w (matN T E g n m hs cs R :: l)) (c : Nat) : SL w0 w (matN T E g n m hs cs (lowC R c m (c + 1)) :: l) := by rw [lowC_zero]; exact h
theorem elimF_start {T E g n m : Nat} {hs cs : Nat → Nat} {R : Mx} {w0 w : World} {l : List Asn} (h : SL w0 w (matN T E g n m hs cs R :: l)) (c j f : Nat) : SL w0 w (matN T E g n m hs cs (elimF R c j f c) :: l) := by rw [elimF_zero]; exact h
theorem append_row_stepE {P : Program} {ops : Array Oper} {o : Oper} {a : Act} {Q : Exit → Act → World → Prop} {α : Type} {Kc : Act → World → Prop} {Eo : Prop} (d : Kd α) {w0 W : World} {l : List Asn} {v : Value} {xs : List α} {p : α} {cs : List Value} (hgd : o.guard = none) (s x : Operand) (t e : TypeId) (z : Value) (bytes : Nat)
    (ho : o.op = .call { callee := .builtin .append, args := #[s, x], argTypes := #[t, t] })
    (ht : P.underlying t = some (.slice e)) (hinfo : (P.info? e).map (fun i => (i.zero, i.size, i.bytes)) = some (some z, d.sz, bytes)) (hz : z.cells.size = d.sz) (hs0 : 0 < d.sz) (hb0 : 0 < bytes)
    (hSL : SL w0 W (rowA d e v xs :: valA d p cs :: l)) (hs : a.eval s = v) (hx : a.eval x = .slice (some ⟨W.heap.size, 0, none⟩) 1 1) (hl : (xs.length + 1) * bytes ≤ 140737488355328)
    (h : ∀ v1 w1, SL w0 w1 (rowA d e v1 (xs ++ [p]) :: l) → Kc (a.put o.dst v1) w1) :
    if Region.wanted o (yielded ops a.tmps) = true then Oper.wp P o a (W.alloc (.cells cs.toArray e)) Kc Q else Eo := by
  have hw : Region.wanted o (yielded ops a.tmps) = true := by simp [Region.wanted, hgd]
  have h1 := append_row_step (ops := ops) (Q := Q) d hgd s x t e z bytes ho ht hinfo hz hs0 hb0 hSL hs hx hl h
  rw [if_pos hw] at h1 ⊢
  exact h1
set_option maxHeartbeats 8000000 in
set_option maxRecDepth 100000 in
theorem solved_big (A0 A1 : Option Addr) (c0 c1 n : Nat) (l0 : List (List Int)) (vl : List Int) (w : World) (hsq : squ n l0) (h1 : 5 ≤ n) (h8 : n ≤ 8) (hC : Kd.C (Kd.slice 3 (Kd.int .i64)) w A0 n l0) (hc : n ≤ c0) (hV : Kd.C (Kd.int .i64) w A1 n vl) (v : Nat → Nat) (hv : ∀ a, v a < 256) (hvl : ∀ a, a < n → rd vl (a : Int) = ((v a : Nat) : Int)) (hrank : swRun n n n 0 0 (natM l0) = n) :
    Calls Try.prog 52 #[.slice A0 n c0, .slice A1 n c1] w fun e w' => ∃ v' : Value, e = .returned v' ∧ Kd.R (Kd.int .i64) 3 w' w.heap.size (fun _ => True) v' (outE (eliRun n n 0 (widM (natM l0) n v n)) n n) ∧ Below w.heap.size w w' := by
  have hln := hsq.1
  have HOWN := Aside0.mk (fun (W : World) (hb : Below w.heap.size w W) => own_calls A0 c0 l0 W (by rw [hln]; exact Kd.C_below hC hb) (by rw [hln]; exact hc) (by rw [hln]; exact h8) (fun r hr => by rw [hsq.2.1 r hr]; omega))
  have HTO := Aside0.mk (fun (W w' : World) (l : List Asn) (v' : Value) (h : SL W w' (sA (Kd.slice 3 (Kd.int .i64)) 28 v' l0 :: l)) => to_matN (m := n) h (by omega) (by omega) hsq.2.1 hsq.2.2)
  rw [hln] at HOWN HTO
  have hAs := natM_small l0 hsq.2.2
  obtain ⟨adv, rfl, _⟩ := Kd.at_int hV 0 (Int.le_refl 0) (by omega)
  have HV := Aside0.mk (fun (W : World) (hb : Below w.heap.size w W) (a : Nat) (ha : a < n) => (show W.cell? (adv.add a) = some (.int .i64 ((v a : Nat) : Int)) by
    obtain ⟨ad2, e2, hx⟩ := Kd.at_int hV (a : Int) (Int.natCast_nonneg _) (by omega)
    injection e2 with e2
    subst e2
    rw [Int.toNat_natCast, hvl a ha] at hx
    exact (hb.cell (World.block_lt_of_cell? w _ hx)).trans hx))
  obtain ⟨A, hAe⟩ : ∃ A, A = natM l0 := ⟨_, rfl⟩
  rw [← hAe] at HTO hAs hrank ⊢
  have hpv := pivs_ok n n 0 (widM A n v n) A (Nat.zero_add n) (small_wid hAs n hv n) (fun a b hb _ _ => absurd hb (Nat.not_lt_zero _)) (fun a b _ ha hb => by unfold widM; rw [if_neg (fun h => by omega)]) hrank
  have HPV := Aside0.mk hpv
  have hdg := (eli_ok n n 0 (widM A n v n) A (Nat.zero_add n) (small_wid hAs n hv n) (fun a b hb _ _ => absurd hb (Nat.not_lt_zero _)) (fun a ha => absurd ha (Nat.not_lt_zero _)) (fun a b _ ha hb => by unfold widM; rw [if_neg (fun h => by omega)]) hrank).2.2.1
  have HA := Aside0.mk hAs
  have HVS := Aside0.mk hv
  have HN8 := Aside0.mk h8
  have HN5 := Aside0.mk h1
  obtain ⟨RE, hRE⟩ : ∃ RE, RE = eliRun n n 0 (widM A n v n) := ⟨_, rfl⟩
  have hres : small RE := by rw [hRE]; exact small_eli n 0 _ (small_wid hAs n hv n)
  have HRES := Aside0.mk hres
  rw [← hRE] at hdg ⊢
  have HDG := Aside0.mk hdg
  have HRE := Aside0.mk hRE.symm
  have HS := Aside0.mk (SL.start w)
  have q0_ : decide ((n : Int) ≤ 4) = false := decide_eq_false (by omega)
  have q1_ : decide (n ≤ 4) = false := decide_eq_false (by omega)
  clear hsq hC hc hV hvl hAs hv hln hAe hrank hpv h1 h8 hRE hres hdg
  go_enter Try.func52, Try.ntmps52
  go_upto_region 19 with (go_at_call 83; (with_reducible refine (HOWN.out _ HS.out.below).mono ?_); rintro e w2 ⟨vo, rfl, hs_⟩; have n1_ := SL.also HS.out hs_; obtain ⟨g, cap, hs0, cs0, rfl, hcap, hs1_⟩ := HTO.out w w2 _ vo n1_; clear HS hs_ n1_; have HS := Aside0.mk (wid_start (v := v) hs1_); clear hs1_ hcap)
  clear q0_ q1_ HOWN HTO
  go_loopg [12, 66] n (fun kq v12 v66 wr => ∃ (i : Nat) (hs cs : Nat → Nat), v66 = .int .i64 (i : Int) ∧ i + kq = n ∧ Aside0 (SL w wr [matW 28 3 g n n (widN n i) hs cs (fun a b => ((widM A n v i a b : Nat) : Int))]))
  case atStart => exact ⟨0, hs0, cs0, rfl, by omega, HS⟩
  case round =>
    clear HS
    obtain ⟨i, hs, cs, rfl, hik, HS⟩ := hrel
    cases gk with
    | succ g1 =>
      have hin : i < n := by omega
      have HIN := Aside0.mk hin
      have HIK : Aside0 (i + 1 + g1 = n) := ⟨by omega⟩
      have hwi := Aside0.mk (wr1 i (by have := HN8.out; omega))
      have hit : decide ((i : Int) < (n : Int)) = true := decide_eq_true (Int.ofNat_lt.2 hin)
      have hit2 : decide (i < n) = true := decide_eq_true hin
      clear hik
      go_upto_region 21 with (fail)
      clear hit hit2
      have hb0_ : ((0 : Int) ≤ (i : Int)) = True := eq_true (Int.natCast_nonneg i)
      have hb1_ : ((i : Int) < (n : Int)) = True := eq_true (Int.ofNat_lt.2 hin)
      have hb2_ : (i < n) = True := eq_true hin
      (refine start_ (n := 14) (S := (fun w_ => SL w w_ [matW 28 3 g n n (widN n i) hs cs (fun a b => ((widM A n v i a b : Nat) : Int))])) (ds := [11, 13]) #[false, false, false, false, false, false, false, false, false, false, false, false, false, false] (by kernel_rfl) rfl rfl (by repeat (first | (with_reducible first | exact HS.out | apply Sep.SL.drewN | apply Sep.SL.drew | apply Sep.SL.alloc | apply below_drew1) | exact HS.out)) (fun hHeld => ?_); clear HS; have HS := Aside0.mk hHeld; clear hHeld; generalize World.drew _ = wr_ at HS ⊢)
      (refine pure_ (i := 0) (N := some 69) (v := ?_) (a' := ?_) #[true, false, false, false, false, false, false, false, false, false, false, false, false, false] rfl rfl (by kernel_rfl) (fun _ _ _ h => h) (Or.inl ⟨by rfl, ?_⟩) ?_ ?_; rotate_left; (intro w_; go_simp; with_reducible rfl); rotate_left; (simp only [Act.put, List.setIfInBounds_toArray, List.set_cons_zero, List.set_cons_succ, i64_w, i32_w]; rfl))
      (refine pure_ (i := 1) (N := some 70) (v := ?_) (a' := ?_) #[true, true, false, false, false, false, false, false, false, false, false, false, false, false] rfl rfl (by kernel_rfl) (fun _ _ _ h => h) (Or.inl ⟨by rfl, ?_⟩) ?_ ?_; rotate_left; (intro w_; go_simp; with_reducible rfl); rotate_left; (simp only [Act.put, List.setIfInBounds_toArray, List.set_cons_zero, List.set_cons_succ, i64_w, i32_w]; rfl))
      (refine pure_ (i := 2) (N := some 71) (v := ?_) (a' := ?_) #[true, true, true, false, false, false, false, false, false, false, false, false, false, false] rfl rfl (by kernel_rfl) (fun _ _ _ h => h) (Or.inl ⟨by rfl, ?_⟩) ?_ ?_; rotate_left; (intro w_; go_simp; with_reducible rfl); rotate_left; (simp only [Act.put, List.setIfInBounds_toArray, List.set_cons_zero, List.set_cons_succ, i64_w, i32_w]; rfl))
      (refine pure_ (i := 3) (N := some 72) (v := ?_) (a' := ?_) #[true, true, true, true, false, false, false, false, false, false, false, false, false, false] rfl rfl (by kernel_rfl) (fun _ _ _ h => h) (Or.inl ⟨by rfl, ?_⟩) ?_ ?_; rotate_left; (intro w_; go_simp; with_reducible rfl); rotate_left; (simp only [Act.put, List.setIfInBounds_toArray, List.set_cons_zero, List.set_cons_succ, i64_w, i32_w]; rfl))
      (refine pure_ (i := 4) (N := some 73) (v := ?_) (a' := ?_) #[true, true, true, true, true, false, false, false, false, false, false, false, false, false] rfl rfl (by kernel_rfl) (fun _ _ _ h => h) (Or.inl ⟨by rfl, ?_⟩) ?_ ?_; rotate_left; (intro w_; go_simp; with_reducible rfl); rotate_left; (simp only [Act.put, List.setIfInBounds_toArray, List.set_cons_zero, List.set_cons_succ, i64_w, i32_w]; rfl))
      (refine take_ (i := 5) (N := some 74) (v := (.slice (some ⟨hs i, 0, none⟩) n (cs i))) (a' := ?_) #[true, true, true, true, true, true, false, false, false, false, false, false, false, false] rfl rfl (by kernel_rfl) (fun _ _ _ h => h) (Or.inl ⟨by rfl, ?_⟩) HS.out ?_ ?_; (intro w_ hS_; (obtain ⟨hx_, _⟩ := wid_at hS_ 0 rfl hin; go_simp)); rotate_left; (simp only [Act.put, List.setIfInBounds_toArray, List.set_cons_zero, List.set_cons_succ, i64_w, i32_w]; rfl))
      (refine pure_ (i := 6) (N := some 75) (v := ?_) (a' := ?_) #[true, true, true, true, true, true, true, false, false, false, false, false, false, false] rfl rfl (by kernel_rfl) (fun _ _ _ h => h) (Or.inl ⟨by rfl, ?_⟩) ?_ ?_; rotate_left; (intro w_; go_simp; with_reducible rfl); rotate_left; (simp only [Act.put, List.setIfInBounds_toArray, List.set_cons_zero, List.set_cons_succ, i64_w, i32_w]; rfl))
      (refine pure_ (i := 7) (N := some 76) (v := ?_) (a' := ?_) #[true, true, true, true, true, true, true, true, false, false, false, false, false, false] rfl rfl (by kernel_rfl) (fun _ _ _ h => h) (Or.inl ⟨by rfl, ?_⟩) ?_ ?_; rotate_left; (intro w_; go_simp; with_reducible rfl); rotate_left; (simp only [Act.put, List.setIfInBounds_toArray, List.set_cons_zero, List.set_cons_succ, i64_w, i32_w]; rfl))
      (refine pure_ (i := 8) (N := some 77) (v := ?_) (a' := ?_) #[true, true, true, true, true, true, true, true, true, false, false, false, false, false] rfl rfl (by kernel_rfl) (fun _ _ _ h => h) (Or.inl ⟨by rfl, ?_⟩) ?_ ?_; rotate_left; (intro w_; go_simp; with_reducible rfl); rotate_left; (simp only [Act.put, List.setIfInBounds_toArray, List.set_cons_zero, List.set_cons_succ, i64_w, i32_w]; rfl))
      (refine take_ (i := 9) (N := some 78) (v := (.int .i64 ((v i : Nat) : Int))) (a' := ?_) #[true, true, true, true, true, true, true, true, true, true, false, false, false, false] rfl rfl (by kernel_rfl) (fun _ _ _ h => h) (Or.inl ⟨by rfl, ?_⟩) HS.out ?_ ?_; (intro w_ hS_; (have hx_ := HV.out w_ hS_.below i hin; go_simp)); rotate_left; (simp only [Act.put, List.setIfInBounds_toArray, List.set_cons_zero, List.set_cons_succ, i64_w, i32_w]; rfl))
      refine one_ (i := 10) (N := some 79) #[true, true, true, true, true, true, true, true, true, true, true, false, false, false] rfl rfl (by kernel_rfl) (by decide) (fun K hK => ?_)
      go_simp
      refine hK.out _ _ (HS.out.alloc _) (fun hHeld => ?_)
      clear hK K hHeld
      refine last_ (i := 11) (N := some 80) #[true, true, true, true, true, true, true, true, true, true, true, true, false, false] rfl rfl (by kernel_rfl) (by decide) (fun K hK => ?_)
      have HT := Aside0.mk (wid_take HS.out hin)
      clear HS
      (with_reducible apply append_row_stepE (d := Kd.int .i64) (t := 28) (e := 3) (s := .tmp 74) (x := .tmp 79) (p := ((v i : Nat) : Int)) (cs := [.int .i64 ((v i : Nat) : Int)])); (case hSL => exact (Sep.SL.plain (Sep.SL.front HT.out 1 rfl) _ _ (fun _ _ => rfl)).swap); (case hgd => exact rfl); (case ho => exact rfl); (case ht => exact Try.underlying28); (case hinfo => exact info3); (case hz => exact rfl); (case hs0 => decide); (case hb0 => omega); (case hs => exact rfl); (case hx => exact rfl); (case hl => rw [rowL_len]; have := HN8.out; omega)
      intro v1_ w1_ hs_
      have hn1_ : SL w w1_ (rowA (Kd.int .i64) 3 v1_ (rowL (fun a b => ((widM A n v i a b : Nat) : Int)) i n ++ [((v i : Nat) : Int)]) :: [matW 28 3 g n i (widN n i) hs cs (fun a b => ((widM A n v i a b : Nat) : Int))]) := hs_
      obtain ⟨gr, cr, e1_⟩ := Sep.SL.form hn1_ 0 rfl (by rw [List.length_append, rowL_len]; exact Nat.succ_pos _)
      rw [List.length_append, List.length_singleton, rowL_len] at e1_
      subst e1_
      have HT2 := Aside0.mk hn1_.swap
      clear hs_ hn1_ HT
      refine hK.out _ _ ?_
      clear hK K
      (refine pure_ (i := 12) (N := some 81) (v := ?_) (a' := ?_) #[true, true, true, true, true, true, true, true, true, true, true, true, true, false] rfl rfl (by kernel_rfl) (fun _ _ _ h => h) (Or.inl ⟨by rfl, ?_⟩) ?_ ?_; rotate_left; (intro w_; go_simp; with_reducible rfl); rotate_left; (simp only [Act.put, List.setIfInBounds_toArray, List.set_cons_zero, List.set_cons_succ, i64_w, i32_w]; rfl))
      obtain ⟨uo_, hy1_, hy2_⟩ := matW_any HT2.out 0 rfl i hin
      obtain ⟨hs', cs', hp_⟩ := wid_next hin HT2.out
      have HP := Aside0.mk hp_
      clear hp_ HT2
      (refine last_ (i := 13) (N := none) #[true, true, true, true, true, true, true, true, true, true, true, true, true, true] rfl rfl (by kernel_rfl) (by decide) (fun K hK => ?_); (go_simp); refine hK.out _ _ ?_; clear hK K)
      refine done_ (by kernel_rfl) ?_
      generalize World.setCell _ _ _ = w6 at HP ⊢
      clear hb0_ hb1_ hb2_ hy1_ hy2_ hin
      go_wp2_with (fail)
      go_roundg g1
      case measure => exact Nat.lt_succ_self _
      case rel => exact ⟨i + 1, hs', cs', congrArg (Value.int .i64) hwi.out, HIK.out, HP⟩
    | zero =>
      obtain rfl : i = n := by omega
      have hit : decide ((i : Int) < (i : Int)) = false := decide_eq_false (by omega)
      have HS := Aside0.mk (wid_end HS.out)
      clear hik
      go_upto_region 24 with (fail)
      clear hit
      have HPV0 := HPV
      have HRE0 := HRE
      have HR0 := Aside0.mk (small_wid HA.out i HVS.out i)
      clear HPV HRE
      obtain ⟨R0, hR0⟩ : ∃ R0, R0 = widM A i v i := ⟨_, rfl⟩
      rw [← hR0] at HPV0 HRE0 HR0 HS
      clear hR0
      go_loopg [13, 14, 15, 16, 17] i (fun kq v13 v14 v15 v16 v17 wr => ∃ (c : Nat) (hs cs : Nat → Nat) (R : Mx), v13 = .int .i64 (c : Int) ∧ c + kq = i ∧ Aside0 (small R) ∧ Aside0 (pivs i kq c R) ∧ Aside0 (eliRun i kq c R = RE) ∧ Aside0 (SL w wr [matN 28 3 g i (i + 1) hs cs R]))
      case atStart => exact ⟨0, hs, cs, R0, rfl, by omega, HR0, HPV0, HRE0, HS⟩
      case round =>
        clear HS HR0 HPV0 HRE0
        obtain ⟨c, hs, cs, R, rfl, hck, HR, HPV, HRE, HS⟩ := hrel
        cases gk with
        | zero =>
          obtain rfl : c = i := by omega
          have hit : decide ((c : Int) < (c : Int)) = false := decide_eq_false (by omega)
          have hre : R = RE := by have := HRE.out; rw [eliRun] at this; exact this
          clear hck HRE HPV HR
          subst hre
          have hc8 := HN8.out
          go_upto_region 39 with ((with_reducible refine gate_dst (N := 160) rfl ?_); (with_reducible apply Sep.make_row (d := (Kd.int .i64)) (t := 28) (e := 3) (n := (c : Int)) (z0 := 0)); (case hSL => exact (by repeat (first | (with_reducible first | exact HS.out | apply Sep.SL.drewN | apply Sep.SL.drew | apply Sep.SL.alloc | apply below_drew1) | exact HS.out))); (case hgd => exact rfl); (case hd => exact rfl); (case ho => exact rfl); (case hx => exact rfl); (case hy => exact rfl); (case ht => exact Try.underlying28); (case hinfo => exact info3); (case hz => exact rfl); (case hs0 => decide); (case hb0 => omega); (case hzero => exact (fun _ _ => rfl)); (case h0 => omega); (case hl => omega); intro v1_ w1_ hs_; have n1_ := Aside0.mk hs_; clear HS hs_; have HS := n1_; clear n1_; obtain ⟨go, co, e1_⟩ := Sep.SL.form HS.out 0 rfl (by rw [List.length_replicate, Int.toNat_natCast]; have := HN5.out; omega); rw [Int.toNat_natCast] at e1_ HS; rw [List.length_replicate] at e1_; subst e1_)
          clear hit hc8
          rw [← outE_zero R c] at HS
          have hw1 : wrap64 ((c : Int) - 1) = (c : Int) - 1 := wrap_id (by have := HN5.out; omega) (by have := HN8.out; omega)
          go_upto_region 40 with (fail)
          obtain ⟨q_, hq_⟩ : ∃ q_, q_ = wrap64 ((c : Int) - 1) := ⟨_, rfl⟩
          rw [← hq_]
          have HQ := Aside0.mk (hq_.trans hw1)
          clear hq_ hw1
          go_loopg [19, 20, 21] c (fun kq v19 v20 v21 wr => ∃ (z : Int) (e : Nat), v19 = .int .i64 z ∧ Aside0 (z = (kq : Int) - 1) ∧ Aside0 (kq + e = c) ∧ Aside0 (SL w wr [rowA (Kd.int .i64) 3 (.slice (some ⟨go, 0, none⟩) c co) (outE R c e), matN 28 3 g c (c + 1) hs cs R]))
          case atStart => exact ⟨_, 0, rfl, HQ, ⟨Nat.add_zero c⟩, HS⟩
          case round =>
            clear HS HQ
            obtain ⟨z, e, rfl, HZ, HKE, HS⟩ := hrel
            cases gk with
            | zero =>
              have hez : e = c := by have := HKE.out; omega
              subst hez
              have hz := HZ.out
              have hz2 : z = -1 := by omega
              subst hz2
              clear hz HZ
              have hit : decide ((-1 : Int) ≥ 0) = false := by decide
              have hit2 : decide ((0 : Int) ≤ -1) = false := by decide
              go_wp2_with (fail)
              go_ret
              exact ⟨_, rfl, HS.out.row 0 rfl, HS.out.below⟩
            | succ r =>
              have hz : z = (r : Int) := by have := HZ.out; omega
              subst hz
              have hrc : r < c := by have := HKE.out; omega
              have HRC := Aside0.mk hrc
              have HRE2 : Aside0 (r + 1 + e = c) := ⟨HKE.out⟩
              have hit : decide ((r : Int) ≥ 0) = true := decide_eq_true (by omega)
              have hit2 : decide ((0 : Int) ≤ (r : Int)) = true := decide_eq_true (by omega)
              have hwm : Aside0 (wrap64 ((r : Int) - 1) = (r : Int) - 1) := ⟨wrap_id (by omega) (by have := HN8.out; omega)⟩
              have hwp := Aside0.mk (wr1 r (by have := HN8.out; omega))
              have hr0_ : ((0 : Int) ≤ (r : Int)) = True := eq_true (Int.natCast_nonneg r)
              have hr1_ : ((r : Int) < (c : Int)) = True := eq_true (Int.ofNat_lt.2 hrc)
              have hr2_ : (r < c) = True := eq_true hrc
              have hc0_ : ((0 : Int) ≤ (c : Int)) = True := eq_true (Int.natCast_nonneg c)
              have hc1_ : ((c : Int) < (c : Int) + 1) = True := eq_true (by omega)
              have hc2_ : (c < c + 1) = True := eq_true (Nat.lt_succ_self c)
              obtain ⟨hx1_, _, _⟩ := mat_row HS.out 1 rfl r hrc
              obtain ⟨hx2_, _, _⟩ := mat_cellN HS.out 1 rfl r c hrc (Nat.lt_succ_self c) (R r c) rfl
              clear hrc
              go_upto_region 44 with (fail)
              clear hit hit2 hx1_ hx2_ hr0_ hr1_ hr2_ hc0_ hc1_ hc2_
              obtain ⟨q_, hq_⟩ : ∃ q_, q_ = wrap64 ((r : Int) + 1) := ⟨_, rfl⟩
              rw [← hq_]
              have HQ := Aside0.mk (hq_.trans hwp.out)
              clear hq_
              go_loopg [20, 21] (c - (r + 1)) (fun kq v20 v21 wr => ∃ d : Nat, v20 = .int .i64 ((sAcc R (subX R c e) c r d : Nat) : Int) ∧ v21 = .int .i64 ((r + 1 + d : Nat) : Int) ∧ Aside0 (d + kq = e) ∧ Aside0 (SL w wr [rowA (Kd.int .i64) 3 (.slice (some ⟨go, 0, none⟩) c co) (outE R c e), matN 28 3 g c (c + 1) hs cs R]))
              case atStart => exact ⟨0, rfl, congrArg (Value.int .i64) HQ.out, ⟨by have := HRE2.out; omega⟩, HS⟩
              case round =>
                clear HS
                obtain ⟨d, rfl, rfl, HDE, HS⟩ := hrel
                cases gk with
                | zero =>
                  have hde : d = e := HDE.out
                  subst hde
                  have hdc : r + 1 + d = c := HRE2.out
                  rw [hdc]
                  have hit : decide ((c : Int) < (c : Int)) = false := decide_eq_false (by omega)
                  have hset := outE_set R c d r hdc
                  have HSET := Aside0.mk hset
                  have hrc := HRC.out
                  have hsl : Aside0 (sAcc R (subX R c d) c r d < 256) := ⟨sAcc_lt HRES.out _ _ _⟩
                  obtain ⟨sv, hsv⟩ : ∃ sv, sv = sAcc R (subX R c d) c r d := ⟨_, rfl⟩
                  rw [← hsv] at HSET hsl ⊢
                  have HDV := Aside0.mk (HDG.out r hrc)
                  obtain ⟨hx1_, _, _⟩ := mat_row HS.out 1 rfl r hrc
                  obtain ⟨hx2_, _, _⟩ := mat_cellN HS.out 1 rfl r r hrc (Nat.lt_succ_of_lt hrc) (R r r) rfl
                  have HXX := Aside0.mk (And.intro hx1_ hx2_)
                  have hr0_ : ((0 : Int) ≤ (r : Int)) = True := eq_true (Int.natCast_nonneg r)
                  have hr1_ : ((r : Int) < (c : Int)) = True := eq_true (Int.ofNat_lt.2 hrc)
                  have hr2_ : (r < c) = True := eq_true hrc
                  have hr3_ : ((r : Int) < (c : Int) + 1) = True := eq_true (by omega)
                  have hr4_ : (r < c + 1) = True := eq_true (Nat.lt_succ_of_lt hrc)
                  clear hset hsv hrc hdc
                  go_wp2_with (go_at_call 84; (with_reducible refine (div_c sv (R r r) _ hsl.out (Nat.pos_of_ne_zero HDV.out) (HRES.out r r)).mono ?_); rintro e w4 ⟨rfl, hb_⟩; have n1_ := Aside0.mk (HS.out.ext hb_); clear HS hb_; have HS := n1_; clear n1_; obtain ⟨hy1_, hy2_⟩ := HS.out.int 0 rfl (r : Int) (Int.natCast_nonneg r) (by rw [outE_len]; exact Int.ofNat_lt.2 HRC.out); rw [Int.toNat_natCast] at hy1_ hy2_; have HP := Aside0.mk (HS.out.intPut 0 rfl (r : Int) ((Gf.div sv (R r r) : Nat) : Int)); rw [Int.toNat_natCast, HSET.out] at HP)
                  go_roundg r
                  case measure => exact Nat.lt_succ_self _
                  case rel => exact ⟨_, d + 1, congrArg (Value.int .i64) hwm.out, ⟨rfl⟩, ⟨by have := HRE2.out; omega⟩, HP⟩
                | succ g4 =>
                  have hde : d < e := by have := HDE.out; omega
                  have HDE1 : Aside0 (d + 1 + g4 = e) := ⟨by have := HDE.out; omega⟩
                  obtain ⟨k, hk⟩ : ∃ k, k = r + 1 + d := ⟨_, rfl⟩
                  rw [← hk]
                  have hkc : k < c := by have := HRE2.out; omega
                  have HKC := Aside0.mk hkc
                  have HKD := Aside0.mk hk
                  have hwk : Aside0 (wrap64 ((k : Int) + 1) = ((r + 1 + (d + 1) : Nat) : Int)) := ⟨by rw [wr1 k (by have := HN8.out; omega), hk]; rfl⟩
                  have hit : decide ((k : Int) < (c : Int)) = true := decide_eq_true (Int.ofNat_lt.2 hkc)
                  have hit2 : decide (k < c) = true := decide_eq_true hkc
                  have hsx : Aside0 (sAcc R (subX R c e) c r (d + 1) = sAcc R (subX R c e) c r d ^^^ Gf.mul (R r k) (subX R c e k)) := ⟨by rw [sAcc, ← hk]⟩
                  have hsl : sAcc R (subX R c e) c r d < 256 := sAcc_lt HRES.out _ _ _
                  have hxl : Aside0 (subX R c e k < 256) := ⟨subX_lt HRES.out c e k⟩
                  obtain ⟨sv, hsv⟩ : ∃ sv, sv = sAcc R (subX R c e) c r d := ⟨_, rfl⟩
                  obtain ⟨xv, hxv⟩ : ∃ xv, xv = subX R c e k := ⟨_, rfl⟩
                  have HXV := Aside0.mk hxv
                  rw [← hsv, ← hxv] at hsx
                  rw [← hsv] at hsl ⊢
                  rw [← hxv] at hxl
                  have hbx := bxor (a := sv) (b := Gf.mul (R r k) xv) (Nat.lt_trans hsl (by decide)) (Nat.lt_trans (Gf.mul_lt (HRES.out r k) xv) (by decide))
                  clear hk hkc hsl hsv hxv hde
                  go_upto_region 46 with (fail)
                  clear hit hit2
                  have hkc := HKC.out
                  have hkc1 := Nat.lt_succ_of_lt hkc
                  have hrc := HRC.out
                  have hk0_ : ((0 : Int) ≤ (k : Int)) = True := eq_true (Int.natCast_nonneg k)
                  have hk1_ : ((k : Int) < (c : Int)) = True := eq_true (Int.ofNat_lt.2 hkc)
                  have hk2_ : (k < c) = True := eq_true hkc
                  have hk3_ : ((k : Int) < (c : Int) + 1) = True := eq_true (by omega)
                  have hk4_ : (k < c + 1) = True := eq_true hkc1
                  have hr0_ : ((0 : Int) ≤ (r : Int)) = True := eq_true (Int.natCast_nonneg r)
                  have hr1_ : ((r : Int) < (c : Int)) = True := eq_true (Int.ofNat_lt.2 hrc)
                  have hr2_ : (r < c) = True := eq_true hrc
                  (refine start_ (n := 15) (S := (fun w_ => SL w w_ [rowA (Kd.int .i64) 3 (.slice (some ⟨go, 0, none⟩) c co) (outE R c e), matN 28 3 g c (c + 1) hs cs R])) (ds := []) #[false, false, false, false, false, false, false, false, false, false, false, false, false, false, false] (by kernel_rfl) rfl rfl (by repeat (first | (with_reducible first | exact HS.out | apply Sep.SL.drewN | apply Sep.SL.drew | apply Sep.SL.alloc | apply below_drew1) | exact HS.out)) (fun hHeld => ?_); clear HS; have HS := Aside0.mk hHeld; clear hHeld; generalize World.drew _ = wr_ at HS ⊢)
                  (refine pure_ (i := 0) (N := some 181) (v := ?_) (a' := ?_) #[true, false, false, false, false, false, false, false, false, false, false, false, false, false, false] rfl rfl (by kernel_rfl) (fun _ _ _ h => h) (Or.inl ⟨by rfl, ?_⟩) ?_ ?_; rotate_left; (intro w_; go_simp; with_reducible rfl); rotate_left; (simp only [Act.put, List.setIfInBounds_toArray, List.set_cons_zero, List.set_cons_succ, i64_w, i32_w]; rfl))
                  (refine pure_ (i := 1) (N := some 182) (v := ?_) (a' := ?_) #[true, true, false, false, false, false, false, false, false, false, false, false, false, false, false] rfl rfl (by kernel_rfl) (fun _ _ _ h => h) (Or.inl ⟨by rfl, ?_⟩) ?_ ?_; rotate_left; (intro w_; go_simp; with_reducible rfl); rotate_left; (simp only [Act.put, List.setIfInBounds_toArray, List.set_cons_zero, List.set_cons_succ, i64_w, i32_w]; rfl))
                  (refine pure_ (i := 2) (N := some 183) (v := ?_) (a' := ?_) #[true, true, true, false, false, false, false, false, false, false, false, false, false, false, false] rfl rfl (by kernel_rfl) (fun _ _ _ h => h) (Or.inl ⟨by rfl, ?_⟩) ?_ ?_; rotate_left; (intro w_; go_simp; with_reducible rfl); rotate_left; (simp only [Act.put, List.setIfInBounds_toArray, List.set_cons_zero, List.set_cons_succ, i64_w, i32_w]; rfl))
                  (refine pure_ (i := 3) (N := some 184) (v := ?_) (a' := ?_) #[true, true, true, true, false, false, false, false, false, false, false, false, false, false, false] rfl rfl (by kernel_rfl) (fun _ _ _ h => h) (Or.inl ⟨by rfl, ?_⟩) ?_ ?_; rotate_left; (intro w_; go_simp; with_reducible rfl); rotate_left; (simp only [Act.put, List.setIfInBounds_toArray, List.set_cons_zero, List.set_cons_succ, i64_w, i32_w]; rfl))
                  (refine take_ (i := 4) (N := some 185) (v := (.slice (some ⟨hs r, 0, none⟩) (c + 1) (cs r))) (a' := ?_) #[true, true, true, true, true, false, false, false, false, false, false, false, false, false, false] rfl rfl (by kernel_rfl) (fun _ _ _ h => h) (Or.inl ⟨by rfl, ?_⟩) HS.out ?_ ?_; (intro w_ hS_; (obtain ⟨hx_, _, _⟩ := mat_row hS_ 1 rfl r hrc; go_simp)); rotate_left; (simp only [Act.put, List.setIfInBounds_toArray, List.set_cons_zero, List.set_cons_succ, i64_w, i32_w]; rfl))
                  (refine pure_ (i := 5) (N := some 186) (v := ?_) (a' := ?_) #[true, true, true, true, true, true, false, false, false, false, false, false, false, false, false] rfl rfl (by kernel_rfl) (fun _ _ _ h => h) (Or.inl ⟨by rfl, ?_⟩) ?_ ?_; rotate_left; (intro w_; go_simp; with_reducible rfl); rotate_left; (simp only [Act.put, List.setIfInBounds_toArray, List.set_cons_zero, List.set_cons_succ, i64_w, i32_w]; rfl))
                  (refine pure_ (i := 6) (N := some 187) (v := ?_) (a' := ?_) #[true, true, true, true, true, true, true, false, false, false, false, false, false, false, false] rfl rfl (by kernel_rfl) (fun _ _ _ h => h) (Or.inl ⟨by rfl, ?_⟩) ?_ ?_; rotate_left; (intro w_; go_simp; with_reducible rfl); rotate_left; (simp only [Act.put, List.setIfInBounds_toArray, List.set_cons_zero, List.set_cons_succ, i64_w, i32_w]; rfl))
                  (refine take_ (i := 7) (N := some 188) (v := (.int .i64 ((R r k : Nat) : Int))) (a' := ?_) #[true, true, true, true, true, true, true, true, false, false, false, false, false, false, false] rfl rfl (by kernel_rfl) (fun _ _ _ h => h) (Or.inl ⟨by rfl, ?_⟩) HS.out ?_ ?_; (intro w_ hS_; (obtain ⟨hx_, _, _⟩ := mat_cellN hS_ 1 rfl r k hrc hkc1 (R r k) rfl; go_simp)); rotate_left; (simp only [Act.put, List.setIfInBounds_toArray, List.set_cons_zero, List.set_cons_succ, i64_w, i32_w]; rfl))
                  (refine pure_ (i := 8) (N := some 189) (v := ?_) (a' := ?_) #[true, true, true, true, true, true, true, true, true, false, false, false, false, false, false] rfl rfl (by kernel_rfl) (fun _ _ _ h => h) (Or.inl ⟨by rfl, ?_⟩) ?_ ?_; rotate_left; (intro w_; go_simp; with_reducible rfl); rotate_left; (simp only [Act.put, List.setIfInBounds_toArray, List.set_cons_zero, List.set_cons_succ, i64_w, i32_w]; rfl))
                  (refine pure_ (i := 9) (N := some 190) (v := ?_) (a' := ?_) #[true, true, true, true, true, true, true, true, true, true, false, false, false, false, false] rfl rfl (by kernel_rfl) (fun _ _ _ h => h) (Or.inl ⟨by rfl, ?_⟩) ?_ ?_; rotate_left; (intro w_; go_simp; with_reducible rfl); rotate_left; (simp only [Act.put, List.setIfInBounds_toArray, List.set_cons_zero, List.set_cons_succ, i64_w, i32_w]; rfl))
                  (refine pure_ (i := 10) (N := some 191) (v := ?_) (a' := ?_) #[true, true, true, true, true, true, true, true, true, true, true, false, false, false, false] rfl rfl (by kernel_rfl) (fun _ _ _ h => h) (Or.inl ⟨by rfl, ?_⟩) ?_ ?_; rotate_left; (intro w_; go_simp; with_reducible rfl); rotate_left; (simp only [Act.put, List.setIfInBounds_toArray, List.set_cons_zero, List.set_cons_succ, i64_w, i32_w]; rfl))
                  (refine take_ (i := 11) (N := some 192) (v := (.int .i64 ((xv : Nat) : Int))) (a' := ?_) #[true, true, true, true, true, true, true, true, true, true, true, true, false, false, false] rfl rfl (by kernel_rfl) (fun _ _ _ h => h) (Or.inl ⟨by rfl, ?_⟩) HS.out ?_ ?_; (intro w_ hS_; (have hx_ := outE_cell hS_ 0 rfl k hkc xv HXV.out; go_simp)); rotate_left; (simp only [Act.put, List.setIfInBounds_toArray, List.set_cons_zero, List.set_cons_succ, i64_w, i32_w]; rfl))
                  (refine one_ (i := 12) (N := some 193) #[true, true, true, true, true, true, true, true, true, true, true, true, true, false, false] rfl rfl (by kernel_rfl) (by decide) (fun K hK => ?_); refine goes_ Try.func46 (by kernel_rfl) rfl #[.int .i64 ((R r k : Nat) : Int), .int .i64 (xv : Int)] (by rfl) rfl rfl (by simp only [List.map_toArray, List.map_cons, List.map_nil]; rfl) ?_; refine (mul_c (R r k) xv _ (HRES.out r k) hxl.out).mono ?_; (rintro e2 w4 ⟨rfl, hb_⟩; have n1_ := Aside0.mk (SL.ext HS.out hb_); clear HS hb_; have HS := n1_; clear n1_); refine ⟨(.int .i64 ((Gf.mul (R r k) xv : Nat) : Int)), rfl, ?_⟩; refine hK.out _ _ HS.out (fun hHeld => ?_); clear hK K hHeld; refine norm_ (a' := ?_) ?_ ?_; rotate_left; (show Act.put _ (some 193) _ = _; simp only [Act.put, List.setIfInBounds_toArray, List.set_cons_zero, List.set_cons_succ, i64_w, i32_w]; rfl))
                  (refine pure_ (i := 13) (N := some 194) (v := ?_) (a' := ?_) #[true, true, true, true, true, true, true, true, true, true, true, true, true, true, false] rfl rfl (by kernel_rfl) (fun _ _ _ h => h) (Or.inl ⟨by rfl, ?_⟩) ?_ ?_; rotate_left; (intro w_; go_simp; with_reducible rfl); rotate_left; (simp only [Act.put, List.setIfInBounds_toArray, List.set_cons_zero, List.set_cons_succ, i64_w, i32_w]; rfl))
                  (refine pure_ (i := 14) (N := some 20) (v := ?_) (a' := ?_) #[true, true, true, true, true, true, true, true, true, true, true, true, true, true, true] rfl rfl (by kernel_rfl) (fun _ _ _ h => h) (Or.inl ⟨by rfl, ?_⟩) ?_ ?_; rotate_left; (intro w_; go_simp; with_reducible rfl); rotate_left; (simp only [Act.put, List.setIfInBounds_toArray, List.set_cons_zero, List.set_cons_succ, i64_w, i32_w]; rfl))
                  refine done_ (by kernel_rfl) ?_
                  clear hk0_ hk1_ hk2_ hk3_ hk4_ hr0_ hr1_ hr2_ hkc hkc1 hrc
                  rw [← hsx.out] at hbx
                  have HBX := Aside0.mk hbx
                  clear hbx
                  go_wp2_with (fail)
                  go_roundg g4
                  case measure => exact Nat.lt_succ_self _
                  case rel => exact ⟨d + 1, congrArg (Value.int .i64) (by first | exact HBX.out | (rw [hsx.out])), congrArg (Value.int .i64) hwk.out, HDE1, HS⟩
        | succ g1 =>
          have hcn : c < i := by omega
          have hit : decide ((c : Int) < (i : Int)) = true := decide_eq_true (Int.ofNat_lt.2 hcn)
          have hit2 : decide (c < i) = true := decide_eq_true hcn
          have HCK : Aside0 (c + 1 + g1 = i) := ⟨by omega⟩
          have HCN := Aside0.mk hcn
          have hwc := Aside0.mk (wr1 c (by have := HN8.out; omega))
          clear hck
          go_upto_region 27 with (fail)
          clear hit hit2 hcn
          obtain ⟨pp, hpp⟩ : ∃ pp, pp = fnz R c (i - c) c := ⟨_, rfl⟩
          obtain ⟨hpn, hpv1⟩ := pivs_next HPV.out hpp.symm
          have hre1 := eli_next HRE.out hpp.symm
          have HPN := Aside0.mk hpn
          have HPV1 := Aside0.mk hpv1
          have HRE1 := Aside0.mk hre1
          have HPP := Aside0.mk hpp
          clear HPV HRE hpn hpv1 hre1 hpp
          go_loopg [14] (i - c) (fun kq v14 wr => ∃ a : Nat, v14 = .int .i64 (a : Int) ∧ Aside0 (a + kq = i) ∧ Aside0 (c ≤ a) ∧ Aside0 (fnz R c kq a = pp) ∧ Aside0 (SL w wr [matN 28 3 g i (i + 1) hs cs R]))
          case atStart => exact ⟨c, rfl, ⟨by have := HCN.out; omega⟩, ⟨Nat.le_refl _⟩, ⟨HPP.out.symm⟩, HS⟩
          case round =>
            clear HS
            obtain ⟨a, rfl, HAK, HCA, HFZ, HS⟩ := hrel
            cases gk with
            | zero =>
              exfalso
              have h2 := HFZ.out
              rw [fnz] at h2
              have := HPN.out; have := HAK.out
              omega
            | succ g2 =>
              have hai : a < i := by have := HAK.out; omega
              have HAI := Aside0.mk hai
              have HAK1 : Aside0 (a + 1 + g2 = i) := ⟨by have := HAK.out; omega⟩
              have hwa := Aside0.mk (wr1 a (by have := HN8.out; omega))
              have hfz := HFZ.out
              rw [fnz] at hfz
              have ha0_ : ((0 : Int) ≤ (a : Int)) = True := eq_true (Int.natCast_nonneg a)
              have ha1_ : ((a : Int) < (i : Int)) = True := eq_true (Int.ofNat_lt.2 hai)
              have ha2_ : (a < i) = True := eq_true hai
              have hc0_ : ((0 : Int) ≤ (c : Int)) = True := eq_true (Int.natCast_nonneg c)
              have hc1_ : ((c : Int) < (i : Int) + 1) = True := eq_true (by have := HCN.out; omega)
              have hc2_ : (c < i + 1) = True := eq_true (Nat.lt_succ_of_lt HCN.out)
              obtain ⟨hx1_, _, _⟩ := mat_row HS.out 0 rfl a hai
              by_cases h0 : R a c = 0
              · rw [if_pos h0] at hfz
                have HFZ1 := Aside0.mk hfz
                obtain ⟨hx2_, _, _⟩ := mat_cellN HS.out 0 rfl a c hai (Nat.lt_succ_of_lt HCN.out) 0 h0
                clear hfz h0 hai
                go_wp2_with (fail)
                go_roundg g2
                case measure => exact Nat.lt_succ_self _
                case rel => exact ⟨a + 1, congrArg (Value.int .i64) hwa.out, HAK1, ⟨Nat.le_succ_of_le HCA.out⟩, HFZ1, HS⟩
              · rw [if_neg h0] at hfz
                subst hfz
                obtain ⟨hx2_, _, _⟩ := mat_cellN HS.out 0 rfl a c hai (Nat.lt_succ_of_lt HCN.out) (R a c) rfl
                have hne0 : ((((R a c : Nat) : Int)) == 0) = false := beq_eq_false_iff_ne.2 (by omega)
                have HNZ := Aside0.mk h0
                clear h0 hai
                go_upto_region 29 with (fail)
                clear hne0 hx1_ hx2_ ha0_ ha1_ ha2_ hc0_ hc1_ hc2_
                have hai := HAI.out
                have hcn := HCN.out
                have ha0_ : ((0 : Int) ≤ (a : Int)) = True := eq_true (Int.natCast_nonneg a)
                have ha1_ : ((a : Int) < (i : Int)) = True := eq_true (Int.ofNat_lt.2 hai)
                have ha2_ : (a < i) = True := eq_true hai
                have hc0_ : ((0 : Int) ≤ (c : Int)) = True := eq_true (Int.natCast_nonneg c)
                have hc1_ : ((c : Int) < (i : Int)) = True := eq_true (Int.ofNat_lt.2 hcn)
                have hc2_ : (c < i) = True := eq_true hcn
                (refine start_ (n := 16) (S := (fun w_ => SL w w_ [matN 28 3 g i (i + 1) hs cs R])) (ds := [13, 15]) #[false, false, false, false, false, false, false, false, false, false, false, false, false, false, false, false] (by kernel_rfl) rfl rfl (by repeat (first | (with_reducible first | exact HS.out | apply Sep.SL.drewN | apply Sep.SL.drew | apply Sep.SL.alloc | apply below_drew1) | exact HS.out)) (fun hHeld => ?_); clear HS; have HS := Aside0.mk hHeld; clear hHeld; generalize World.drew _ = wr_ at HS ⊢)
                (refine pure_ (i := 0) (N := some 99) (v := ?_) (a' := ?_) #[true, false, false, false, false, false, false, false, false, false, false, false, false, false, false, false] rfl rfl (by kernel_rfl) (fun _ _ _ h => h) (Or.inl ⟨by rfl, ?_⟩) ?_ ?_; rotate_left; (intro w_; go_simp; with_reducible rfl); rotate_left; (simp only [Act.put, List.setIfInBounds_toArray, List.set_cons_zero, List.set_cons_succ, i64_w, i32_w]; rfl))
                (refine pure_ (i := 1) (N := some 100) (v := ?_) (a' := ?_) #[true, true, false, false, false, false, false, false, false, false, false, false, false, false, false, false] rfl rfl (by kernel_rfl) (fun _ _ _ h => h) (Or.inl ⟨by rfl, ?_⟩) ?_ ?_; rotate_left; (intro w_; go_simp; with_reducible rfl); rotate_left; (simp only [Act.put, List.setIfInBounds_toArray, List.set_cons_zero, List.set_cons_succ, i64_w, i32_w]; rfl))
                (refine pure_ (i := 2) (N := some 101) (v := ?_) (a' := ?_) #[true, true, true, false, false, false, false, false, false, false, false, false, false, false, false, false] rfl rfl (by kernel_rfl) (fun _ _ _ h => h) (Or.inl ⟨by rfl, ?_⟩) ?_ ?_; rotate_left; (intro w_; go_simp; with_reducible rfl); rotate_left; (simp only [Act.put, List.setIfInBounds_toArray, List.set_cons_zero, List.set_cons_succ, i64_w, i32_w]; rfl))
                (refine pure_ (i := 3) (N := some 102) (v := ?_) (a' := ?_) #[true, true, true, true, false, false, false, false, false, false, false, false, false, false, false, false] rfl rfl (by kernel_rfl) (fun _ _ _ h => h) (Or.inl ⟨by rfl, ?_⟩) ?_ ?_; rotate_left; (intro w_; go_simp; with_reducible rfl); rotate_left; (simp only [Act.put, List.setIfInBounds_toArray, List.set_cons_zero, List.set_cons_succ, i64_w, i32_w]; rfl))
                (refine pure_ (i := 4) (N := some 103) (v := ?_) (a' := ?_) #[true, true, true, true, true, false, false, false, false, false, false, false, false, false, false, false] rfl rfl (by kernel_rfl) (fun _ _ _ h => h) (Or.inl ⟨by rfl, ?_⟩) ?_ ?_; rotate_left; (intro w_; go_simp; with_reducible rfl); rotate_left; (simp only [Act.put, List.setIfInBounds_toArray, List.set_cons_zero, List.set_cons_succ, i64_w, i32_w]; rfl))
                (refine pure_ (i := 5) (N := some 104) (v := ?_) (a' := ?_) #[true, true, true, true, true, true, false, false, false, false, false, false, false, false, false, false] rfl rfl (by kernel_rfl) (fun _ _ _ h => h) (Or.inl ⟨by rfl, ?_⟩) ?_ ?_; rotate_left; (intro w_; go_simp; with_reducible rfl); rotate_left; (simp only [Act.put, List.setIfInBounds_toArray, List.set_cons_zero, List.set_cons_succ, i64_w, i32_w]; rfl))
                (refine pure_ (i := 6) (N := some 105) (v := ?_) (a' := ?_) #[true, true, true, true, true, true, true, false, false, false, false, false, false, false, false, false] rfl rfl (by kernel_rfl) (fun _ _ _ h => h) (Or.inl ⟨by rfl, ?_⟩) ?_ ?_; rotate_left; (intro w_; go_simp; with_reducible rfl); rotate_left; (simp only [Act.put, List.setIfInBounds_toArray, List.set_cons_zero, List.set_cons_succ, i64_w, i32_w]; rfl))
                (refine take_ (i := 7) (N := some 106) (v := (.slice (some ⟨hs c, 0, none⟩) (i + 1) (cs c))) (a' := ?_) #[true, true, true, true, true, true, true, true, false, false, false, false, false, false, false, false] rfl rfl (by kernel_rfl) (fun _ _ _ h => h) (Or.inl ⟨by rfl, ?_⟩) HS.out ?_ ?_; (intro w_ hS_; (obtain ⟨hx_, _, _⟩ := mat_row hS_ 0 rfl c hcn; go_simp)); rotate_left; (simp only [Act.put, List.setIfInBounds_toArray, List.set_cons_zero, List.set_cons_succ, i64_w, i32_w]; rfl))
                (refine pure_ (i := 8) (N := some 107) (v := ?_) (a' := ?_) #[true, true, true, true, true, true, true, true, true, false, false, false, false, false, false, false] rfl rfl (by kernel_rfl) (fun _ _ _ h => h) (Or.inl ⟨by rfl, ?_⟩) ?_ ?_; rotate_left; (intro w_; go_simp; with_reducible rfl); rotate_left; (simp only [Act.put, List.setIfInBounds_toArray, List.set_cons_zero, List.set_cons_succ, i64_w, i32_w]; rfl))
                (refine pure_ (i := 9) (N := some 108) (v := ?_) (a' := ?_) #[true, true, true, true, true, true, true, true, true, true, false, false, false, false, false, false] rfl rfl (by kernel_rfl) (fun _ _ _ h => h) (Or.inl ⟨by rfl, ?_⟩) ?_ ?_; rotate_left; (intro w_; go_simp; with_reducible rfl); rotate_left; (simp only [Act.put, List.setIfInBounds_toArray, List.set_cons_zero, List.set_cons_succ, i64_w, i32_w]; rfl))
                (refine pure_ (i := 10) (N := some 109) (v := ?_) (a' := ?_) #[true, true, true, true, true, true, true, true, true, true, true, false, false, false, false, false] rfl rfl (by kernel_rfl) (fun _ _ _ h => h) (Or.inl ⟨by rfl, ?_⟩) ?_ ?_; rotate_left; (intro w_; go_simp; with_reducible rfl); rotate_left; (simp only [Act.put, List.setIfInBounds_toArray, List.set_cons_zero, List.set_cons_succ, i64_w, i32_w]; rfl))
                (refine take_ (i := 11) (N := some 110) (v := (.slice (some ⟨hs a, 0, none⟩) (i + 1) (cs a))) (a' := ?_) #[true, true, true, true, true, true, true, true, true, true, true, true, false, false, false, false] rfl rfl (by kernel_rfl) (fun _ _ _ h => h) (Or.inl ⟨by rfl, ?_⟩) HS.out ?_ ?_; (intro w_ hS_; (obtain ⟨hx_, _, _⟩ := mat_row hS_ 0 rfl a hai; go_simp)); rotate_left; (simp only [Act.put, List.setIfInBounds_toArray, List.set_cons_zero, List.set_cons_succ, i64_w, i32_w]; rfl))
                (refine pure_ (i := 12) (N := some 111) (v := ?_) (a' := ?_) #[true, true, true, true, true, true, true, true, true, true, true, true, true, false, false, false] rfl rfl (by kernel_rfl) (fun _ _ _ h => h) (Or.inl ⟨by rfl, ?_⟩) ?_ ?_; rotate_left; (intro w_; go_simp; with_reducible rfl); rotate_left; (simp only [Act.put, List.setIfInBounds_toArray, List.set_cons_zero, List.set_cons_succ, i64_w, i32_w]; rfl))
                obtain ⟨hz1_, hz2_, hz3_⟩ := mat_row HS.out 0 rfl a hai
                obtain ⟨vq_, hy1_, hy2_⟩ := mat_row_after HS.out 0 rfl a c hcn (.slice (some ⟨hs c, 0, none⟩) (i + 1) (cs c))
                (refine last_ (i := 13) (N := none) #[true, true, true, true, true, true, true, true, true, true, true, true, true, true, false, false] rfl rfl (by kernel_rfl) (by decide) (fun K hK => ?_); (go_simp); refine hK.out _ _ ?_; clear hK K)
                (refine pure_ (i := 14) (N := some 112) (v := ?_) (a' := ?_) #[true, true, true, true, true, true, true, true, true, true, true, true, true, true, true, false] rfl rfl (by kernel_rfl) (fun _ _ _ h => h) (Or.inl ⟨by rfl, ?_⟩) ?_ ?_; rotate_left; (intro w_; go_simp; with_reducible rfl); rotate_left; (simp only [Act.put, List.setIfInBounds_toArray, List.set_cons_zero, List.set_cons_succ, i64_w, i32_w]; rfl))
                (refine last_ (i := 15) (N := none) #[true, true, true, true, true, true, true, true, true, true, true, true, true, true, true, true] rfl rfl (by kernel_rfl) (by decide) (fun K hK => ?_); (go_simp); refine hK.out _ _ ?_; clear hK K)
                refine done_ (by kernel_rfl) ?_
                obtain ⟨hs1, cs1, h1_⟩ := matN_swap HS.out 0 rfl a c hai hcn
                rw [swapR_comm] at h1_
                obtain ⟨R1, hR1⟩ : ∃ R1, R1 = swapR R c a := ⟨_, rfl⟩
                have hnz1 : R1 c c ≠ 0 := by rw [hR1, swap_at]; exact HNZ.out
                have hsm1 : small R1 := by rw [hR1]; exact small_swap HR.out _ _
                have hrun3 := HRE1.out
                have hpv3 := HPV1.out
                rw [← hR1] at h1_ hrun3 hpv3
                have h2_ := lowC_start (l := []) h1_ c
                have HS := Aside0.mk h2_
                have HNZ := Aside0.mk hnz1
                have HSM1 := Aside0.mk hsm1
                have HRE1 := Aside0.mk hrun3
                have HPV1 := Aside0.mk hpv3
                clear h1_ h2_ hrun3 hpv3 hnz1 hsm1 hR1 hz1_ hz2_ hz3_ hy1_ hy2_ ha0_ ha1_ ha2_ hc0_ hc1_ hc2_ hai hcn
                generalize World.setCell _ _ _ = w3 at HS ⊢
                go_upto_region 31 with (fail)
                obtain ⟨q_, hq_⟩ : ∃ q_, q_ = wrap64 ((c : Int) + 1) := ⟨_, rfl⟩
                rw [← hq_]
                have HQ := Aside0.mk (hq_.trans hwc.out)
                clear hq_
                go_loopg [15, 16, 17] (i - (c + 1)) (fun kq v15 v16 v17 wr => ∃ j : Nat, v15 = .int .i64 (j : Int) ∧ Aside0 (j + kq = i) ∧ Aside0 (c < j) ∧ Aside0 (SL w wr [matN 28 3 g i (i + 1) hs1 cs1 (lowC R1 c (i + 1) j)]))
                case atStart => exact ⟨c + 1, congrArg (Value.int .i64) HQ.out, ⟨by have := HCN.out; omega⟩, ⟨Nat.lt_succ_self _⟩, HS⟩
                case round =>
                  clear HS
                  obtain ⟨j, rfl, HJK, HCJ, HS⟩ := hrel
                  cases gk with
                  | zero =>
                    obtain rfl : j = i := HJK.out
                    have hit3 : decide ((j : Int) < (j : Int)) = false := decide_eq_false (by omega)
                    have HSM := Aside0.mk (small_lowC HSM1.out c (j + 1) j)
                    go_wp2_with (fail)
                    go_roundg g1
                    case measure => exact Nat.lt_succ_self _
                    case rel => exact ⟨c + 1, hs1, cs1, _, congrArg (Value.int .i64) hwc.out, HCK.out, HSM, HPV1, HRE1, HS⟩
                  | succ g3 =>
                    have hji : j < i := by have := HJK.out; omega
                    have HJI := Aside0.mk hji
                    have HJK1 : Aside0 (j + 1 + g3 = i) := ⟨by have := HJK.out; omega⟩
                    have hwj := Aside0.mk (wr1 j (by have := HN8.out; omega))
                    have hit3 : decide ((j : Int) < (i : Int)) = true := decide_eq_true (Int.ofNat_lt.2 hji)
                    have hit4 : decide (j < i) = true := decide_eq_true hji
                    have HLA := Aside0.mk (lowC_at R1 c (i + 1) j c)
                    have HLP := Aside0.mk (lowC_piv R1 c (i + 1) j c)
                    obtain ⟨f, hf⟩ : ∃ f, f = Gf.div (R1 j c) (R1 c c) := ⟨_, rfl⟩
                    have HF := Aside0.mk hf
                    have HF256 : Aside0 (f < 256) := ⟨by rw [hf]; exact Gf.div_lt (HSM1.out j c) (HSM1.out c c)⟩
                    clear hf hji
                    go_upto_region 33 with (fail)
                    clear hit3 hit4
                    have hji := HJI.out
                    have hcn := HCN.out
                    have hcn1 := Nat.lt_succ_of_lt hcn
                    have hj0_ : ((0 : Int) ≤ (j : Int)) = True := eq_true (Int.natCast_nonneg j)
                    have hj1_ : ((j : Int) < (i : Int)) = True := eq_true (Int.ofNat_lt.2 hji)
                    have hj2_ : (j < i) = True := eq_true hji
                    have hc0_ : ((0 : Int) ≤ (c : Int)) = True := eq_true (Int.natCast_nonneg c)
                    have hc1_ : ((c : Int) < (i : Int)) = True := eq_true (Int.ofNat_lt.2 hcn)
                    have hc2_ : (c < i) = True := eq_true hcn
                    have hc3_ : ((c : Int) < (i : Int) + 1) = True := eq_true (by omega)
                    have hc4_ : (c < i + 1) = True := eq_true hcn1
                    (refine start_ (n := 16) (S := (fun w_ => SL w w_ [matN 28 3 g i (i + 1) hs1 cs1 (lowC R1 c (i + 1) j)])) (ds := []) #[false, false, false, false, false, false, false, false, false, false, false, false, false, false, false, false] (by kernel_rfl) rfl rfl (by repeat (first | (with_reducible first | exact HS.out | apply Sep.SL.drewN | apply Sep.SL.drew | apply Sep.SL.alloc | apply below_drew1) | exact HS.out)) (fun hHeld => ?_); clear HS; have HS := Aside0.mk hHeld; clear hHeld; generalize World.drew _ = wr_ at HS ⊢)
                    (refine pure_ (i := 0) (N := some 120) (v := ?_) (a' := ?_) #[true, false, false, false, false, false, false, false, false, false, false, false, false, false, false, false] rfl rfl (by kernel_rfl) (fun _ _ _ h => h) (Or.inl ⟨by rfl, ?_⟩) ?_ ?_; rotate_left; (intro w_; go_simp; with_reducible rfl); rotate_left; (simp only [Act.put, List.setIfInBounds_toArray, List.set_cons_zero, List.set_cons_succ, i64_w, i32_w]; rfl))
                    (refine pure_ (i := 1) (N := some 121) (v := ?_) (a' := ?_) #[true, true, false, false, false, false, false, false, false, false, false, false, false, false, false, false] rfl rfl (by kernel_rfl) (fun _ _ _ h => h) (Or.inl ⟨by rfl, ?_⟩) ?_ ?_; rotate_left; (intro w_; go_simp; with_reducible rfl); rotate_left; (simp only [Act.put, List.setIfInBounds_toArray, List.set_cons_zero, List.set_cons_succ, i64_w, i32_w]; rfl))
                    (refine pure_ (i := 2) (N := some 122) (v := ?_) (a' := ?_) #[true, true, true, false, false, false, false, false, false, false, false, false, false, false, false, false] rfl rfl (by kernel_rfl) (fun _ _ _ h => h) (Or.inl ⟨by rfl, ?_⟩) ?_ ?_; rotate_left; (intro w_; go_simp; with_reducible rfl); rotate_left; (simp only [Act.put, List.setIfInBounds_toArray, List.set_cons_zero, List.set_cons_succ, i64_w, i32_w]; rfl))
                    (refine take_ (i := 3) (N := some 123) (v := (.slice (some ⟨hs1 j, 0, none⟩) (i + 1) (cs1 j))) (a' := ?_) #[true, true, true, true, false, false, false, false, false, false, false, false, false, false, false, false] rfl rfl (by kernel_rfl) (fun _ _ _ h => h) (Or.inl ⟨by rfl, ?_⟩) HS.out ?_ ?_; (intro w_ hS_; (obtain ⟨hx_, _, _⟩ := mat_row hS_ 0 rfl j hji; go_simp)); rotate_left; (simp only [Act.put, List.setIfInBounds_toArray, List.set_cons_zero, List.set_cons_succ, i64_w, i32_w]; rfl))
                    (refine pure_ (i := 4) (N := some 124) (v := ?_) (a' := ?_) #[true, true, true, true, true, false, false, false, false, false, false, false, false, false, false, false] rfl rfl (by kernel_rfl) (fun _ _ _ h => h) (Or.inl ⟨by rfl, ?_⟩) ?_ ?_; rotate_left; (intro w_; go_simp; with_reducible rfl); rotate_left; (simp only [Act.put, List.setIfInBounds_toArray, List.set_cons_zero, List.set_cons_succ, i64_w, i32_w]; rfl))
                    (refine pure_ (i := 5) (N := some 125) (v := ?_) (a' := ?_) #[true, true, true, true, true, true, false, false, false, false, false, false, false, false, false, false] rfl rfl (by kernel_rfl) (fun _ _ _ h => h) (Or.inl ⟨by rfl, ?_⟩) ?_ ?_; rotate_left; (intro w_; go_simp; with_reducible rfl); rotate_left; (simp only [Act.put, List.setIfInBounds_toArray, List.set_cons_zero, List.set_cons_succ, i64_w, i32_w]; rfl))
                    (refine take_ (i := 6) (N := some 126) (v := (.int .i64 ((R1 j c : Nat) : Int))) (a' := ?_) #[true, true, true, true, true, true, true, false, false, false, false, false, false, false, false, false] rfl rfl (by kernel_rfl) (fun _ _ _ h => h) (Or.inl ⟨by rfl, ?_⟩) HS.out ?_ ?_; (intro w_ hS_; (obtain ⟨hx_, _, _⟩ := mat_cellN hS_ 0 rfl j c hji hcn1 (R1 j c) HLA.out; go_simp)); rotate_left; (simp only [Act.put, List.setIfInBounds_toArray, List.set_cons_zero, List.set_cons_succ, i64_w, i32_w]; rfl))
                    (refine pure_ (i := 7) (N := some 127) (v := ?_) (a' := ?_) #[true, true, true, true, true, true, true, true, false, false, false, false, false, false, false, false] rfl rfl (by kernel_rfl) (fun _ _ _ h => h) (Or.inl ⟨by rfl, ?_⟩) ?_ ?_; rotate_left; (intro w_; go_simp; with_reducible rfl); rotate_left; (simp only [Act.put, List.setIfInBounds_toArray, List.set_cons_zero, List.set_cons_succ, i64_w, i32_w]; rfl))
                    (refine pure_ (i := 8) (N := some 128) (v := ?_) (a' := ?_) #[true, true, true, true, true, true, true, true, true, false, false, false, false, false, false, false] rfl rfl (by kernel_rfl) (fun _ _ _ h => h) (Or.inl ⟨by rfl, ?_⟩) ?_ ?_; rotate_left; (intro w_; go_simp; with_reducible rfl); rotate_left; (simp only [Act.put, List.setIfInBounds_toArray, List.set_cons_zero, List.set_cons_succ, i64_w, i32_w]; rfl))
                    (refine pure_ (i := 9) (N := some 129) (v := ?_) (a' := ?_) #[true, true, true, true, true, true, true, true, true, true, false, false, false, false, false, false] rfl rfl (by kernel_rfl) (fun _ _ _ h => h) (Or.inl ⟨by rfl, ?_⟩) ?_ ?_; rotate_left; (intro w_; go_simp; with_reducible rfl); rotate_left; (simp only [Act.put, List.setIfInBounds_toArray, List.set_cons_zero, List.set_cons_succ, i64_w, i32_w]; rfl))
                    (refine take_ (i := 10) (N := some 130) (v := (.slice (some ⟨hs1 c, 0, none⟩) (i + 1) (cs1 c))) (a' := ?_) #[true, true, true, true, true, true, true, true, true, true, true, false, false, false, false, false] rfl rfl (by kernel_rfl) (fun _ _ _ h => h) (Or.inl ⟨by rfl, ?_⟩) HS.out ?_ ?_; (intro w_ hS_; (obtain ⟨hx_, _, _⟩ := mat_row hS_ 0 rfl c hcn; go_simp)); rotate_left; (simp only [Act.put, List.setIfInBounds_toArray, List.set_cons_zero, List.set_cons_succ, i64_w, i32_w]; rfl))
                    (refine pure_ (i := 11) (N := some 131) (v := ?_) (a' := ?_) #[true, true, true, true, true, true, true, true, true, true, true, true, false, false, false, false] rfl rfl (by kernel_rfl) (fun _ _ _ h => h) (Or.inl ⟨by rfl, ?_⟩) ?_ ?_; rotate_left; (intro w_; go_simp; with_reducible rfl); rotate_left; (simp only [Act.put, List.setIfInBounds_toArray, List.set_cons_zero, List.set_cons_succ, i64_w, i32_w]; rfl))
                    (refine pure_ (i := 12) (N := some 132) (v := ?_) (a' := ?_) #[true, true, true, true, true, true, true, true, true, true, true, true, true, false, false, false] rfl rfl (by kernel_rfl) (fun _ _ _ h => h) (Or.inl ⟨by rfl, ?_⟩) ?_ ?_; rotate_left; (intro w_; go_simp; with_reducible rfl); rotate_left; (simp only [Act.put, List.setIfInBounds_toArray, List.set_cons_zero, List.set_cons_succ, i64_w, i32_w]; rfl))
                    (refine take_ (i := 13) (N := some 133) (v := (.int .i64 ((R1 c c : Nat) : Int))) (a' := ?_) #[true, true, true, true, true, true, true, true, true, true, true, true, true, true, false, false] rfl rfl (by kernel_rfl) (fun _ _ _ h => h) (Or.inl ⟨by rfl, ?_⟩) HS.out ?_ ?_; (intro w_ hS_; (obtain ⟨hx_, _, _⟩ := mat_cellN hS_ 0 rfl c c hcn hcn1 (R1 c c) HLP.out; go_simp)); rotate_left; (simp only [Act.put, List.setIfInBounds_toArray, List.set_cons_zero, List.set_cons_succ, i64_w, i32_w]; rfl))
                    (refine one_ (i := 14) (N := some 134) #[true, true, true, true, true, true, true, true, true, true, true, true, true, true, true, false] rfl rfl (by kernel_rfl) (by decide) (fun K hK => ?_); refine goes_ Try.func84 (by kernel_rfl) rfl #[.int .i64 ((R1 j c : Nat) : Int), .int .i64 ((R1 c c : Nat) : Int)] (by rfl) rfl rfl (by simp only [List.map_toArray, List.map_cons, List.map_nil]; rfl) ?_; refine (div_c (R1 j c) (R1 c c) _ (HSM1.out j c) (Nat.pos_of_ne_zero HNZ.out) (HSM1.out c c)).mono ?_; (rintro e w4 ⟨rfl, hb_⟩; have n1_ := Aside0.mk (SL.ext HS.out hb_); clear HS hb_; have HS := n1_; clear n1_); refine ⟨(.int .i64 ((Gf.div (R1 j c) (R1 c c) : Nat) : Int)), rfl, ?_⟩; refine hK.out _ _ HS.out (fun hHeld => ?_); clear hK K hHeld; refine norm_ (a' := ?_) ?_ ?_; rotate_left; (show Act.put _ (some 134) _ = _; simp only [Act.put, List.setIfInBounds_toArray, List.set_cons_zero, List.set_cons_succ, i64_w, i32_w]; rfl))
                    (refine pure_ (i := 15) (N := some 16) (v := ?_) (a' := ?_) #[true, true, true, true, true, true, true, true, true, true, true, true, true, true, true, true] rfl rfl (by kernel_rfl) (fun _ _ _ h => h) (Or.inl ⟨by rfl, ?_⟩) ?_ ?_; rotate_left; (intro w_; go_simp; with_reducible rfl); rotate_left; (simp only [Act.put, List.setIfInBounds_toArray, List.set_cons_zero, List.set_cons_succ, i64_w, i32_w]; rfl))
                    refine done_ (by kernel_rfl) ?_
                    rw [← HF.out]
                    have h2_ := elimF_start (l := []) HS.out c j f
                    have HS := Aside0.mk h2_
                    clear h2_ hj0_ hj1_ hj2_ hc0_ hc1_ hc2_ hc3_ hc4_ hji hcn hcn1
                    go_upto_region 35 with (fail)
                    go_loopg [17] (i + 1 - c) (fun kq v17 wr => ∃ k : Nat, v17 = .int .i64 (k : Int) ∧ Aside0 (k + kq = i + 1) ∧ Aside0 (c ≤ k) ∧ Aside0 (SL w wr [matN 28 3 g i (i + 1) hs1 cs1 (elimF (lowC R1 c (i + 1) j) c j f k)]))
                    case atStart => exact ⟨c, rfl, ⟨by have := HCN.out; omega⟩, ⟨Nat.le_refl _⟩, HS⟩
                    case round =>
                      clear HS
                      obtain ⟨k, rfl, HKK, HCKL, HS⟩ := hrel
                      cases gk with
                      | zero =>
                        obtain rfl : k = i + 1 := HKK.out
                        have HS2 : Aside0 (SL w wr [matN 28 3 g i (i + 1) hs1 cs1 (lowC R1 c (i + 1) (j + 1))]) := by rw [lowC_step _ _ _ _ HCJ.out, ← HF.out]; exact HS
                        have hit6 : decide (((i + 1 : Nat) : Int) ≤ (i : Int)) = false := decide_eq_false (by omega)
                        have hit7 : decide (i + 1 ≤ i) = false := decide_eq_false (by omega)
                        have hit8 : decide ((i : Int) + 1 ≤ (i : Int)) = false := decide_eq_false (by omega)
                        have HRJ : Aside0 (c < j + 1) := ⟨by have := HCJ.out; omega⟩
                        clear HS
                        go_wp2_with (fail)
                        go_roundg g3
                        case measure => exact Nat.lt_succ_self _
                        case rel => exact ⟨j + 1, congrArg (Value.int .i64) hwj.out, HJK1, HRJ, HS2⟩
                      | succ g4 =>
                        have hki : k < i + 1 := by have := HKK.out; omega
                        have HKI := Aside0.mk hki
                        have HKK1 : Aside0 (k + 1 + g4 = i + 1) := ⟨by have := HKK.out; omega⟩
                        have hwk := Aside0.mk (wr1 k (by have := HN8.out; omega))
                        have hit6 : decide ((k : Int) ≤ (i : Int)) = true := decide_eq_true (by omega)
                        have hit7 : decide (k ≤ i) = true := decide_eq_true (by omega)
                        have hjc : j ≠ c := Nat.ne_of_gt HCJ.out
                        have hea := (elimF_at (lowC R1 c (i + 1) j) c j f k).trans (lowC_at R1 c (i + 1) j k)
                        have heb := (elimF_piv (lowC R1 c (i + 1) j) c j f k k hjc).trans (lowC_piv R1 c (i + 1) j k)
                        have hes := elimF_set (lowC R1 c (i + 1) j) c j f k HCKL.out hjc
                        rw [lowC_at, lowC_piv] at hes
                        have HEA := Aside0.mk hea
                        have HEB := Aside0.mk heb
                        have HES := Aside0.mk hes
                        have hbx := bxor (a := R1 j k) (b := Gf.mul f (R1 c k)) (Nat.lt_trans (HSM1.out j k) (by decide)) (Nat.lt_trans (Gf.mul_lt HF256.out (R1 c k)) (by decide))
                        clear hea heb hes hjc hki
                        go_upto_region 37 with (fail)
                        clear hit6 hit7
                        have hki := HKI.out
                        have hji := HJI.out
                        have hcn := HCN.out
                        have hk0_ : ((0 : Int) ≤ (k : Int)) = True := eq_true (Int.natCast_nonneg k)
                        have hk1_ : ((k : Int) < (i : Int) + 1) = True := eq_true (by omega)
                        have hk2_ : (k < i + 1) = True := eq_true hki
                        have hj0_ : ((0 : Int) ≤ (j : Int)) = True := eq_true (Int.natCast_nonneg j)
                        have hj1_ : ((j : Int) < (i : Int)) = True := eq_true (Int.ofNat_lt.2 hji)
                        have hj2_ : (j < i) = True := eq_true hji
                        have hc0_ : ((0 : Int) ≤ (c : Int)) = True := eq_true (Int.natCast_nonneg c)
                        have hc1_ : ((c : Int) < (i : Int)) = True := eq_true (Int.ofNat_lt.2 hcn)
                        have hc2_ : (c < i) = True := eq_true hcn
                        (refine start_ (n := 19) (S := (fun w_ => SL w w_ [matN 28 3 g i (i + 1) hs1 cs1 (elimF (lowC R1 c (i + 1) j) c j f k)])) (ds := [18]) #[false, false, false, false, false, false, false, false, false, false, false, false, false, false, false, false, false, false, false] (by kernel_rfl) rfl rfl (by repeat (first | (with_reducible first | exact HS.out | apply Sep.SL.drewN | apply Sep.SL.drew | apply Sep.SL.alloc | apply below_drew1) | exact HS.out)) (fun hHeld => ?_); clear HS; have HS := Aside0.mk hHeld; clear hHeld; generalize World.drew _ = wr_ at HS ⊢)
                        (refine pure_ (i := 0) (N := some 141) (v := ?_) (a' := ?_) #[true, false, false, false, false, false, false, false, false, false, false, false, false, false, false, false, false, false, false] rfl rfl (by kernel_rfl) (fun _ _ _ h => h) (Or.inl ⟨by rfl, ?_⟩) ?_ ?_; rotate_left; (intro w_; go_simp; with_reducible rfl); rotate_left; (simp only [Act.put, List.setIfInBounds_toArray, List.set_cons_zero, List.set_cons_succ, i64_w, i32_w]; rfl))
                        (refine pure_ (i := 1) (N := some 142) (v := ?_) (a' := ?_) #[true, true, false, false, false, false, false, false, false, false, false, false, false, false, false, false, false, false, false] rfl rfl (by kernel_rfl) (fun _ _ _ h => h) (Or.inl ⟨by rfl, ?_⟩) ?_ ?_; rotate_left; (intro w_; go_simp; with_reducible rfl); rotate_left; (simp only [Act.put, List.setIfInBounds_toArray, List.set_cons_zero, List.set_cons_succ, i64_w, i32_w]; rfl))
                        (refine pure_ (i := 2) (N := some 143) (v := ?_) (a' := ?_) #[true, true, true, false, false, false, false, false, false, false, false, false, false, false, false, false, false, false, false] rfl rfl (by kernel_rfl) (fun _ _ _ h => h) (Or.inl ⟨by rfl, ?_⟩) ?_ ?_; rotate_left; (intro w_; go_simp; with_reducible rfl); rotate_left; (simp only [Act.put, List.setIfInBounds_toArray, List.set_cons_zero, List.set_cons_succ, i64_w, i32_w]; rfl))
                        (refine take_ (i := 3) (N := some 144) (v := (.slice (some ⟨hs1 j, 0, none⟩) (i + 1) (cs1 j))) (a' := ?_) #[true, true, true, true, false, false, false, false, false, false, false, false, false, false, false, false, false, false, false] rfl rfl (by kernel_rfl) (fun _ _ _ h => h) (Or.inl ⟨by rfl, ?_⟩) HS.out ?_ ?_; (intro w_ hS_; (obtain ⟨hx_, _, _⟩ := mat_row hS_ 0 rfl j hji; go_simp)); rotate_left; (simp only [Act.put, List.setIfInBounds_toArray, List.set_cons_zero, List.set_cons_succ, i64_w, i32_w]; rfl))
                        (refine pure_ (i := 4) (N := some 145) (v := ?_) (a' := ?_) #[true, true, true, true, true, false, false, false, false, false, false, false, false, false, false, false, false, false, false] rfl rfl (by kernel_rfl) (fun _ _ _ h => h) (Or.inl ⟨by rfl, ?_⟩) ?_ ?_; rotate_left; (intro w_; go_simp; with_reducible rfl); rotate_left; (simp only [Act.put, List.setIfInBounds_toArray, List.set_cons_zero, List.set_cons_succ, i64_w, i32_w]; rfl))
                        (refine pure_ (i := 5) (N := some 146) (v := ?_) (a' := ?_) #[true, true, true, true, true, true, false, false, false, false, false, false, false, false, false, false, false, false, false] rfl rfl (by kernel_rfl) (fun _ _ _ h => h) (Or.inl ⟨by rfl, ?_⟩) ?_ ?_; rotate_left; (intro w_; go_simp; with_reducible rfl); rotate_left; (simp only [Act.put, List.setIfInBounds_toArray, List.set_cons_zero, List.set_cons_succ, i64_w, i32_w]; rfl))
                        (refine take_ (i := 6) (N := some 147) (v := (.int .i64 ((R1 j k : Nat) : Int))) (a' := ?_) #[true, true, true, true, true, true, true, false, false, false, false, false, false, false, false, false, false, false, false] rfl rfl (by kernel_rfl) (fun _ _ _ h => h) (Or.inl ⟨by rfl, ?_⟩) HS.out ?_ ?_; (intro w_ hS_; (obtain ⟨hx_, _, _⟩ := mat_cellN hS_ 0 rfl j k hji hki (R1 j k) HEA.out; go_simp)); rotate_left; (simp only [Act.put, List.setIfInBounds_toArray, List.set_cons_zero, List.set_cons_succ, i64_w, i32_w]; rfl))
                        (refine pure_ (i := 7) (N := some 148) (v := ?_) (a' := ?_) #[true, true, true, true, true, true, true, true, false, false, false, false, false, false, false, false, false, false, false] rfl rfl (by kernel_rfl) (fun _ _ _ h => h) (Or.inl ⟨by rfl, ?_⟩) ?_ ?_; rotate_left; (intro w_; go_simp; with_reducible rfl); rotate_left; (simp only [Act.put, List.setIfInBounds_toArray, List.set_cons_zero, List.set_cons_succ, i64_w, i32_w]; rfl))
                        (refine pure_ (i := 8) (N := some 149) (v := ?_) (a' := ?_) #[true, true, true, true, true, true, true, true, true, false, false, false, false, false, false, false, false, false, false] rfl rfl (by kernel_rfl) (fun _ _ _ h => h) (Or.inl ⟨by rfl, ?_⟩) ?_ ?_; rotate_left; (intro w_; go_simp; with_reducible rfl); rotate_left; (simp only [Act.put, List.setIfInBounds_toArray, List.set_cons_zero, List.set_cons_succ, i64_w, i32_w]; rfl))
                        (refine pure_ (i := 9) (N := some 150) (v := ?_) (a' := ?_) #[true, true, true, true, true, true, true, true, true, true, false, false, false, false, false, false, false, false, false] rfl rfl (by kernel_rfl) (fun _ _ _ h => h) (Or.inl ⟨by rfl, ?_⟩) ?_ ?_; rotate_left; (intro w_; go_simp; with_reducible rfl); rotate_left; (simp only [Act.put, List.setIfInBounds_toArray, List.set_cons_zero, List.set_cons_succ, i64_w, i32_w]; rfl))
                        (refine pure_ (i := 10) (N := some 151) (v := ?_) (a' := ?_) #[true, true, true, true, true, true, true, true, true, true, true, false, false, false, false, false, false, false, false] rfl rfl (by kernel_rfl) (fun _ _ _ h => h) (Or.inl ⟨by rfl, ?_⟩) ?_ ?_; rotate_left; (intro w_; go_simp; with_reducible rfl); rotate_left; (simp only [Act.put, List.setIfInBounds_toArray, List.set_cons_zero, List.set_cons_succ, i64_w, i32_w]; rfl))
                        (refine take_ (i := 11) (N := some 152) (v := (.slice (some ⟨hs1 c, 0, none⟩) (i + 1) (cs1 c))) (a' := ?_) #[true, true, true, true, true, true, true, true, true, true, true, true, false, false, false, false, false, false, false] rfl rfl (by kernel_rfl) (fun _ _ _ h => h) (Or.inl ⟨by rfl, ?_⟩) HS.out ?_ ?_; (intro w_ hS_; (obtain ⟨hx_, _, _⟩ := mat_row hS_ 0 rfl c hcn; go_simp)); rotate_left; (simp only [Act.put, List.setIfInBounds_toArray, List.set_cons_zero, List.set_cons_succ, i64_w, i32_w]; rfl))
                        (refine pure_ (i := 12) (N := some 153) (v := ?_) (a' := ?_) #[true, true, true, true, true, true, true, true, true, true, true, true, true, false, false, false, false, false, false] rfl rfl (by kernel_rfl) (fun _ _ _ h => h) (Or.inl ⟨by rfl, ?_⟩) ?_ ?_; rotate_left; (intro w_; go_simp; with_reducible rfl); rotate_left; (simp only [Act.put, List.setIfInBounds_toArray, List.set_cons_zero, List.set_cons_succ, i64_w, i32_w]; rfl))
                        (refine pure_ (i := 13) (N := some 154) (v := ?_) (a' := ?_) #[true, true, true, true, true, true, true, true, true, true, true, true, true, true, false, false, false, false, false] rfl rfl (by kernel_rfl) (fun _ _ _ h => h) (Or.inl ⟨by rfl, ?_⟩) ?_ ?_; rotate_left; (intro w_; go_simp; with_reducible rfl); rotate_left; (simp only [Act.put, List.setIfInBounds_toArray, List.set_cons_zero, List.set_cons_succ, i64_w, i32_w]; rfl))
                        (refine take_ (i := 14) (N := some 155) (v := (.int .i64 ((R1 c k : Nat) : Int))) (a' := ?_) #[true, true, true, true, true, true, true, true, true, true, true, true, true, true, true, false, false, false, false] rfl rfl (by kernel_rfl) (fun _ _ _ h => h) (Or.inl ⟨by rfl, ?_⟩) HS.out ?_ ?_; (intro w_ hS_; (obtain ⟨hx_, _, _⟩ := mat_cellN hS_ 0 rfl c k hcn hki (R1 c k) HEB.out; go_simp)); rotate_left; (simp only [Act.put, List.setIfInBounds_toArray, List.set_cons_zero, List.set_cons_succ, i64_w, i32_w]; rfl))
                        (refine one_ (i := 15) (N := some 156) #[true, true, true, true, true, true, true, true, true, true, true, true, true, true, true, true, false, false, false] rfl rfl (by kernel_rfl) (by decide) (fun K hK => ?_); refine goes_ Try.func46 (by kernel_rfl) rfl #[.int .i64 (f : Int), .int .i64 ((R1 c k : Nat) : Int)] (by rfl) rfl rfl (by simp only [List.map_toArray, List.map_cons, List.map_nil]; rfl) ?_; refine (mul_c f (R1 c k) _ HF256.out (HSM1.out c k)).mono ?_; (rintro e w4 ⟨rfl, hb_⟩; have n1_ := Aside0.mk (SL.ext HS.out hb_); clear HS hb_; have HS := n1_; clear n1_); refine ⟨(.int .i64 ((Gf.mul f (R1 c k) : Nat) : Int)), rfl, ?_⟩; refine hK.out _ _ HS.out (fun hHeld => ?_); clear hK K hHeld; refine norm_ (a' := ?_) ?_ ?_; rotate_left; (show Act.put _ (some 156) _ = _; simp only [Act.put, List.setIfInBounds_toArray, List.set_cons_zero, List.set_cons_succ, i64_w, i32_w]; rfl))
                        (refine pure_ (i := 16) (N := some 157) (v := ?_) (a' := ?_) #[true, true, true, true, true, true, true, true, true, true, true, true, true, true, true, true, true, false, false] rfl rfl (by kernel_rfl) (fun _ _ _ h => h) (Or.inl ⟨by rfl, ?_⟩) ?_ ?_; rotate_left; (intro w_; go_simp; with_reducible rfl); rotate_left; (simp only [Act.put, List.setIfInBounds_toArray, List.set_cons_zero, List.set_cons_succ, i64_w, i32_w]; rfl))
                        (refine pure_ (i := 17) (N := some 158) (v := ?_) (a' := ?_) #[true, true, true, true, true, true, true, true, true, true, true, true, true, true, true, true, true, true, false] rfl rfl (by kernel_rfl) (fun _ _ _ h => h) (Or.inl ⟨by rfl, ?_⟩) ?_ ?_; rotate_left; (intro w_; go_simp; with_reducible rfl); rotate_left; (simp only [Act.put, List.setIfInBounds_toArray, List.set_cons_zero, List.set_cons_succ, i64_w, i32_w]; rfl))
                        obtain ⟨hy1_, hy2_, _⟩ := mat_cellN HS.out 0 rfl j k hji hki (R1 j k) HEA.out
                        have HP := Aside0.mk (mat_putN HS.out 0 rfl j k hji (R1 j k ^^^ Gf.mul f (R1 c k)) HES.out)
                        (refine last_ (i := 18) (N := none) #[true, true, true, true, true, true, true, true, true, true, true, true, true, true, true, true, true, true, true] rfl rfl (by kernel_rfl) (by decide) (fun K hK => ?_); (go_simp); refine hK.out _ _ ?_; clear hK K)
                        refine done_ (by kernel_rfl) ?_
                        clear HS
                        generalize World.setCell _ _ _ = w6 at HP ⊢
                        clear hbx HEA HEB HES hy1_ hy2_ hk0_ hk1_ hk2_ hj0_ hj1_ hj2_ hc0_ hc1_ hc2_ hki hji hcn
                        generalize ((R1 j k ^^^ Gf.mul f (R1 c k) : Nat) : Int) = y1_
                        generalize ((Gf.mul f (R1 c k) : Nat) : Int) = y2_
                        go_wp2_with (fail)
                        go_roundg g4
                        case measure => exact Nat.lt_succ_self _
                        case rel => exact ⟨k + 1, congrArg (Value.int .i64) hwk.out, HKK1, ⟨Nat.le_succ_of_le HCKL.out⟩, HP⟩
end Go.Proofs.Ytpaenlplpaabjaa.Sol
