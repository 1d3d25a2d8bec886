/- The reference's copy of a matrix, walked; no conditions. -/
import Derived.Test.YtpaenlplpaabjaaMatW
import Derived.Test.YtpaenlplpaabjaaSepCopy
set_option linter.unusedVariables false
set_option linter.unusedSimpArgs false
namespace Go.Proofs.Ytpaenlplpaabjaa.QMatInverts
open Go.RowKit Go.Proofs.YtpaenlplpaabjaaW.PrintWords Go.Proofs.YtpaenlplpaabjaaW.PrintLast Go.Proofs.YtpaenlplpaabjaaW.PrintMore
open Go.Proofs.Ytpaenlplpaabjaa.Sep Go.Proofs.Ytpaenlplpaabjaa.MatB
theorem infoI : (Try.prog.info? 3).map (fun i => (i.zero, i.size, i.bytes)) = some (some (.int .i64 0), 1, 8) := by kernel_rfl
set_option maxHeartbeats 2000000 in
set_option maxRecDepth 100000 in
theorem own_calls (A : Option Addr) (c : Nat) (l0 : List (List Int)) (w : World) (hC : Kd.C (Kd.slice 3 (Kd.int .i64)) w A l0.length l0) (hc : l0.length ≤ c) (hl : l0.length ≤ 8) (hr : ∀ r ∈ l0, r.length ≤ 16) :
    Calls Try.prog 83 #[.slice A l0.length c] w fun e w' => ∃ v : Value, e = .returned v ∧ SL w w' [sA (Kd.slice 3 (Kd.int .i64)) 28 v l0] := by
  have HC := Aside0.mk hC
  have HR := Aside0.mk hr
  have HS := Aside0.mk (sA_nil (SL.start w) (Kd.slice 3 (Kd.int .i64)) 28)
  clear hC hr
  go_enter Try.func83, Try.ntmps83
  go_upto_region 3 with (fail)
  go_loopg [3, 8] l0.length (fun kq v3 v8 wr => ∃ i : Nat, v8 = .int .i64 (i : Int) ∧ i + kq = l0.length ∧ Aside0 (SL w wr [sA (Kd.slice 3 (Kd.int .i64)) 28 v3 (l0.take i)]))
  case atStart => exact ⟨0, rfl, by omega, by rw [List.take_zero]; exact HS⟩
  case round =>
    clear HS
    obtain ⟨i, rfl, hik, HS⟩ := hrel
    cases gk with
    | zero =>
      have hil : i = l0.length := by omega
      have hit : decide ((i : Int) < (l0.length : Int)) = false := decide_eq_false (by omega)
      have hit2 : decide (i < l0.length) = false := decide_eq_false (by omega)
      have HS2 := HS
      rw [hil, List.take_length] at HS2
      clear HS
      clear hil hik
      go_wp2_with (fail)
      go_ret
      exact ⟨_, rfl, HS2.out⟩
    | succ g1 =>
      have hil : i < l0.length := by omega
      have HIK : Aside0 (i + 1 + g1 = l0.length) := ⟨by omega⟩
      clear hik
      obtain ⟨ad, A0, c0, rfl, hx, hc0, hC0⟩ := at_L1 HC.out (i : Int) (by omega) (by omega)
      have hx := (HS.out.below.cell (World.block_lt_of_cell? w _ hx)).trans hx
      rw [Int.toNat_natCast] at hx
      have HC0 := Aside0.mk hC0
      have hmem := L1_mem i hil
      have hrl := HR.out _ hmem
      obtain ⟨row, hrow⟩ : ∃ row, row = rd_L1 l0 (i : Int) := ⟨_, rfl⟩
      rw [← hrow] at hx hc0 hrl HC0
      have htk : l0.take (i + 1) = l0.take i ++ [row] := by
        rw [List.take_succ_eq_append_getElem hil, hrow, rd_L1, Int.toNat_natCast, List.getD_eq_getElem?_getD, List.getElem?_eq_getElem hil]
        rfl
      have HTK := Aside0.mk htk
      have htl : (l0.take i).length = i := by rw [List.length_take]; omega
      have HTL := Aside0.mk htl
      have hwi := wr1 i (by omega)
      have hit : decide ((i : Int) < (l0.length : Int)) = true := decide_eq_true (Int.ofNat_lt.2 hil)
      have hit2 : decide (i < l0.length) = true := decide_eq_true hil
      have hi0_ : ((0 : Int) ≤ (i : Int)) = True := eq_true (Int.natCast_nonneg i)
      have hi1_ : ((i : Int) < (l0.length : Int)) = True := eq_true (Int.ofNat_lt.2 hil)
      have hi2_ : (i < l0.length) = True := eq_true hil
      have HRL := Aside0.mk hrl
      clear hmem hrow htk htl hrl hC0
      obtain ⟨A3, c3, e3⟩ := sA_slice HS.out 0 rfl
      subst e3
      rw [HTL.out] at HS ⊢
      clear HTL
      go_wp2_with (first | ((with_reducible refine gate_builtin (b := .append) (xs := #[.const (.slice none 0 0), .tmp 13]) rfl ?_); at_builtin; (with_reducible apply Kd.R_append_rows (Kd.int .i64) (Rr := (Kd.int .i64).K wr) (w0 := wr) (base := wr.heap.size) (s := .const (.slice none 0 0)) (x := .tmp 13) (t := 28) (e := 3) (v := .slice none 0 0) (xs := []) (ys := row) (m := row.length) (ok := fun _ => True) (okp := fun _ => True)); (case hgd => exact rfl); (case ho => exact rfl); (case ht => exact Try.underlying28); (case hinfo => exact infoI); (case hz => exact rfl); (case hs0 => decide); (case hb0 => omega); (case hs => exact rfl); (case hx => exact rfl); (case HO => exact Kd.R_nil _ _ _ _ _); (case HR => exact Kd.C_below HC0.out HS.out.below); (case hKM => exact fun _ _ h_ => h_); (case hokp => exact fun _ _ => ⟨trivial, by simp [Value.ownBlock]⟩); (case hfresh => exact fun _ _ => trivial); (case HB => exact Below.refl _ _); (case hbase => exact Nat.le_refl _); (case hl => have := HRL.out; simp; omega); intro v1_ w1_ ho_ hb_ hg_ hat_; rw [List.nil_append] at ho_; have n1_ := Aside0.mk (Sep.SL.newRow HS.out hb_ ho_); clear HS ho_ hb_ hg_ hat_; have HS := n1_; clear n1_; obtain ⟨a1_, c1_, e1_⟩ := Sep.SL.slice HS.out 0 rfl; subst e1_) | ((with_reducible refine gate_builtin (b := .append) (xs := #[.tmp 12, .tmp 15]) rfl ?_); at_builtin; (with_reducible apply MatB.append_srow (d := Kd.int .i64) (e' := 3) (t := 22) (e := 28) (s := .tmp 12) (x := .tmp 15) (p := row)); (case hSL => exact Sep.SL.swap HS.out); (case hgd => exact rfl); (case ho => exact rfl); (case ht => exact Try.underlying22); (case hinfo => exact infoR); (case hz => exact rfl); (case hb0 => omega); (case hs => exact rfl); (case hx => exact rfl); (case hl => rw [List.length_take]; omega); intro v1_ w1_ hs_; have n1_ := Aside0.mk hs_; clear HS hs_; have HS := n1_; clear n1_))
      go_roundg g1
      case measure => exact Nat.lt_succ_self _
      case rel => exact ⟨i + 1, rfl, HIK.out, by rw [HTK.out]; exact HS⟩
/-! ### A copy of a matrix, with the one beside it that changes nothing -/
def besRow (r : List Int) (more i : Nat) : List Int := if 0 < more then (r ++ List.replicate more 0).set (r.length + i) 1 else r ++ List.replicate more 0
def bes (l : List (List Int)) (more : Nat) : Nat → List (List Int)
  | 0 => []
  | i + 1 => bes l more i ++ [besRow (rd_L1 l (i : Int)) more i]
theorem bes_len (l : List (List Int)) (more : Nat) : ∀ i, (bes l more i).length = i
  | 0 => rfl
  | i + 1 => by rw [bes, List.length_append, bes_len l more i, List.length_singleton]
theorem bes_cat (row : List Int) (more nl : Nat) (h : nl = row.length + more) : (List.replicate nl (0 : Int)).take 0 ++ (row ++ (List.replicate nl (0 : Int)).drop (0 + row.length)) = row ++ List.replicate more 0 := by
  rw [List.take_zero, List.nil_append, List.drop_replicate, h, Nat.zero_add, Nat.add_sub_cancel_left]
theorem bes_src {w W : World} {A : Option Addr} {row : List Int} (h : Kd.C (Kd.int .i64) w A row.length row) (hb : Below w.heap.size w W) (hp : 0 < row.length) : ∃ ad, A = some ad ∧ ∀ j y, row[j]? = some y → W.cell? (ad.add j) = some (.int .i64 y) := by
  obtain ⟨ad, e, _⟩ := Kd.at_int h 0 (Int.le_refl 0) (by omega)
  refine ⟨ad, e, fun j y hj => ?_⟩
  obtain ⟨hlt, hy⟩ := List.getElem?_eq_some_iff.1 hj
  obtain ⟨ad2, e2, hx⟩ := Kd.at_int h (j : Int) (by omega) (by omega)
  obtain rfl : ad = ad2 := by rw [e] at e2; injection e2
  have hx2 := (hb.cell (World.block_lt_of_cell? w _ hx)).trans hx
  rw [Int.toNat_natCast, rd_get row j hlt, hy] at hx2
  exact hx2
set_option maxHeartbeats 2000000 in
set_option maxRecDepth 100000 in
theorem bes_calls (A : Option Addr) (c more : Nat) (l0 : List (List Int)) (w : World) (hC : Kd.C (Kd.slice 3 (Kd.int .i64)) w A l0.length l0) (hc : l0.length ≤ c) (hl : l0.length ≤ 8) (hr : ∀ r ∈ l0, 1 ≤ r.length ∧ r.length ≤ 8) (hm : more = 0 ∨ l0.length ≤ more) (hm8 : more ≤ 8) :
    Calls Try.prog 48 #[.slice A l0.length c, .int .i64 (more : Int)] w fun e w' => ∃ v : Value, e = .returned v ∧ SL w w' [sA (Kd.slice 3 (Kd.int .i64)) 28 v (bes l0 more l0.length)] := by
  have HC := Aside0.mk hC
  have HR := Aside0.mk hr
  have HM := Aside0.mk hm
  have HS := Aside0.mk (sA_nil (SL.start w) (Kd.slice 3 (Kd.int .i64)) 28)
  clear hC hr hm
  go_enter Try.func48, Try.ntmps48
  go_upto_region 3 with (fail)
  go_loopg [5, 11] l0.length (fun kq v5 v11 wr => ∃ i : Nat, v11 = .int .i64 (i : Int) ∧ i + kq = l0.length ∧ Aside0 (SL w wr [sA (Kd.slice 3 (Kd.int .i64)) 28 v5 (bes l0 more i)]))
  case atStart => exact ⟨0, rfl, by omega, HS⟩
  case round =>
    clear HS
    obtain ⟨i, rfl, hik, HS⟩ := hrel
    cases gk with
    | zero =>
      have hil : i = l0.length := by omega
      have hit : decide ((i : Int) < (l0.length : Int)) = false := decide_eq_false (by omega)
      have hit2 : decide (i < l0.length) = false := decide_eq_false (by omega)
      have HS2 := HS
      rw [hil] at HS2
      clear HS
      clear hil hik
      go_wp2_with (fail)
      go_ret
      exact ⟨_, rfl, HS2.out⟩
    | succ g1 =>
      have hil : i < l0.length := by omega
      have HIK : Aside0 (i + 1 + g1 = l0.length) := ⟨by omega⟩
      clear hik
      obtain ⟨ad, A0, c0, rfl, hx, hc0, hC0⟩ := at_L1 HC.out (i : Int) (by omega) (by omega)
      have hx := (HS.out.below.cell (World.block_lt_of_cell? w _ hx)).trans hx
      rw [Int.toNat_natCast] at hx
      have HC0 := Aside0.mk hC0
      have hmem := L1_mem i hil
      have hrl := HR.out _ hmem
      have hnx : bes l0 more (i + 1) = bes l0 more i ++ [besRow (rd_L1 l0 (i : Int)) more i] := rfl
      obtain ⟨row, hrow⟩ : ∃ row, row = rd_L1 l0 (i : Int) := ⟨_, rfl⟩
      rw [← hrow] at hx hc0 hrl HC0 hnx
      have HNX := Aside0.mk hnx
      have HLN := Aside0.mk (bes_len l0 more i)
      have HBD := Aside0.mk (show ((bes l0 more i).length + 1) * 24 ≤ 140737488355328 by rw [HLN.out]; omega)
      obtain ⟨nl, hnl⟩ : ∃ nl, nl = row.length + more := ⟨_, rfl⟩
      obtain ⟨ix, hix⟩ : ∃ ix, ix = row.length + i := ⟨_, rfl⟩
      have HNL := Aside0.mk hnl
      have HIX := Aside0.mk hix
      have HRL := Aside0.mk hrl
      have hwn : wrap64 ((row.length : Int) + (more : Int)) = (nl : Int) := by rw [hnl]; unfold wrap64; omega
      have hwx : wrap64 ((row.length : Int) + (i : Int)) = (ix : Int) := by rw [hix]; unfold wrap64; omega
      have hnp : 0 < nl := by omega
      have hns : nl ≤ 16 := by omega
      have hix2 : 0 < more → ix < nl := by have := HM.out; omega
      have HIX2 := Aside0.mk hix2
      have hwi := wr1 i (by omega)
      have hit : decide ((i : Int) < (l0.length : Int)) = true := decide_eq_true (Int.ofNat_lt.2 hil)
      have hit2 : decide (i < l0.length) = true := decide_eq_true hil
      have hi0_ : ((0 : Int) ≤ (i : Int)) = True := eq_true (Int.natCast_nonneg i)
      have hi1_ : ((i : Int) < (l0.length : Int)) = True := eq_true (Int.ofNat_lt.2 hil)
      have hi2_ : (i < l0.length) = True := eq_true hil
      clear hmem hrow hrl hC0 hnx hnl hix hix2
      obtain ⟨A3, c3, e3⟩ := sA_slice HS.out 0 rfl
      rw [HLN.out] at e3
      subst e3
      go_upto_region 6 with (rw [hwn]; ((with_reducible refine gate_dst (N := 20) rfl ?_); (with_reducible apply Sep.make_row (d := (Kd.int .i64)) (t := 28) (e := 3) (n := (nl : Int)) (z0 := 0)); (case hSL => exact (by repeat (first | (with_reducible first | exact HS.out | apply Sep.SL.drewN | apply Sep.SL.drew | apply Sep.SL.alloc | apply below_drew1) | exact HS.out))); (case hgd => exact rfl); (case hd => exact rfl); (case ho => exact rfl); (case hx => exact rfl); (case hy => exact rfl); (case ht => exact Try.underlying28); (case hinfo => exact info3); (case hz => exact rfl); (case hs0 => decide); (case hb0 => omega); (case hzero => exact (fun _ _ => rfl)); (case h0 => omega); (case hl => omega); intro v1_ w1_ hs_; have n1_ := Aside0.mk hs_; clear HS hs_; have HS := n1_; clear n1_; obtain ⟨gr, cr, e1_⟩ := Sep.SL.form HS.out 0 rfl (by rw [List.length_replicate, Int.toNat_natCast]; exact hnp); rw [Int.toNat_natCast] at e1_ HS; rw [List.length_replicate] at e1_; subst e1_))
      clear hx
      have HSRC := Aside0.mk (fun W (hb : Below w.heap.size w W) => bes_src HC0.out hb (by have := HRL.out; omega))
      go_upto_region 7 with (((with_reducible refine gate_builtin (b := .copy) (xs := #[.tmp 21, .tmp 22]) rfl ?_); ((with_reducible apply copy_ints (kk := .i64) (d := .tmp 21) (s := .tmp 22) (dT := 28) (sT := 28) (elem := 3) (p := 0) (ys := row) (k := 0)); (case hSL => exact (by repeat (first | (with_reducible first | exact HS.out | apply Sep.SL.drewN | apply Sep.SL.drew | apply Sep.SL.alloc | apply below_drew1) | exact HS.out))); (case hk => exact rfl); (case hgd => exact rfl); (case ho => exact rfl); (case hu => exact Try.underlying28); (case hsz => kernel_rfl); (case hd => exact rfl); (case hs => exact rfl); (case hn => exact (Nat.min_eq_left (show row.length ≤ nl by have := HNL.out; omega)).symm); (case hp => exact (by rw [List.length_replicate]; have := HNL.out; omega)); (case hpos => exact (fun _ => ⟨rfl, HSRC.out _ HS.out.below⟩)); intro w1_ hs_; have n1_ := Aside0.mk hs_; clear HS hs_; have HS := n1_; clear n1_)))
      clear hx
      have hbs := HS.out
      rw [bes_cat row more nl HNL.out] at hbs
      have HS : Aside0 (SL w _ [rowA (Kd.int .i64) 3 (.slice (some ⟨gr, 0, none⟩) nl cr) (row ++ List.replicate more 0), sA (Kd.slice 3 (Kd.int .i64)) 28 (.slice A3 i c3) (bes l0 more i)]) := ⟨hbs⟩
      clear hbs
      have hfin : ∀ (W : World), SL w W [rowA (Kd.int .i64) 3 (.slice (some ⟨gr, 0, none⟩) nl cr) (besRow row more i), sA (Kd.slice 3 (Kd.int .i64)) 28 (.slice A3 i c3) (bes l0 more i)] → Aside0 (SL w W [sA (Kd.slice 3 (Kd.int .i64)) 28 (.slice A3 i c3) (bes l0 more i), rowA (Kd.int .i64) 3 (.slice (some ⟨gr, 0, none⟩) nl cr) (besRow row more i)]) := fun W h => ⟨h.swap⟩
      have HFIN := Aside0.mk hfin
      clear hfin
      obtain ⟨rowp, hrowp⟩ : ∃ rowp, rowp = besRow row more i := ⟨_, rfl⟩
      by_cases hmore : 0 < more
      · have hgt : decide (0 < (more : Int)) = true := decide_eq_true (by omega)
        have hgt2 : decide (0 < more) = true := decide_eq_true hmore
        have hix3 := HIX2.out hmore
        have hb1_ : ((0 : Int) ≤ (ix : Int)) = True := eq_true (Int.natCast_nonneg ix)
        have hb2_ : ((ix : Int) < (nl : Int)) = True := eq_true (Int.ofNat_lt.2 hix3)
        have hb3_ : (ix < nl) = True := eq_true hix3
        obtain ⟨hy1_, hy2_⟩ := HS.out.int 0 rfl (ix : Int) (by omega) (by rw [List.length_append, List.length_replicate]; have := HNL.out; omega)
        rw [Int.toNat_natCast] at hy1_ hy2_
        have HP := Aside0.mk (HS.out.intPut 0 rfl (ix : Int) 1)
        rw [Int.toNat_natCast] at HP
        have HRP := Aside0.mk hrowp
        have HHP := Aside0.mk hmore
        clear hix3 hmore hrowp
        go_upto_region 9 with (fail)
        have HS : Aside0 (SL w _ [sA (Kd.slice 3 (Kd.int .i64)) 28 (.slice A3 i c3) (bes l0 more i), rowA (Kd.int .i64) 3 (.slice (some ⟨gr, 0, none⟩) nl cr) (besRow row more i)]) := HFIN.out _ (by rw [besRow, if_pos HHP.out, ← HIX.out]; exact HP.out)
        clear HP hy1_ hy2_ hb1_ hb2_ hb3_ hgt hgt2 HRP
        generalize World.setCell _ _ _ = w7 at HS ⊢
        clear hit hit2 hi0_ hi1_ hi2_ hwn hwx hnp hns
        go_wp2_with ((with_reducible refine gate_builtin (b := .append) (xs := #[.tmp 32, .tmp 34]) rfl ?_); at_builtin; (with_reducible apply MatB.append_srow (d := Kd.int .i64) (e' := 3) (t := 66) (e := 28) (s := .tmp 32) (x := .tmp 34) (p := besRow row more i)); (case hSL => exact HS.out); (case hgd => exact rfl); (case ho => exact rfl); (case ht => exact Try.underlying66); (case hinfo => exact infoR); (case hz => exact rfl); (case hb0 => exact Nat.succ_pos 23); (case hs => exact rfl); (case hx => exact rfl); (case hl => exact HBD.out); intro v1_ w1_ hs_; have n1_ := Aside0.mk hs_; clear HS hs_; have HS := n1_; clear n1_)
        go_roundg g1
        case measure => exact Nat.lt_succ_self _
        case rel => exact ⟨i + 1, rfl, HIK.out, by rw [HNX.out]; exact HS⟩
      · have hgt : decide (0 < (more : Int)) = false := decide_eq_false (by omega)
        have hgt2 : decide (0 < more) = false := decide_eq_false hmore
        have HS : Aside0 (SL w _ [sA (Kd.slice 3 (Kd.int .i64)) 28 (.slice A3 i c3) (bes l0 more i), rowA (Kd.int .i64) 3 (.slice (some ⟨gr, 0, none⟩) nl cr) (besRow row more i)]) := HFIN.out _ (by rw [besRow, if_neg hmore]; exact HS.out)
        clear hmore hrowp
        go_upto_region 9 with (fail)
        clear hgt hgt2 hit hit2 hi0_ hi1_ hi2_ hwn hwx hnp hns
        go_wp2_with ((with_reducible refine gate_builtin (b := .append) (xs := #[.tmp 32, .tmp 34]) rfl ?_); at_builtin; (with_reducible apply MatB.append_srow (d := Kd.int .i64) (e' := 3) (t := 66) (e := 28) (s := .tmp 32) (x := .tmp 34) (p := besRow row more i)); (case hSL => exact HS.out); (case hgd => exact rfl); (case ho => exact rfl); (case ht => exact Try.underlying66); (case hinfo => exact infoR); (case hz => exact rfl); (case hb0 => exact Nat.succ_pos 23); (case hs => exact rfl); (case hx => exact rfl); (case hl => exact HBD.out); intro v1_ w1_ hs_; have n1_ := Aside0.mk hs_; clear HS hs_; have HS := n1_; clear n1_)
        go_roundg g1
        case measure => exact Nat.lt_succ_self _
        case rel => exact ⟨i + 1, rfl, HIK.out, by rw [HNX.out]; exact HS⟩
end Go.Proofs.Ytpaenlplpaabjaa.QMatInverts
