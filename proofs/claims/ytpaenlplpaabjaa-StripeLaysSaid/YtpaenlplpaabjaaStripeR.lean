/- The reference's StripeLay, walked; no conditions. -/
import Derived.Test.YtpaenlplpaabjaaStripeM
set_option linter.unusedVariables false
set_option linter.unusedSimpArgs false
namespace Go.Proofs.Ytpaenlplpaabjaa.QStripeLays
open Go.RowKit Go.Proofs.YtpaenlplpaabjaaW.PrintWords Go.Proofs.YtpaenlplpaabjaaW.PrintLast Go.Proofs.YtpaenlplpaabjaaW.PrintMore
open Go.Proofs.Ytpaenlplpaabjaa.Sep Go.Proofs.Ytpaenlplpaabjaa.MatB
def longOf (cols : List S87) : Nat := 128 * (rd_T87 cols 0).f2.toNat
def quicksetref_StripeLay.f (k : Nat) (a0 a1 a2 : Int) (l : List Int) : Option (List (List Int) × Int) :=
  if 1 ≤ l.length ∧ l.length ≤ 4096 then (quicksetref_GeomColumns.f k a0 a1 a2 (((l.length + 127) / 128 : Nat) : Int)).bind fun s => if s.2 = 0 then (if 0 ≤ a1 ∧ okLay s.1 a1.toNat (longOf s.1) l.length then (quicksetref_ParEncode.f k ((layRows s.1 a1.toNat l.length l).map (fillRow (longOf s.1))) a1).bind fun pe =>
    (if pe.1.length ≤ 64 then some (pe.1 ++ layRows s.1 a1.toNat l.length l, 0) else none) else none) else some ([], s.2) else some ([], 1)
theorem take_next (own : List (List Int)) (i : Nat) (x : List Int) (hx : own[i]? = some x) : own.take i ++ [x] = own.take (i + 1) := by
  obtain ⟨hlt, e⟩ := List.getElem?_eq_some_iff.1 hx
  rw [List.take_succ_eq_append_getElem hlt, e]
theorem arith_pad (cnt0 cnt sz long : Nat) (h1 : sz = 128 * cnt) (h2 : long = 128 * cnt0) (h3 : sz ≤ long) (h4 : long ≤ 8192) : wrap64 ((cnt0 : Int) - (cnt : Int)) = ((cnt0 - cnt : Nat) : Int) ∧ wrap64 (128 * ((cnt0 - cnt : Nat) : Int)) = ((long - sz : Nat) : Int) := by
  constructor
  · unfold wrap64; omega
  · unfold wrap64; omega
theorem part_is (g o n s : Nat) (c : Nat) (h : o < c) : (if c = ((o : Nat) : Int).toNat then (some ⟨g, 0, none⟩ : Option Addr) else (some ⟨g, 0, none⟩ : Option Addr).map (·.add (((o : Nat) : Int).toNat * n))) = some ⟨g, o * n, none⟩ := by
  rw [Int.toNat_natCast, if_neg (by omega)]
  exact congrArg some ((add_at g 0 (o * n)).trans (by rw [Nat.zero_add]))
theorem col_at {w0 W : World} {l : List Asn} {g n cc : Nat} {cols : List S87} (h : SL w0 W l) (k : Nat) (hk : l[k]? = some (rowA k87 87 (.slice (some ⟨g, 0, none⟩) n cc) cols)) (p i : Nat) (hi : p + i < cols.length) :
    W.cell? ⟨g, p * 4 + i * 4, none⟩ = some (.int .i64 (rd_T87 cols ((p + i : Nat) : Int)).f0) ∧ W.cell? ⟨g, p * 4 + i * 4 + 1, none⟩ = some (.int .i64 (rd_T87 cols ((p + i : Nat) : Int)).f1) ∧ W.cell? ⟨g, p * 4 + i * 4 + 2, none⟩ = some (.int .i64 (rd_T87 cols ((p + i : Nat) : Int)).f2) ∧ W.cell? ⟨g, p * 4 + i * 4 + 3, none⟩ = some (.bool (rd_T87 cols ((p + i : Nat) : Int)).f3) := by
  obtain ⟨ad, e, h0, h1, h2, h3⟩ := at_T87 (h.C k hk) ((p + i : Nat) : Int) (Int.natCast_nonneg _) (by omega)
  injection e with e
  subst e
  have e2 : (⟨g, 0, none⟩ : Addr).add ((((p + i : Nat) : Int)).toNat * 4) = ⟨g, p * 4 + i * 4, none⟩ := by rw [Int.toNat_natCast]; exact (add_at g 0 _).trans (by rw [Nat.zero_add, Nat.add_mul])
  rw [e2] at h0 h1 h2 h3
  exact ⟨h0, h1, h2, h3⟩
set_option maxHeartbeats 4000000 in
set_option maxRecDepth 100000 in
theorem quicksetref_StripeLay.calls (k : Nat) (a0 a1 a2 : Int) (A0 : Option Addr) (c0 : Nat) (l0 : List Int) (r1 : List (List Int)) (r2 : Int) (w : World) (hr0 : Kd.C (Kd.int .u8) w A0 l0.length l0) (hc0 : l0.length ≤ c0) (h : quicksetref_StripeLay.f k a0 a1 a2 l0 = some (r1, r2)) :
    Calls Try.prog 31 #[.int .i64 a0, .int .i64 a1, .int .i64 a2, .slice A0 l0.length c0] w fun e w' => ∃ v0_ : Value, e = .returned (.tuple #[v0_, .int .i64 r2]) ∧ Kd.R (Kd.slice 5 (Kd.int .u8)) 45 w' w.heap.size (fun _ => True) v0_ r1 ∧ Below w.heap.size w w' := by
  have HC := Aside0.mk hr0
  have HS := Aside0.mk (SL.start w)
  unfold quicksetref_StripeLay.f at h
  by_cases hlen : 1 ≤ l0.length ∧ l0.length ≤ 4096
  · rw [if_pos hlen] at h
    obtain ⟨⟨cols, code⟩, hgc, h⟩ := Option.bind_eq_some_iff.mp h
    replace h : (if code = 0 then (if 0 ≤ a1 ∧ okLay cols a1.toNat (longOf cols) l0.length then (quicksetref_ParEncode.f k ((layRows cols a1.toNat l0.length l0).map (fillRow (longOf cols))) a1).bind fun pe =>
      (if pe.1.length ≤ 64 then some (pe.1 ++ layRows cols a1.toNat l0.length l0, (0 : Int)) else none) else none) else some (([] : List (List Int)), code)) = some (r1, r2) := h
    obtain ⟨N, hN⟩ : ∃ N, N = (l0.length + 127) / 128 := ⟨_, rfl⟩
    rw [← hN] at hgc
    have HGC := Aside0.mk (fun (W : World) => quicksetref_GeomColumns.calls k a0 a1 a2 (N : Int) cols code W hgc)
    have HN := Aside0.mk hN
    obtain ⟨hl1, hl4⟩ := hlen
    have HL1 := Aside0.mk hl1
    have HL4 := Aside0.mk hl4
    obtain ⟨len, hlen⟩ : ∃ len, len = l0.length := ⟨_, rfl⟩
    have HLEN := Aside0.mk hlen
    have q1_ : decide ((len : Int) < 1) = false := decide_eq_false (by omega)
    have q2_ : decide (len < 1) = false := decide_eq_false (by omega)
    have q3_ : decide ((len : Int) > 4096) = false := decide_eq_false (by omega)
    have q4_ : decide (len > 4096) = false := decide_eq_false (by omega)
    have q5_ : decide (4096 < len) = false := decide_eq_false (by omega)
    have hN1 : 1 ≤ N := by omega
    have HN1 := Aside0.mk hN1
    have HNB := Aside0.mk (show N ≤ 32 by omega)
    clear hl1 hl4 hgc hc0 hr0
    go_enter Try.func31, Try.ntmps31
    rw [← hlen]
    clear hlen hN
    go_upto_region 4 with (fail)
    clear q1_ q2_ q3_ q4_ q5_
    go_loopg [10] (N - 1) (fun kq v10 wr => ∃ c : Nat, v10 = .int .i64 (c : Int) ∧ c + kq = N ∧ Aside0 (SL w wr []))
    case atStart => exact ⟨1, rfl, by omega, HS⟩
    case round =>
      clear HS
      obtain ⟨c, rfl, hck, HS⟩ := hrel
      cases gk with
      | succ g1 =>
        have hcN : c < 32 := by have := HNB.out; omega
        obtain ⟨c2, hc2⟩ : ∃ c2, c2 = 128 * c := ⟨_, rfl⟩
        have hwm : wrap64 ((c : Int) * 128) = (c2 : Int) := by rw [hc2]; unfold wrap64; omega
        have hit : decide ((c2 : Int) < (len : Int)) = true := decide_eq_true (by have := HN.out; have := HLEN.out; omega)
        have hit2 : decide (c2 < len) = true := decide_eq_true (by have := HN.out; have := HLEN.out; omega)
        have hwc := Aside0.mk (show wrap64 ((c : Int) + 1) = ((c + 1 : Nat) : Int) by unfold wrap64; omega)
        have HCK : Aside0 (c + 1 + g1 = N) := ⟨by omega⟩
        clear hck hc2 hcN hN1
        go_wp2_with (fail)
        go_roundg g1
        case measure => exact Nat.lt_succ_self _
        case rel => exact ⟨c + 1, congrArg (Value.int .i64) hwc.out, HCK.out, HS⟩
      | zero =>
        have hcN : c = N := by omega
        subst hcN
        clear hck
        obtain ⟨c2, hc2⟩ : ∃ c2, c2 = 128 * c := ⟨_, rfl⟩
        have hwm : wrap64 ((c : Int) * 128) = (c2 : Int) := by have := HNB.out; rw [hc2]; unfold wrap64; omega
        have hit : decide ((c2 : Int) < (len : Int)) = false := decide_eq_false (by have := HN.out; have := HLEN.out; omega)
        have hit2 : decide (c2 < len) = false := decide_eq_false (by have := HN.out; have := HLEN.out; omega)
        have HC2 := Aside0.mk hc2
        clear hc2 hN1
        by_cases hcode : code = 0
        · rw [if_pos hcode] at h
          subst hcode
          have hne0 : ((0 : Int) != 0) = false := rfl
          by_cases hg : 0 ≤ a1 ∧ okLay cols a1.toNat (longOf cols) l0.length
          · rw [if_pos hg] at h
            obtain ⟨⟨ps, pcode⟩, hpe, h⟩ := Option.bind_eq_some_iff.mp h
            replace h : (if ps.length ≤ 64 then some (ps ++ layRows cols a1.toNat l0.length l0, (0 : Int)) else none) = some (r1, r2) := h
            by_cases hp64 : ps.length ≤ 64
            · rw [if_pos hp64] at h
              replace h := Option.some.inj h
              simp only [Prod.mk.injEq] at h
              obtain ⟨rfl, rfl⟩ := h
              obtain ⟨hp0, hok⟩ := hg
              obtain ⟨p, rfl⟩ := Int.eq_ofNat_of_zero_le hp0
              simp only [Int.ofNat_eq_natCast, Int.toNat_natCast] at hok hpe HGC ⊢
              obtain ⟨hpn, hn0, hn64, hl1, hl4, hlg1, hlg2, hcol, hcnt, hsum⟩ := hok
              have HPE := Aside0.mk hpe
              have HP64 := Aside0.mk hp64
              have HCOL := Aside0.mk hcol
              have HCNT := Aside0.mk hcnt
              have HSUM := Aside0.mk (hsum.trans HN.out.symm)
              have hpn2 : p < cols.length := by
                rcases Nat.lt_or_ge p cols.length with h1 | h1
                · exact h1
                · have h2 : counts cols p = [] := by unfold counts; rw [List.drop_eq_nil_of_le h1]; rfl
                  rw [h2] at hsum
                  have : sum [] = 0 := rfl
                  omega
              have HPN := Aside0.mk hpn2
              have HN64 := Aside0.mk hn64
              have HN0 := Aside0.mk hn0
              obtain ⟨long, hlong⟩ : ∃ long, long = longOf cols := ⟨_, rfl⟩
              rw [← hlong] at HPE hlg1 hlg2 HCNT
              have HLO := Aside0.mk hlong
              have HLG1 := Aside0.mk hlg1
              have HLG2 := Aside0.mk hlg2
              clear hp0 hpe hp64 hcol hcnt hsum hpn hpn2 hn64 hn0 hlg1 hlg2 hl1 hl4 hlong
              go_upto_region 7 with (go_at_call 68; (with_reducible refine (HGC.out _).mono ?_); rintro e w1 ⟨vc, rfl, hR_, hb_⟩; have HS2 := Aside0.mk (SL.newRow HS.out hb_ hR_); clear HS hR_ hb_; obtain ⟨gc, cc, e1_⟩ := HS2.out.form 0 rfl HN0.out; subst e1_)
              have HS := HS2
              clear HS2 hit hit2 HGC
              obtain ⟨nz, hnz⟩ : ∃ nz, nz = c2 - len := ⟨_, rfl⟩
              have hcl : len ≤ c2 := by have := HC2.out; have := HN.out; have := HLEN.out; omega
              have hwz : wrap64 ((c2 : Int) - (len : Int)) = (nz : Int) := by have := HC2.out; have := HNB.out; rw [hnz]; unfold wrap64; omega
              have HCL : Aside0 (Kd.C (Kd.int .u8) w A0 len l0) := ⟨by rw [HLEN.out]; exact HC.out⟩
              have HLL : Aside0 (len * 1 ≤ 140737488355328) := ⟨by have := HLEN.out; have := HL4.out; omega⟩
              have HLZ : Aside0 ((l0.length + nz) * 1 ≤ 140737488355328) := ⟨by have := HLEN.out; have := HL4.out; have := HC2.out; have := HNB.out; omega⟩
              have HNZ := Aside0.mk hnz
              have hc2p : 0 < c2 := by have := HC2.out; have := HN1.out; omega
              have HC2P := Aside0.mk hc2p
              obtain ⟨full, hfull⟩ : ∃ full, full = fullOf l0 c := ⟨_, rfl⟩
              have HFU : Aside0 (l0 ++ List.replicate nz 0 = full) := ⟨by rw [hfull, fullOf, hnz, HC2.out, HLEN.out]⟩
              have HFN : Aside0 (full.length = c2) := ⟨by rw [← HFU.out, List.length_append, List.length_replicate]; have := HLEN.out; omega⟩
              obtain ⟨own, hown⟩ : ∃ own, own = layRows cols p l0.length l0 := ⟨_, rfl⟩
              have hown2 : own = cutRows (counts cols p) full := by rw [hown, layRows, ← HN.out, hfull]
              have HOWN := Aside0.mk hown2
              rw [← hown] at HPE
              have HOWN0 := Aside0.mk hown
              have HOL : Aside0 (own.length = cols.length - p) := ⟨by rw [hown2, cut_len, counts_len]⟩
              clear hnz hcl hc2p hfull hown hown2
              go_upto_region 10 with (first | ((with_reducible refine gate_builtin (b := .append) (xs := #[.tmp 48, .tmp 49]) rfl ?_); at_builtin; (with_reducible apply append_new (kk := .u8) (s := .tmp 48) (x := .tmp 49) (t := 45) (e := 5) (ys := l0) (A := A0) (m := len) (c := c0)); (case hSL => exact HS.out); (case hgd => exact rfl); (case ho => exact rfl); (case ht => exact Try.underlying45); (case hinfo => exact infoU); (case hz => exact rfl); (case hb0 => exact Nat.succ_pos 0); (case hC => exact Kd.C_below HCL.out HS.out.below); (case hs => exact rfl); (case hx => exact rfl); (case hl => exact HLL.out); intro v1_ w1_ hs_; have n1_ := Aside0.mk hs_; clear HS hs_; have HS := n1_; clear n1_) | ((with_reducible refine gate_builtin (b := .append) (xs := #[.tmp 50, .tmp 55]) rfl ?_); at_builtin; rw [hwm, hwz]; (with_reducible apply append_noughts (kk := .u8) (s := .tmp 50) (x := .tmp 55) (t := 45) (ti := 3) (e := 5) (n := nz)); (case hSL => exact HS.out); (case hgd => exact rfl); (case ho => exact rfl); (case ht => exact Try.underlying45); (case hti => exact Try.underlying3); (case hinfo => exact infoU); (case hb0 => exact Nat.succ_pos 0); (case hs => exact rfl); (case hx => exact rfl); (case hl => exact HLZ.out); intro v2_ w2_ hs_; have n1_ := Aside0.mk hs_; clear HS hs_; have HS := n1_; clear n1_; rw [HFU.out] at HS; obtain ⟨gr, cr, e1_⟩ := HS.out.form 0 rfl (by rw [HFN.out]; exact HC2P.out); rw [HFN.out] at e1_; subst e1_))
              clear hwm hwz
              obtain ⟨ic, hic, hz0, hz1, hz2⟩ := info_parts info87
              have hccn := (Kd.R_reads' (HS.out.row 1 rfl)).2.1
              have hcutC := fun (W : World) => cut_from (P := Try.prog) 79 87 .i64 Try.underlying79 hic 4 hz1 (some ⟨gc, 0, none⟩) cols.length cc (p : Int) (Int.natCast_nonneg _) (by have := HPN.out; omega) W
              rw [part_is gc p 4 0 cc (by have := HPN.out; omega), Int.toNat_natCast] at hcutC
              clear hic hz0 hz1 hz2 hccn hne0
              obtain ⟨m, hm⟩ : ∃ m, m = cols.length - p := ⟨_, rfl⟩
              rw [← hm] at hcutC HOL
              have HM := Aside0.mk hm
              clear hm
              have HS := Aside0.mk (sA_nil (sA_nil HS.out (Kd.slice 5 (Kd.int .u8)) 45) (Kd.slice 5 (Kd.int .u8)) 45)
              go_upto_region 14 with (fail)
              clear hcutC
              go_loopg [14, 15, 16, 61] m (fun kq v14 v15 v16 v61 wr => ∃ (i o : Nat), v16 = .int .i64 (o : Int) ∧ v61 = .int .i64 (i : Int) ∧ i + kq = m ∧ Aside0 (o = 128 * sum ((counts cols p).take i)) ∧ Aside0 (SL w wr [sA (Kd.slice 5 (Kd.int .u8)) 45 v14 (own.take i), sA (Kd.slice 5 (Kd.int .u8)) 45 v15 ((own.take i).map (fillRow long)), rowA (Kd.int .u8) 5 (.slice (some ⟨gr, 0, none⟩) c2 cr) full, rowA k87 87 (.slice (some ⟨gc, 0, none⟩) cols.length cc) cols]))
              case atStart => exact ⟨0, 0, rfl, rfl, by omega, ⟨by rw [List.take_zero]; rfl⟩, by rw [List.take_zero]; exact HS⟩
              case round =>
                clear HS
                obtain ⟨i, o, rfl, rfl, hik, HO, HS⟩ := hrel
                cases gk with
                | zero =>
                  have him : i = m := by omega
                  have HIM := Aside0.mk him
                  have hit : decide ((i : Int) < (m : Int)) = false := decide_eq_false (by omega)
                  have hit2 : decide (i < m) = false := decide_eq_false (by omega)
                  clear hik him
                  have hown_ : own.take i = own := List.take_of_length_le (by have := HOL.out; have := HIM.out; omega)
                  have hs3 := HS.out
                  rw [hown_] at hs3
                  obtain ⟨wh, hwh⟩ : ∃ wh, wh = own.map (fillRow long) := ⟨_, rfl⟩
                  rw [← hwh] at hs3 HPE
                  have HS := Aside0.mk hs3
                  clear hs3 hown_ hwh
                  obtain ⟨Aw, cw, ew⟩ := sA_slice HS.out 1 rfl
                  subst ew
                  obtain ⟨Ao, co, eo⟩ := sA_slice HS.out 0 rfl
                  subst eo
                  have hcw := (Kd.R_reads' (sA_row HS.out 1 rfl)).2.1
                  have HPC := Aside0.mk (fun (W : World) (hC : Kd.C (Kd.slice 5 (Kd.int .u8)) W Aw wh.length wh) => quicksetref_ParEncode.calls k Aw cw wh (p : Int) ps pcode W hC hcw HPE.out)
                  clear hcw
                  go_upto_region 22 with (go_at_call 25; (with_reducible refine (HPC.out _ ?hC_).mono ?_); (case hC_ => exact (Kd.R_reads' (sA_row HS.out 1 rfl)).2.2); rintro e w5 ⟨vp, rfl, hS_, hb_⟩; have HNP := Aside0.mk (SL.new (A := sA (Kd.slice 5 (Kd.int .u8)) 45 vp ps) (S := fun _ => True) HS.out hb_ hS_); clear HS hS_ hb_)
                  have HQ : Aside0 (SL w w5 [rowA (Kd.slice 5 (Kd.int .u8)) 45 vp ps, rowA (Kd.slice 5 (Kd.int .u8)) 45 (.slice Ao own.length co) own]) := by
                    have h1_ := HNP.out.imp (A' := rowA (Kd.slice 5 (Kd.int .u8)) 45 vp ps) 0 rfl (fun S hA => Kd.S_R hA)
                    have h2_ := h1_.imp (A' := rowA (Kd.slice 5 (Kd.int .u8)) 45 (.slice Ao own.length co) own) 1 rfl (fun S hA => Kd.S_R hA)
                    have h3_ : SL w w5 [rowA (Kd.slice 5 (Kd.int .u8)) 45 vp ps, rowA (Kd.slice 5 (Kd.int .u8)) 45 (.slice Ao own.length co) own, sA (Kd.slice 5 (Kd.int .u8)) 45 (.slice Aw wh.length cw) wh, rowA (Kd.int .u8) 5 (.slice (some ⟨gr, 0, none⟩) c2 cr) full, rowA k87 87 (.slice (some ⟨gc, 0, none⟩) cols.length cc) cols] := h2_
                    exact ⟨(Sep.SL.front (Sep.SL.front (Sep.SL.drop (Sep.SL.front (Sep.SL.drop (Sep.SL.front (Sep.SL.drop (Sep.SL.front h3_ 4 rfl)) 3 rfl)) 2 rfl)) 1 rfl) 1 rfl)⟩
                  clear HNP hit hit2
                  have HLL2 : Aside0 ((ps.length + own.length) * 24 ≤ 140737488355328) := ⟨by have := HP64.out; have := HOL.out; have := HM.out; have := HN64.out; omega⟩
                  go_wp2_with ((with_reducible refine gate_builtin (b := .append) (xs := #[.tmp 106, .tmp 107]) rfl ?_); at_builtin; (with_reducible apply Sep.append_rows (d := Kd.slice 5 (Kd.int .u8)) (s := .tmp 106) (x := .tmp 107) (t := 38) (e := 45)); (case hSL => exact HQ.out); (case hgd => exact rfl); (case ho => exact rfl); (case ht => exact Try.underlying38); (case hinfo => exact infoB1); (case hz => exact rfl); (case hs0 => decide); (case hb0 => exact Nat.succ_pos 23); (case hs => exact rfl); (case hx => exact rfl); (case hl => exact HLL2.out); intro v6_ w6_ hs_; have HF := Aside0.mk hs_; clear HQ hs_)
                  go_ret2
                  exact ⟨_, rfl, by have h_ := HF.out.row 0 rfl; rw [HOWN0.out] at h_; exact h_, HF.out.below⟩
                | succ g1 =>
                  have him : i < m := by omega
                  have HIK : Aside0 (i + 1 + g1 = m) := ⟨by omega⟩
                  clear hik
                  have hic : p + i < cols.length := by have := HM.out; omega
                  have hcl : i < (counts cols p).length := by rw [counts_len]; omega
                  obtain ⟨cnt, hcnt⟩ : ∃ cnt, cnt = (counts cols p).getD i 0 := ⟨_, rfl⟩
                  have hcp := HCNT.out _ (counts_mem cols p i hic)
                  rw [← hcnt] at hcp
                  have hsu := sum_take_succ (counts cols p) i hcl
                  have hsl := sum_take_le (counts cols p) (i + 1)
                  rw [hsu, ← hcnt, HSUM.out] at hsl
                  rw [← hcnt] at hsu
                  obtain ⟨sz, hsz⟩ : ∃ sz, sz = 128 * cnt := ⟨_, rfl⟩
                  obtain ⟨o2, ho2⟩ : ∃ o2, o2 = o + sz := ⟨_, rfl⟩
                  have hsz0 : 0 < sz := by omega
                  have hszl : sz ≤ long := by omega
                  have hoz : o + sz ≤ c2 := by have := HC2.out; have := HO.out; omega
                  have HO2 : Aside0 (o2 = 128 * sum ((counts cols p).take (i + 1))) := ⟨by rw [ho2, hsu, Nat.mul_add, ← HO.out, hsz]⟩
                  obtain ⟨x, hx⟩ : ∃ x, x = (full.drop o).take sz := ⟨_, rfl⟩
                  have hox : own[i]? = some x := by rw [HOWN.out, cut_get _ _ _ hcl, ← hcnt, ← HO.out, ← hsz, ← hx]
                  have hxl : x.length = sz := by rw [hx, List.length_take, List.length_drop, HFN.out]; omega
                  have hcr := (Kd.R_reads' (HS.out.row 2 rfl)).2.1
                  have hcr : c2 ≤ cr := by have := HFN.out; omega
                  have hcm := HCOL.out _ (col_mem cols (p + i) hic)
                  have hf2 : (rd_T87 cols ((p + i : Nat) : Int)).f2 = (cnt : Int) := by have := counts_get cols p i hic; omega
                  obtain ⟨hy0, hy1, hy2, hy3⟩ := col_at HS.out 3 rfl p i hic
                  rw [hf2] at hy2
                  generalize (rd_T87 cols ((p + i : Nat) : Int)).f0 = y0 at hy0
                  generalize (rd_T87 cols ((p + i : Nat) : Int)).f1 = y1 at hy1
                  generalize (rd_T87 cols ((p + i : Nat) : Int)).f3 = y3 at hy3
                  have HP := Aside0.mk (fun (W : World) (hC : Kd.C (Kd.int .u8) W (some ⟨gr, 0, none⟩) full.length full) => C_part (o := o) (s := sz) hC (by rw [HFN.out]; exact hoz) hsz0)
                  rw [← hx] at HP
                  obtain ⟨ib, hib, hz0, hz1, hz2⟩ := info_parts infoU
                  have hmid := fun (W : World) => cut_mid (P := Try.prog) 45 5 .i64 .i64 Try.underlying45 hib 1 hz1 (some ⟨gr, 0, none⟩) c2 cr (o : Int) (o2 : Int) (Int.natCast_nonneg _) (by omega) (by omega) hcr W
                  rw [part_is gr o 1 0 cr (by omega), Int.toNat_natCast, Int.toNat_natCast, Nat.mul_one, show o2 - o = sz from by omega] at hmid
                  have hw1 : wrap64 (128 * (cnt : Int)) = (sz : Int) := by have := HLG2.out; rw [hsz]; unfold wrap64; omega
                  have hw2 : wrap64 ((o : Int) + (sz : Int)) = (o2 : Int) := by have := HC2.out; have := HNB.out; rw [ho2]; unfold wrap64; omega
                  have HW1 := Aside0.mk hw1
                  have HW2 := Aside0.mk hw2
                  have hwi : wrap64 ((i : Int) + 1) = ((i + 1 : Nat) : Int) := by have := HN64.out; unfold wrap64; omega
                  have HWI := Aside0.mk hwi
                  have HSC := Aside0.mk hsz
                  have HXL := Aside0.mk hxl
                  have HOX := Aside0.mk hox
                  have HSZL := Aside0.mk hszl
                  have HIM := Aside0.mk him
                  have hit : decide ((i : Int) < (m : Int)) = true := decide_eq_true (Int.ofNat_lt.2 him)
                  have hit2 : decide (i < m) = true := decide_eq_true him
                  have hb0_ : ((0 : Int) ≤ (i : Int)) = True := eq_true (Int.natCast_nonneg i)
                  have hb1_ : ((i : Int) < (m : Int)) = True := eq_true (Int.ofNat_lt.2 him)
                  have hb2_ : (i < m) = True := eq_true him
                  clear hic hcl hcnt hcp hsu hsl hsz ho2 hsz0 hszl hoz hx hox hxl hcr hcm hf2 hib hz0 hz1 hz2 hwi him
                  have hu := Try.underlying87
                  go_upto_region 16 with (fail)
                  clear hit hit2 hb0_ hb1_ hb2_ hy0 hy1 hy2 hy3
                  have HS := Aside0.mk (HS.out.allocBlk #[.int .i64 y0, .int .i64 y1, .int .i64 (cnt : Int), .bool y3] 87)
                  generalize wr.heap.size = gx at HS ⊢
                  generalize World.alloc _ _ = w3 at HS ⊢
                  obtain ⟨hz, hzf, hzl⟩ := HS.out.c2 0 rfl
                  go_upto_region 18 with (fail)
                  rw [hw2]
                  clear hw1 hw2 hz hzf hzl hmid
                  have HSB : Aside0 (sz * 1 ≤ 140737488355328) := ⟨by have := HSZL.out; have := HLG2.out; omega⟩
                  have HIB : Aside0 (((own.take i).length + 1) * 24 ≤ 140737488355328) := ⟨by rw [List.length_take]; have := HOL.out; have := HM.out; have := HN64.out; omega⟩
                  go_upto_region 19 with (first | ((with_reducible refine gate_builtin (b := .append) (xs := #[.tmp 79, .tmp 80]) rfl ?_); at_builtin; (with_reducible apply append_new (kk := .u8) (s := .tmp 79) (x := .tmp 80) (t := 45) (e := 5) (ys := x) (A := some ⟨gr, o, none⟩) (m := sz) (c := cr - o)); (case hSL => exact HS.out); (case hgd => exact rfl); (case ho => exact rfl); (case ht => exact Try.underlying45); (case hinfo => exact infoU); (case hz => exact rfl); (case hb0 => exact Nat.succ_pos 0); (case hC => exact HP.out _ (HS.out.C 3 rfl)); (case hs => exact rfl); (case hx => exact rfl); (case hl => exact HSB.out); intro v1_ w1_ hs_; have n1_ := Aside0.mk hs_; clear HS hs_; have HS := n1_; clear n1_; obtain ⟨Ax, cx, e1_⟩ := Sep.SL.slice HS.out 0 rfl; subst e1_) | ((with_reducible refine gate_builtin (b := .append) (xs := #[.tmp 78, .tmp 82]) rfl ?_); at_builtin; (with_reducible apply MatB.append_srow (d := Kd.int .u8) (e' := 5) (t := 38) (e := 45) (s := .tmp 78) (x := .tmp 82) (p := x)); (case hSL => exact HS.out.front 2 rfl); (case hgd => exact rfl); (case ho => exact rfl); (case ht => exact Try.underlying38); (case hinfo => exact infoB1); (case hz => exact rfl); (case hb0 => exact Nat.succ_pos 23); (case hs => exact rfl); (case hx => exact rfl); (case hl => exact HIB.out); intro v2_ w2_ hs_; have n1_ := Aside0.mk hs_; clear HS hs_; have HS := n1_; clear n1_))
                  have htk : own.take i ++ [x] = own.take (i + 1) := take_next own i x HOX.out
                  have hsf := HS.out
                  rw [htk] at hsf
                  have HSF : Aside0 (SL w w2_ [sA (Kd.slice 5 (Kd.int .u8)) 45 v2_ (own.take (i + 1)), blkA gx #[.int .i64 y0, .int .i64 y1, .int .i64 (cnt : Int), .bool y3] 87, sA (Kd.slice 5 (Kd.int .u8)) 45 u15 ((own.take i).map (fillRow long)), rowA (Kd.int .u8) 5 (.slice (some ⟨gr, 0, none⟩) c2 cr) full, rowA k87 87 (.slice (some ⟨gc, 0, none⟩) cols.length cc) cols]) := ⟨hsf⟩
                  clear HS hsf htk
                  obtain ⟨cnt0, hcnt0⟩ : ∃ cnt0, cnt0 = (rd_T87 cols ((0 + 0 : Nat) : Int)).f2.toNat := ⟨_, rfl⟩
                  have hf0 : (rd_T87 cols ((0 + 0 : Nat) : Int)).f2 = (cnt0 : Int) := by rw [hcnt0]; exact (Int.toNat_of_nonneg (HCOL.out _ (col_mem cols (0 + 0) HN0.out)).1).symm
                  have hlo : long = 128 * cnt0 := by rw [HLO.out, longOf, hcnt0]; rfl
                  have HC0 := Aside0.mk (fun (W : World) (hS : SL w W [blkA gx #[.int .i64 y0, .int .i64 y1, .int .i64 (cnt : Int), .bool y3] 87, rowA (Kd.int .u8) 5 (.slice (some ⟨gr, 0, none⟩) c2 cr) full, rowA k87 87 (.slice (some ⟨gc, 0, none⟩) cols.length cc) cols]) => (col_at hS 2 rfl 0 0 HN0.out).2.2.1)
                  rw [hf0] at HC0
                  obtain ⟨dd, hdd⟩ : ∃ dd, dd = cnt0 - cnt := ⟨_, rfl⟩
                  obtain ⟨nz2, hnz2⟩ : ∃ nz2, nz2 = long - sz := ⟨_, rfl⟩
                  obtain ⟨hw3, hw4⟩ := arith_pad cnt0 cnt sz long HSC.out hlo HSZL.out HLG2.out
                  rw [← hdd] at hw3 hw4
                  rw [← hnz2] at hw4
                  have HFR : Aside0 (x ++ List.replicate nz2 0 = fillRow long x) := ⟨by rw [fillRow, HXL.out, hnz2]⟩
                  have HZB : Aside0 ((x.length + nz2) * 1 ≤ 140737488355328) := ⟨by rw [HXL.out, hnz2, Nat.mul_one, Nat.add_sub_cancel' HSZL.out]; exact Nat.le_trans HLG2.out (by decide)⟩
                  have HIB2 : Aside0 ((((own.take i).map (fillRow long)).length + 1) * 24 ≤ 140737488355328) := ⟨by rw [List.length_map]; exact HIB.out⟩
                  clear hcnt0 hf0 hlo hdd hnz2
                  have q0_ : decide ((0 : Int) < (cols.length : Int)) = true := decide_eq_true (Int.ofNat_lt.2 HN0.out)
                  have q1_ : ((0 : Int) < (cols.length : Int)) = True := eq_true (Int.ofNat_lt.2 HN0.out)
                  have q2_ : (0 < cols.length) = True := eq_true HN0.out
                  (refine start_ (n := 16) (S := (fun w_ => SL w w_ [blkA gx #[.int .i64 y0, .int .i64 y1, .int .i64 (cnt : Int), .bool y3] 87, rowA (Kd.int .u8) 5 (.slice (some ⟨gr, 0, none⟩) c2 cr) full, rowA k87 87 (.slice (some ⟨gc, 0, none⟩) cols.length cc) cols])) (ds := [14]) #[false, false, false, false, false, false, false, false, false, false, false, false, false, false, false, false] (by kernel_rfl) rfl rfl (Sep.SL.front (Sep.SL.front (Sep.SL.front (Sep.SL.drop (Sep.SL.front (Sep.SL.drop (Sep.SL.front HSF.out.drew 2 rfl)) 0 rfl)) 2 rfl) 2 rfl) 2 rfl) (fun hHeld => ?_); have HS := Aside0.mk hHeld; clear hHeld; have HSG := Aside0.mk HSF.out.drew; clear HSF; have HSF := HSG; clear HSG; generalize World.drew _ = wr_ at HS HSF ⊢)
                  (refine pure_ (i := 0) (N := some 84) (v := ?_) (a' := ?_) #[true, false, false, false, false, false, false, false, false, false, false, false, false, false, false, false] rfl rfl (by kernel_rfl) (fun _ _ _ h => h) (Or.inl ⟨by rfl, ?_⟩) ?_ ?_; rotate_left; (intro w_; go_simp; with_reducible rfl); rotate_left; (simp only [Act.put, List.setIfInBounds_toArray, List.set_cons_zero, List.set_cons_succ, i64_w, i32_w]; rfl))
                  (refine pure_ (i := 2) (N := some 86) (v := ?_) (a' := ?_) #[true, false, true, false, false, false, false, false, false, false, false, false, false, false, false, false] rfl rfl (by kernel_rfl) (fun _ _ _ h => h) (Or.inl ⟨by rfl, ?_⟩) ?_ ?_; rotate_left; (intro w_; go_simp; with_reducible rfl); rotate_left; (simp only [Act.put, List.setIfInBounds_toArray, List.set_cons_zero, List.set_cons_succ, i64_w, i32_w]; rfl))
                  (refine pure_ (i := 4) (N := some 88) (v := ?_) (a' := ?_) #[true, false, true, false, true, false, false, false, false, false, false, false, false, false, false, false] rfl rfl (by kernel_rfl) (fun _ _ _ h => h) (Or.inl ⟨by rfl, ?_⟩) ?_ ?_; rotate_left; (intro w_; go_simp; with_reducible rfl); rotate_left; (simp only [Act.put, List.setIfInBounds_toArray, List.set_cons_zero, List.set_cons_succ, i64_w, i32_w]; rfl))
                  (refine pure_ (i := 5) (N := some 89) (v := ?_) (a' := ?_) #[true, false, true, false, true, true, false, false, false, false, false, false, false, false, false, false] rfl rfl (by kernel_rfl) (fun _ _ _ h => h) (Or.inl ⟨by rfl, ?_⟩) ?_ ?_; rotate_left; (intro w_; go_simp; with_reducible rfl); rotate_left; (simp only [Act.put, List.setIfInBounds_toArray, List.set_cons_zero, List.set_cons_succ, i64_w, i32_w]; rfl))
                  (refine pure_ (i := 6) (N := some 90) (v := ?_) (a' := ?_) #[true, false, true, false, true, true, true, false, false, false, false, false, false, false, false, false] rfl rfl (by kernel_rfl) (fun _ _ _ h => h) (Or.inl ⟨by rfl, ?_⟩) ?_ ?_; rotate_left; (intro w_; go_simp; with_reducible rfl); rotate_left; (simp only [Act.put, List.setIfInBounds_toArray, List.set_cons_zero, List.set_cons_succ, i64_w, i32_w]; rfl))
                  (refine take_ (i := 7) (N := some 91) (v := (.int .i64 (cnt0 : Int))) (a' := ?_) #[true, false, true, false, true, true, true, true, false, false, false, false, false, false, false, false] rfl rfl (by kernel_rfl) (fun _ _ _ h => h) (Or.inl ⟨by rfl, ?_⟩) HS.out ?_ ?_; (intro w_ hS_; (have hx_ := HC0.out _ hS_; go_simp)); rotate_left; (simp only [Act.put, List.setIfInBounds_toArray, List.set_cons_zero, List.set_cons_succ, i64_w, i32_w]; rfl))
                  (refine pure_ (i := 8) (N := some 92) (v := ?_) (a' := ?_) #[true, false, true, false, true, true, true, true, true, false, false, false, false, false, false, false] rfl rfl (by kernel_rfl) (fun _ _ _ h => h) (Or.inl ⟨by rfl, ?_⟩) ?_ ?_; rotate_left; (intro w_; go_simp; with_reducible rfl); rotate_left; (simp only [Act.put, List.setIfInBounds_toArray, List.set_cons_zero, List.set_cons_succ, i64_w, i32_w]; rfl))
                  (refine take_ (i := 9) (N := some 93) (v := (.int .i64 (cnt : Int))) (a' := ?_) #[true, false, true, false, true, true, true, true, true, true, false, false, false, false, false, false] rfl rfl (by kernel_rfl) (fun _ _ _ h => h) (Or.inl ⟨by rfl, ?_⟩) HS.out ?_ ?_; (intro w_ hS_; (obtain ⟨hx_, _, _⟩ := Sep.SL.c2 hS_ 0 rfl; go_simp)); rotate_left; (simp only [Act.put, List.setIfInBounds_toArray, List.set_cons_zero, List.set_cons_succ, i64_w, i32_w]; rfl))
                  (refine pure_ (i := 10) (N := some 94) (v := ?_) (a' := ?_) #[true, false, true, false, true, true, true, true, true, true, true, false, false, false, false, false] rfl rfl (by kernel_rfl) (fun _ _ _ h => h) (Or.inl ⟨by rfl, ?_⟩) ?_ ?_; rotate_left; (intro w_; go_simp; with_reducible rfl); rotate_left; (simp only [Act.put, List.setIfInBounds_toArray, List.set_cons_zero, List.set_cons_succ, i64_w, i32_w]; rfl))
                  try rw [hw3]
                  (refine pure_ (i := 11) (N := some 95) (v := ?_) (a' := ?_) #[true, false, true, false, true, true, true, true, true, true, true, true, false, false, false, false] rfl rfl (by kernel_rfl) (fun _ _ _ h => h) (Or.inl ⟨by rfl, ?_⟩) ?_ ?_; rotate_left; (intro w_; go_simp; with_reducible rfl); rotate_left; (simp only [Act.put, List.setIfInBounds_toArray, List.set_cons_zero, List.set_cons_succ, i64_w, i32_w]; rfl))
                  try rw [hw4]
                  refine one_ (i := 1) (N := some 85) #[true, true, true, false, true, true, true, true, true, true, true, true, false, false, false, false] rfl rfl (by kernel_rfl) (by decide) (fun K hK => ?_)
                  go_simp
                  refine hK.out _ _ (HS.out.alloc _) (fun hHeld => ?_)
                  clear hK K hHeld HS
                  skip
                  refine one_ (i := 3) (N := some 87) #[true, true, true, true, true, true, true, true, true, true, true, true, false, false, false, false] rfl rfl (by kernel_rfl) (by decide) (fun K hK => ?_)
                  (with_reducible apply append_new_step (kk := .u8) (s := .tmp 85) (x := .tmp 86) (t := 45) (e := 5) (ys := x) (A := some ⟨gr, o, none⟩) (m := sz) (c := cr - o)); (case hSL => exact HSF.out); (case hgd => exact rfl); (case ho => exact rfl); (case ht => exact Try.underlying45); (case hinfo => exact infoU); (case hz => exact rfl); (case hb0 => exact Nat.succ_pos 0); (case hC => exact HP.out _ (HSF.out.C 3 rfl)); (case hs => exact rfl); (case hx => exact rfl); (case hl => exact HSB.out); intro v3_ w3_ hs_
                  have HS3 := Aside0.mk hs_
                  clear hs_ HSF
                  refine hK.out _ _ (Sep.SL.front (Sep.SL.front (Sep.SL.front (Sep.SL.drop (Sep.SL.front (Sep.SL.drop (Sep.SL.front (Sep.SL.drop (Sep.SL.front HS3.out 3 rfl)) 1 rfl)) 0 rfl)) 2 rfl) 2 rfl) 2 rfl) (fun hHeld => ?_)
                  clear hK K hHeld
                  refine one_ (i := 12) (N := some 96) #[true, true, true, true, true, true, true, true, true, true, true, true, true, false, false, false] rfl rfl (by kernel_rfl) (by decide) (fun K hK => ?_)
                  (with_reducible apply append_noughts_step (kk := .u8) (s := .tmp 87) (x := .tmp 95) (t := 45) (ti := 3) (e := 5) (n := nz2)); (case hSL => exact HS3.out); (case hgd => exact rfl); (case ho => exact rfl); (case ht => exact Try.underlying45); (case hti => exact Try.underlying3); (case hinfo => exact infoU); (case hb0 => exact Nat.succ_pos 0); (case hs => exact rfl); (case hx => exact rfl); (case hl => exact HZB.out); intro v4_ w4_ hs_
                  rw [HFR.out] at hs_
                  have HS4 := Aside0.mk hs_
                  clear hs_ HS3
                  obtain ⟨A4, c4, e4⟩ := Sep.SL.slice HS4.out 0 rfl
                  subst e4
                  have HS5 := Aside0.mk (Sep.SL.front (Sep.SL.front (Sep.SL.front (Sep.SL.drop (Sep.SL.front (Sep.SL.drop (Sep.SL.front (Sep.SL.drop (Sep.SL.front HS4.out 3 rfl)) 1 rfl)) 0 rfl)) 2 rfl) 2 rfl) 2 rfl)
                  refine hK.out _ _ HS5.out (fun hHeld => ?_)
                  clear hK K hHeld
                  refine one_ (i := 13) (N := some 97) #[true, true, true, true, true, true, true, true, true, true, true, true, true, true, false, false] rfl rfl (by kernel_rfl) (by decide) (fun K hK => ?_)
                  go_simp
                  refine hK.out _ _ (HS5.out.alloc _) (fun hHeld => ?_)
                  clear hK K hHeld HS5
                  refine last_ (i := 14) (N := some 98) #[true, true, true, true, true, true, true, true, true, true, true, true, true, true, true, false] rfl rfl (by kernel_rfl) (by decide) (fun K hK => ?_)
                  (with_reducible apply append_srow_step (d := Kd.int .u8) (e' := 5) (t := 38) (e := 45) (s := .tmp 84) (x := .tmp 97) (p := fillRow long x)); (case hSL => exact HS4.out.front 3 rfl); (case hgd => exact rfl); (case ho => exact rfl); (case ht => exact Try.underlying38); (case hinfo => exact infoB1); (case hz => exact rfl); (case hb0 => exact Nat.succ_pos 23); (case hs => exact rfl); (case hx => exact rfl); (case hl => exact HIB2.out); intro v5_ w5_ hs_
                  have hmp : (own.take i).map (fillRow long) ++ [fillRow long x] = (own.take (i + 1)).map (fillRow long) := map_next own i (fillRow long) x HOX.out
                  rw [hmp] at hs_
                  have HS6 : Aside0 (SL w w5_ [sA (Kd.slice 5 (Kd.int .u8)) 45 v5_ ((own.take (i + 1)).map (fillRow long)), sA (Kd.slice 5 (Kd.int .u8)) 45 v2_ (own.take (i + 1)), blkA gx #[.int .i64 y0, .int .i64 y1, .int .i64 (cnt : Int), .bool y3] 87, rowA (Kd.int .u8) 5 (.slice (some ⟨gr, 0, none⟩) c2 cr) full, rowA k87 87 (.slice (some ⟨gc, 0, none⟩) cols.length cc) cols]) := ⟨hs_⟩
                  clear hs_ HS4 hmp
                  refine hK.out _ _ ?_
                  clear hK K
                  (refine pure_ (i := 15) (N := some 15) (v := ?_) (a' := ?_) #[true, true, true, true, true, true, true, true, true, true, true, true, true, true, true, true] rfl rfl (by kernel_rfl) (fun _ _ _ h => h) (Or.inl ⟨by rfl, ?_⟩) ?_ ?_; rotate_left; (intro w_; go_simp; with_reducible rfl); rotate_left; (simp only [Act.put, List.setIfInBounds_toArray, List.set_cons_zero, List.set_cons_succ, i64_w, i32_w]; rfl))
                  refine done_ (by kernel_rfl) ?_
                  have HS := Aside0.mk (Sep.SL.front (Sep.SL.front (Sep.SL.front (Sep.SL.front (Sep.SL.drop (Sep.SL.front HS6.out 2 rfl)) 3 rfl) 3 rfl) 2 rfl) 3 rfl)
                  clear HS6 hw3 hw4 q0_ q1_ q2_
                  go_wp2_with (fail)
                  go_roundg g1
                  case measure => exact Nat.lt_succ_self _
                  case rel => exact ⟨i + 1, o2, rfl, congrArg (Value.int .i64) HWI.out, HIK.out, HO2, HS⟩
            · rw [if_neg hp64] at h; cases h
          · rw [if_neg hg] at h; cases h
        · rw [if_neg hcode] at h
          replace h := Option.some.inj h
          simp only [Prod.mk.injEq] at h
          obtain ⟨rfl, rfl⟩ := h
          have hne0 : ((code : Int) != 0) = true := bne_iff_ne.2 hcode
          have hne1 : (code == 0) = false := beq_eq_false_iff_ne.2 hcode
          clear hcode
          go_wp2_with (go_at_call 68; (with_reducible refine (HGC.out _).mono ?_); rintro e w1 ⟨vc, rfl, hR_, hb_⟩; have HBW := Aside0.mk (HS.out.below.trans (hb_.mono HS.out.below.size)); clear HS hR_ hb_)
          go_ret2
          exact ⟨_, rfl, Kd.R_nil _ _ _ _ _, HBW.out⟩
  · rw [if_neg hlen] at h
    replace h := Option.some.inj h
    simp only [Prod.mk.injEq] at h
    obtain ⟨rfl, rfl⟩ := h
    have HLE := Aside0.mk hlen
    obtain ⟨len, hln⟩ : ∃ len, len = l0.length := ⟨_, rfl⟩
    rw [← hln] at HLE
    clear hlen hc0 hr0
    by_cases h1 : len < 1
    · have q1_ : decide ((len : Int) < 1) = true := decide_eq_true (by omega)
      have q2_ : decide (len < 1) = true := decide_eq_true h1
      clear h1
      go_enter Try.func31, Try.ntmps31
      rw [← hln]
      clear hln
      go_wp2_with (fail)
      go_ret2
      exact ⟨_, rfl, Kd.R_nil _ _ _ _ _, HS.out.below⟩
    · have q1_ : decide ((len : Int) < 1) = false := decide_eq_false (by omega)
      have q2_ : decide (len < 1) = false := decide_eq_false h1
      have q3_ : decide ((len : Int) > 4096) = true := decide_eq_true (by have := HLE.out; omega)
      have q4_ : decide (len > 4096) = true := decide_eq_true (by have := HLE.out; omega)
      have q5_ : decide (4096 < len) = true := decide_eq_true (by have := HLE.out; omega)
      clear h1
      go_enter Try.func31, Try.ntmps31
      rw [← hln]
      clear hln
      go_wp2_with (fail)
      go_ret2
      exact ⟨_, rfl, Kd.R_nil _ _ _ _ _, HS.out.below⟩
end Go.Proofs.Ytpaenlplpaabjaa.QStripeLays
