/- The function SpanAdd of the reference, where all is valid, walked; no conditions. -/
import Derived.Test.YthnchojddoefiaaSpanEnds
import Derived.Test.YthnchojddoefiaaQSpanAddsx2
import Derived.Test.YthnchojddoefiaaSep
import Derived.Test.YthnchojddoefiaaSepCopy
import Derived.Test.YthnchojddoefiaaSortRow
import Derived.Test.YthnchojddoefiaaSortLay
import Derived.Deep.RegionLaw
import Derived.StillTailTactics
import Derived.IntWalk
set_option linter.unusedVariables false
set_option linter.unusedSimpArgs false
namespace Go.Proofs.Ythnchojddoefiaa.QSpanAdds
open Go.RowKit Go.Proofs.YthnchojddoefiaaW.PrintWords Go.Proofs.YthnchojddoefiaaW.PrintLast Go.Proofs.YthnchojddoefiaaW.PrintMore
open Go.Proofs.Ythnchojddoefiaa.Sep Go.Proofs.Ythnchojddoefiaa.SortRow Go.Proofs.Ythnchojddoefiaa.SortLay Go.Sort
set_option maxHeartbeats 4000000 in
set_option maxRecDepth 100000 in
theorem sAdd.those (A : Option Addr) (cp : Nat) (ps : List Int) (pb qb : Nat) (so : Int → Bool) (w : World) (hC : Kd.C (Kd.int .i64) w A ps.length ps) (hc : ps.length ≤ cp) (hl : ps.length ≤ 2000)
    (hso : ∀ (n : Int) (w1 : World), Below w.heap.size w w1 → Calls Try.prog 89 #[.int .i64 n, .pointer (some ⟨pb, 0, none⟩), .pointer (some ⟨qb, 0, none⟩)] w1 fun e w2 => e = .returned (.bool (so n)) ∧ Below w1.heap.size w1 w2) :
    Calls Try.prog 87 #[.slice A ps.length cp, .func (.func 89) #[] #[.pointer (some ⟨pb, 0, none⟩), .pointer (some ⟨qb, 0, none⟩)]] w fun e w' => ∃ v0_ : Value, e = .returned (.tuple #[v0_, .int .i64 (tld (th so ps [])).2]) ∧ Kd.R k79 79 w' w.heap.size (fun _ => True) v0_ (tld (th so ps [])).1 ∧ Below w.heap.size w w' := by
  have hur := Try.underlying79
  have HC := Aside0.mk hC
  have HSO := Aside0.mk hso
  have HS := Aside0.mk (SL.nilRow (SL.start w) k79 79)
  clear hC hso
  go_enter Try.func87, Try.ntmps87
  go_upto_region 3 with (fail)
  go_loopg [6, 7] ps.length (fun kq v6 v7 wr => ∃ (i : Int) (out : List S79), v7 = .int .i64 i ∧ 0 ≤ i ∧ i + kq = (ps.length : Int) ∧ (out.length : Int) ≤ i ∧ Aside0 (th so (ps.drop i.toNat) out = th so ps []) ∧ Aside0 (SL w wr [rowA k79 79 v6 out]))
  case atStart => exact ⟨0, [], rfl, by omega, by omega, by simp, ⟨by simp⟩, by repeat (first | exact HS | exact Aside0.mk (by repeat (first | (with_reducible first | exact HS.out | apply Sep.SL.drewN | apply Sep.SL.drew | apply Sep.SL.alloc) | exact HS.out)))⟩
  case round =>
    clear HS
    obtain ⟨i, out, rfl, hi0, hik, hol, HI, HS⟩ := hrel
    have hw1_ : wrap64 (i + 1) = i + 1 := by unfold wrap64; omega
    by_cases hend : i + 1 < (ps.length : Int)
    · obtain ⟨g1, rfl⟩ : ∃ g1, gk = g1 + 1 := ⟨gk - 1, by omega⟩
      have hit : decide (i + 1 < (ps.length : Int)) = true := decide_eq_true hend
      have q8 : i < (ps.length : Int) := by omega
      obtain ⟨ad, he, hx0⟩ := C_num HC.out i hi0 q8
      subst he
      obtain ⟨ad', he, hx1⟩ := C_num HC.out (i + 1) (by omega) hend
      have he2 : ad = ad' := Option.some.inj he
      subst he2
      clear he
      obtain ⟨hdr, _⟩ := rd_drop_ (0 : Int) ps i hi0 q8
      obtain ⟨hdr2, _⟩ := rd_drop_ (0 : Int) ps (i + 1) (by omega) hend
      have HI2 := HI.out
      rw [hdr, hdr2, th, ← hdr2] at HI2
      change (if so (rd ps i) = true then th so _ (th_put out (rd ps i) (rd ps (i + 1))) else _) = _ at HI2
      have HI := Aside0.mk HI2
      clear HI2 hdr hdr2
      have HX0 := Aside0.mk hx0
      have HX1 := Aside0.mk hx1
      clear hx0 hx1
      have hx0 := (HS.out.1.cell (World.block_lt_of_cell? w _ HX0.out)).trans HX0.out
      generalize rd ps i = p at HI HX0 hx0
      generalize rd ps (i + 1) = q at HI HX1
      have p8 := eq_true hi0
      have p9 := eq_true (show (0 : Int) ≤ i + 1 by omega)
      have q8e := eq_true q8
      have q9e := eq_true hend
      by_cases hsp : so p = true
      · have HI2 := HI.out
        rw [if_pos hsp] at HI2
        have HI := Aside0.mk HI2
        clear HI2
        have HCL := Aside0.mk (fun (w1 : World) (hb : Below w.heap.size w w1) => by have := HSO.out p w1 hb; rw [hsp] at this; exact this)
        clear hsp
        rcases List.eq_nil_or_concat out with rfl | ⟨outs, x, hcx⟩
        · have HI : Aside0 (th so (ps.drop (i + 1).toNat) ([] ++ [(⟨p, q⟩ : S79)]) = th so ps []) := ⟨HI.out⟩
          obtain ⟨A6, c6, e6⟩ := HS.out.slice 0 rfl
          change u6 = .slice A6 0 c6 at e6
          subst e6
          go_upto_region 7 with (go_at_call 89; refine (HCL.out _ (SL.below (w0 := w) (by repeat (first | (with_reducible first | exact HS.out | apply Sep.SL.drewN | apply Sep.SL.drew | apply Sep.SL.alloc) | exact HS.out)))).mono ?_; rintro e w3 ⟨rfl, hb3⟩; have n1_ := Aside0.mk (SL.ext (by repeat (first | (with_reducible first | exact HS.out | apply Sep.SL.drewN | apply Sep.SL.drew | apply Sep.SL.alloc) | exact HS.out)) hb3); clear HS hb3 hx0; have HS := n1_; clear n1_; have hx0 := (HS.out.1.cell (World.block_lt_of_cell? w _ HX0.out)).trans HX0.out; have hx1 := (HS.out.1.cell (World.block_lt_of_cell? w _ HX1.out)).trans HX1.out)
          go_quiet (fail)
          have HS := Aside0.mk (HS.out.drewN nq)
          clear hx0 hx1
          generalize World.drewN _ _ = w4 at HS ⊢
          have hx0 := (HS.out.1.cell (World.block_lt_of_cell? w _ HX0.out)).trans HX0.out
          have hx1 := (HS.out.1.cell (World.block_lt_of_cell? w _ HX1.out)).trans HX1.out
          have hg0 := World.block_lt_of_cell? _ _ hx0
          have hwr_ : IntKind.i64.wrap (i + 1) = i + 1 := IntWalk.i64_in _ (by omega)
          go_upto_region 9 with (fail)
          go_region_law ((first | with_reducible apply Sep.append_row_step (d := k79) (t := 64) (e := 79) (s := .tmp 50) (x := .tmp 61) (p := (⟨p, q⟩ : S79)) (cs := [.int .i64 p, .int .i64 q]) | with_reducible apply Sep.append_row_step_drew (d := k79) (t := 64) (e := 79) (s := .tmp 50) (x := .tmp 61) (p := (⟨p, q⟩ : S79)) (cs := [.int .i64 p, .int .i64 q])); (case hSL => exact (Sep.SL.plain (Sep.SL.front (by repeat (first | (with_reducible first | exact HS.out | apply Sep.SL.drewN | apply Sep.SL.drew | apply Sep.SL.alloc) | exact HS.out)) 0 rfl) _ _ (fun _ _ => k79_mkM _ _ _ _)).swap); (case hgd => exact rfl); (case ho => exact rfl); (case ht => exact Try.underlying64); (case hinfo => exact info79); (case hz => exact rfl); (case hs0 => decide); (case hb0 => omega); (case hs => exact rfl); (case hx => exact rfl); (case hl => (first | (simp; done) | omega | (simp only [List.length_nil]; omega))); intro v1_ w1_ hs_; have n1_ := Aside0.mk hs_; clear HS hs_; have HS := n1_; clear n1_; obtain ⟨a1_, c1_, e1_⟩ := Sep.SL.slice HS.out 0 rfl; rw [List.length_append, List.length_singleton] at e1_; subst e1_)
          all_goals
            go_wp2_with (fail)
            go_roundg g1
            case measure => omega
            case rel => exact ⟨i + 1, _, rfl, by omega, by omega, by simp; omega, HI, Aside0.mk (by repeat (first | (with_reducible first | exact HS.out | apply Sep.SL.drewN | apply Sep.SL.drew | apply Sep.SL.alloc) | exact HS.out))⟩
        · rw [List.concat_eq_append] at hcx
          subst hcx
          have hlast : (outs ++ [x]).getLast? = some x := by simp
          have hdl : (outs ++ [x]).dropLast = outs := by simp
          have HP : Aside0 (th_put (outs ++ [x]) p q = if x.f1 = p then outs ++ [⟨x.f0, q⟩] else outs ++ [x] ++ [⟨p, q⟩]) := ⟨by unfold th_put; rw [hlast, hdl]⟩
          obtain ⟨g6, c6, e6⟩ := HS.out.form 0 rfl (by simp)
          rw [List.length_append, List.length_singleton] at e6 hol
          subst e6
          have hk_ : decide ((0 : Int) < (outs.length : Int) + 1) = true := decide_eq_true (by omega)
          have hwk_ : wrap64 ((outs.length : Int) + 1 - 1) = (outs.length : Int) := by unfold wrap64; omega
          clear hlast hdl
          go_upto_region 7 with (go_at_call 89; refine (HCL.out _ (SL.below (w0 := w) (by repeat (first | (with_reducible first | exact HS.out | apply Sep.SL.drewN | apply Sep.SL.drew | apply Sep.SL.alloc) | exact HS.out)))).mono ?_; rintro e w3 ⟨rfl, hb3⟩; have n1_ := Aside0.mk (SL.ext (by repeat (first | (with_reducible first | exact HS.out | apply Sep.SL.drewN | apply Sep.SL.drew | apply Sep.SL.alloc) | exact HS.out)) hb3); clear HS hb3 hx0; have HS := n1_; clear n1_; have hx0 := (HS.out.1.cell (World.block_lt_of_cell? w _ HX0.out)).trans HX0.out; have hx1 := (HS.out.1.cell (World.block_lt_of_cell? w _ HX1.out)).trans HX1.out)
          obtain ⟨ad6, he6, hy0, hy1⟩ := at_T79 (HS.out.C 0 rfl) (outs.length : Int) (by omega) (by first | (simp; done) | (simp; omega) | omega)
          have he2 : (⟨g6, 0, none⟩ : Addr) = ad6 := Option.some.inj he6
          subst he2
          clear he6
          have hrd : rd_T79 (outs ++ [x]) (outs.length : Int) = x := by show (outs ++ [x]).getD _ _ = x; simp
          rw [add_plain, hrd, Int.toNat_natCast] at hy0 hy1
          clear hrd
          by_cases he : x.f1 = p
          · have hb_ : (x.f1 == p) = true := by simp [he]
            have HIx : Aside0 (th so (ps.drop (i + 1).toNat) (outs ++ [(⟨x.f0, q⟩ : S79)]) = th so ps []) := ⟨by have h1 := HI.out; rw [HP.out, if_pos he] at h1; exact h1⟩
            clear he
            go_quiet (fail)
            have HS := Aside0.mk (HS.out.drewN nq)
            clear hx0 hx1 hy0 hy1
            generalize World.drewN _ _ = w4 at HS ⊢
            have hx0 := (HS.out.1.cell (World.block_lt_of_cell? w _ HX0.out)).trans HX0.out
            have hx1 := (HS.out.1.cell (World.block_lt_of_cell? w _ HX1.out)).trans HX1.out
            obtain ⟨ad6, he6, hy0, hy1⟩ := at_T79 (HS.out.C 0 rfl) (outs.length : Int) (by omega) (by first | (simp; done) | (simp; omega) | omega)
            have he2 : (⟨g6, 0, none⟩ : Addr) = ad6 := Option.some.inj he6
            subst he2
            clear he6
            rw [add_plain, Int.toNat_natCast] at hy0 hy1
            have hfz := rowFz HS.out 0 rfl (outs.length * 2 + 1)
            have hlast : ∀ y, (outs ++ [x])[outs.length]? = some y → encR (⟨x.f0, q⟩ : S79) = (encR y).set 1 (.int .i64 q) := fun y hy => by
              have : x = y := by simpa using hy
              subst this
              rfl
            have HSS := Aside0.mk (SL.rowSet (d := k79) encR (fun _ => rfl) (fun h => k79_openM h) (fun w ok x => k79_mkM w _ ok x) HS.out 0 rfl outs.length 1 (⟨x.f0, q⟩ : S79) (.int .i64 q) (by decide) hlast (by simp))
            have hset : (outs ++ [x]).set outs.length (⟨x.f0, q⟩ : S79) = outs ++ [⟨x.f0, q⟩] := by simp
            have HSET := Aside0.mk hset
            clear hlast hset
            go_wp2_with (fail)
            have HS := HSS
            clear HSS hx0 hx1 hy0 hy1 hfz
            go_roundg g1
            case measure => omega
            case rel => exact ⟨i + 1, _, rfl, by omega, by omega, by simp; omega, HIx, by have h_ := HS.out; rw [HSET.out] at h_; exact ⟨h_⟩⟩
          · have hb_ : (x.f1 == p) = false := by simp [he]
            have HIx : Aside0 (th so (ps.drop (i + 1).toNat) (outs ++ [x] ++ [(⟨p, q⟩ : S79)]) = th so ps []) := ⟨by have h1 := HI.out; rw [HP.out, if_neg he] at h1; exact h1⟩
            clear he
            go_quiet (fail)
            have HS := Aside0.mk (HS.out.drewN nq)
            clear hx0 hx1 hy0 hy1
            generalize World.drewN _ _ = w4 at HS ⊢
            have hx0 := (HS.out.1.cell (World.block_lt_of_cell? w _ HX0.out)).trans HX0.out
            have hx1 := (HS.out.1.cell (World.block_lt_of_cell? w _ HX1.out)).trans HX1.out
            have hg0 := World.block_lt_of_cell? _ _ hx0
            have hwr_ : IntKind.i64.wrap (i + 1) = i + 1 := IntWalk.i64_in _ (by omega)
            go_upto_region 9 with (fail)
            go_region_law ((first | with_reducible apply Sep.append_row_step (d := k79) (t := 64) (e := 79) (s := .tmp 50) (x := .tmp 61) (p := (⟨p, q⟩ : S79)) (cs := [.int .i64 p, .int .i64 q]) | with_reducible apply Sep.append_row_step_drew (d := k79) (t := 64) (e := 79) (s := .tmp 50) (x := .tmp 61) (p := (⟨p, q⟩ : S79)) (cs := [.int .i64 p, .int .i64 q])); (case hSL => exact (Sep.SL.plain (Sep.SL.front (by repeat (first | (with_reducible first | exact HS.out | apply Sep.SL.drewN | apply Sep.SL.drew | apply Sep.SL.alloc) | exact HS.out)) 0 rfl) _ _ (fun _ _ => k79_mkM _ _ _ _)).swap); (case hgd => exact rfl); (case ho => exact rfl); (case ht => exact Try.underlying64); (case hinfo => exact info79); (case hz => exact rfl); (case hs0 => decide); (case hb0 => omega); (case hs => exact rfl); (case hx => exact rfl); (case hl => (first | (simp; done) | omega | (simp; omega))); intro v1_ w1_ hs_; have n1_ := Aside0.mk hs_; clear HS hs_; have HS := n1_; clear n1_; obtain ⟨a1_, c1_, e1_⟩ := Sep.SL.slice HS.out 0 rfl; rw [List.length_append, List.length_singleton] at e1_; subst e1_)
            all_goals
              go_wp2_with (fail)
              go_roundg g1
              case measure => omega
              case rel => exact ⟨i + 1, _, rfl, by omega, by omega, by simp; omega, HIx, by have h_ := HS.out; simp only [List.length_append, List.length_singleton] at h_; exact ⟨h_⟩⟩
      · have HI2 := HI.out
        rw [if_neg hsp] at HI2
        have HI := Aside0.mk HI2
        clear HI2
        have hspf : so p = false := by simpa using hsp
        have HCL := Aside0.mk (fun (w1 : World) (hb : Below w.heap.size w w1) => by have := HSO.out p w1 hb; rw [hspf] at this; exact this)
        clear hsp hspf
        go_wp2_with (go_at_call 89; refine (HCL.out _ (SL.below (w0 := w) (by repeat (first | (with_reducible first | exact HS.out | apply Sep.SL.drewN | apply Sep.SL.drew | apply Sep.SL.alloc) | exact HS.out)))).mono ?_; rintro e w3 ⟨rfl, hb3⟩; have n1_ := Aside0.mk (SL.ext (by repeat (first | (with_reducible first | exact HS.out | apply Sep.SL.drewN | apply Sep.SL.drew | apply Sep.SL.alloc) | exact HS.out)) hb3); clear HS hb3 hx0; have HS := n1_; clear n1_)
        go_roundg g1
        case measure => omega
        case rel => exact ⟨i + 1, out, rfl, by omega, by omega, by omega, HI, Aside0.mk (by repeat (first | (with_reducible first | exact HS.out | apply Sep.SL.drewN | apply Sep.SL.drew | apply Sep.SL.alloc) | exact HS.out))⟩
    · have hit : decide (i + 1 < (ps.length : Int)) = false := decide_eq_false hend
      have hres : th so ps [] = out := by
        have h1 := HI.out
        by_cases h2 : i < (ps.length : Int)
        · obtain ⟨hdr, _⟩ := rd_drop_ (0 : Int) ps i hi0 h2
          rw [hdr, List.drop_eq_nil_of_le (by omega)] at h1
          exact h1.symm
        · rw [List.drop_eq_nil_of_le (by omega)] at h1
          exact h1.symm
      obtain ⟨A6, c6, e6⟩ := HS.out.slice 0 rfl
      subst e6
      have HRES := Aside0.mk hres
      clear hres hend
      by_cases hlen : (out.length : Int) > 200
      · have hb2 : decide (200 < (out.length : Int)) = true := decide_eq_true hlen
        have HT : Aside0 (tld out = ([], 8)) := ⟨by unfold tld; rw [if_pos hlen]⟩
        clear hlen
        go_wp2_with (fail)
        go_ret2
        rw [HRES.out, HT.out]
        exact ⟨_, rfl, Kd.R_nil _ _ _ _ _, SL.below (by repeat (first | (with_reducible first | exact HS.out | apply Sep.SL.drewN | apply Sep.SL.drew | apply Sep.SL.alloc) | exact HS.out))⟩
      · have hb2 : decide (200 < (out.length : Int)) = false := decide_eq_false hlen
        have HT : Aside0 (tld out = (out, 0)) := ⟨by unfold tld; rw [if_neg hlen]⟩
        clear hlen
        go_wp2_with (fail)
        go_ret2
        rw [HRES.out, HT.out]
        exact ⟨_, rfl, SL.row (by repeat (first | (with_reducible first | exact HS.out | apply Sep.SL.drewN | apply Sep.SL.drew | apply Sep.SL.alloc) | exact HS.out)) 0 rfl, SL.below (by repeat (first | (with_reducible first | exact HS.out | apply Sep.SL.drewN | apply Sep.SL.drew | apply Sep.SL.alloc) | exact HS.out))⟩
set_option maxHeartbeats 1000000 in
set_option maxRecDepth 100000 in
theorem sAdd.so_calls (l m : List S79) (A0 A1 : Option Addr) (c0 c1 pb qb kl km : Nat) (n : Int) (w : World) (hl : quicksetref_SpanMay.f kl l = some true) (hm : quicksetref_SpanMay.f km m = some true) (h0 : Kd.C k79 w A0 l.length l) (h1 : Kd.C k79 w A1 m.length m) (hc0 : l.length ≤ c0) (hc1 : m.length ≤ c1)
    (hp : w.cell? ⟨pb, 0, none⟩ = some (.slice A0 l.length c0)) (hq : w.cell? ⟨qb, 0, none⟩ = some (.slice A1 m.length c1)) :
    Calls Try.prog 89 #[.int .i64 n, .pointer (some ⟨pb, 0, none⟩), .pointer (some ⟨qb, 0, none⟩)] w fun e w2 => e = .returned (.bool (inB l n || inB m n)) ∧ Below w.heap.size w w2 := by
  obtain ⟨k1, hk1⟩ := has_is hl n
  obtain ⟨k2, hk2⟩ := has_is hm n
  have H0 := Aside0.mk h0
  have H1 := Aside0.mk h1
  have HQ := Aside0.mk hq
  have hql := World.block_lt_of_cell? w _ hq
  have HS := Aside0.mk (SL.start w)
  clear h0 h1 hl hm
  cases b1 : inB l n with
  | false =>
    rw [b1] at hk1
    cases b2 : inB m n with
    | false =>
      rw [b2] at hk2
      clear b1 b2
      go_enter Try.func89, Try.ntmps89
      go_wp2_with (first | (go_at_call 90; (with_reducible refine (quicksetref_SpanHas.calls k1 A0 c0 l n false _ ?hc hc0 hk1).mono ?_); (case hc => exact Kd.C_below H0.out (SL.below (w0 := w) (by repeat (first | (with_reducible first | exact HS.out | apply Sep.SL.drewN | apply Sep.SL.drew | apply Sep.SL.alloc) | exact HS.out)))); rintro e w2 ⟨rfl, hb2⟩; have n1_ := Aside0.mk (SL.ext (by repeat (first | (with_reducible first | exact HS.out | apply Sep.SL.drewN | apply Sep.SL.drew | apply Sep.SL.alloc) | exact HS.out)) hb2); clear HS hb2 hq hp; have HS := n1_; clear n1_; have hq := (SL.below HS.out |>.cell hql).trans HQ.out) | (go_at_call 90; (with_reducible refine (quicksetref_SpanHas.calls k2 A1 c1 m n false _ ?hc hc1 hk2).mono ?_); (case hc => exact Kd.C_below H1.out (SL.below (w0 := w) (by repeat (first | (with_reducible first | exact HS.out | apply Sep.SL.drewN | apply Sep.SL.drew | apply Sep.SL.alloc) | exact HS.out)))); rintro e w2 ⟨rfl, hb2⟩; have n1_ := Aside0.mk (SL.ext (by repeat (first | (with_reducible first | exact HS.out | apply Sep.SL.drewN | apply Sep.SL.drew | apply Sep.SL.alloc) | exact HS.out)) hb2); clear HS hb2; have HS := n1_; clear n1_))
      go_ret
      exact ⟨rfl, SL.below (by repeat (first | (with_reducible first | exact HS.out | apply Sep.SL.drewN | apply Sep.SL.drew | apply Sep.SL.alloc) | exact HS.out))⟩
    | true =>
      rw [b2] at hk2
      clear b1 b2
      go_enter Try.func89, Try.ntmps89
      go_wp2_with (first | (go_at_call 90; (with_reducible refine (quicksetref_SpanHas.calls k1 A0 c0 l n false _ ?hc hc0 hk1).mono ?_); (case hc => exact Kd.C_below H0.out (SL.below (w0 := w) (by repeat (first | (with_reducible first | exact HS.out | apply Sep.SL.drewN | apply Sep.SL.drew | apply Sep.SL.alloc) | exact HS.out)))); rintro e w2 ⟨rfl, hb2⟩; have n1_ := Aside0.mk (SL.ext (by repeat (first | (with_reducible first | exact HS.out | apply Sep.SL.drewN | apply Sep.SL.drew | apply Sep.SL.alloc) | exact HS.out)) hb2); clear HS hb2 hq hp; have HS := n1_; clear n1_; have hq := (SL.below HS.out |>.cell hql).trans HQ.out) | (go_at_call 90; (with_reducible refine (quicksetref_SpanHas.calls k2 A1 c1 m n true _ ?hc hc1 hk2).mono ?_); (case hc => exact Kd.C_below H1.out (SL.below (w0 := w) (by repeat (first | (with_reducible first | exact HS.out | apply Sep.SL.drewN | apply Sep.SL.drew | apply Sep.SL.alloc) | exact HS.out)))); rintro e w2 ⟨rfl, hb2⟩; have n1_ := Aside0.mk (SL.ext (by repeat (first | (with_reducible first | exact HS.out | apply Sep.SL.drewN | apply Sep.SL.drew | apply Sep.SL.alloc) | exact HS.out)) hb2); clear HS hb2; have HS := n1_; clear n1_))
      go_ret
      exact ⟨rfl, SL.below (by repeat (first | (with_reducible first | exact HS.out | apply Sep.SL.drewN | apply Sep.SL.drew | apply Sep.SL.alloc) | exact HS.out))⟩
  | true =>
    rw [b1] at hk1
    cases b2 : inB m n with
    | false =>
      rw [b2] at hk2
      clear b1 b2
      go_enter Try.func89, Try.ntmps89
      go_wp2_with (first | (go_at_call 90; (with_reducible refine (quicksetref_SpanHas.calls k1 A0 c0 l n true _ ?hc hc0 hk1).mono ?_); (case hc => exact Kd.C_below H0.out (SL.below (w0 := w) (by repeat (first | (with_reducible first | exact HS.out | apply Sep.SL.drewN | apply Sep.SL.drew | apply Sep.SL.alloc) | exact HS.out)))); rintro e w2 ⟨rfl, hb2⟩; have n1_ := Aside0.mk (SL.ext (by repeat (first | (with_reducible first | exact HS.out | apply Sep.SL.drewN | apply Sep.SL.drew | apply Sep.SL.alloc) | exact HS.out)) hb2); clear HS hb2 hq hp; have HS := n1_; clear n1_; have hq := (SL.below HS.out |>.cell hql).trans HQ.out) | (go_at_call 90; (with_reducible refine (quicksetref_SpanHas.calls k2 A1 c1 m n false _ ?hc hc1 hk2).mono ?_); (case hc => exact Kd.C_below H1.out (SL.below (w0 := w) (by repeat (first | (with_reducible first | exact HS.out | apply Sep.SL.drewN | apply Sep.SL.drew | apply Sep.SL.alloc) | exact HS.out)))); rintro e w2 ⟨rfl, hb2⟩; have n1_ := Aside0.mk (SL.ext (by repeat (first | (with_reducible first | exact HS.out | apply Sep.SL.drewN | apply Sep.SL.drew | apply Sep.SL.alloc) | exact HS.out)) hb2); clear HS hb2; have HS := n1_; clear n1_))
      go_ret
      exact ⟨rfl, SL.below (by repeat (first | (with_reducible first | exact HS.out | apply Sep.SL.drewN | apply Sep.SL.drew | apply Sep.SL.alloc) | exact HS.out))⟩
    | true =>
      rw [b2] at hk2
      clear b1 b2
      go_enter Try.func89, Try.ntmps89
      go_wp2_with (first | (go_at_call 90; (with_reducible refine (quicksetref_SpanHas.calls k1 A0 c0 l n true _ ?hc hc0 hk1).mono ?_); (case hc => exact Kd.C_below H0.out (SL.below (w0 := w) (by repeat (first | (with_reducible first | exact HS.out | apply Sep.SL.drewN | apply Sep.SL.drew | apply Sep.SL.alloc) | exact HS.out)))); rintro e w2 ⟨rfl, hb2⟩; have n1_ := Aside0.mk (SL.ext (by repeat (first | (with_reducible first | exact HS.out | apply Sep.SL.drewN | apply Sep.SL.drew | apply Sep.SL.alloc) | exact HS.out)) hb2); clear HS hb2 hq hp; have HS := n1_; clear n1_; have hq := (SL.below HS.out |>.cell hql).trans HQ.out) | (go_at_call 90; (with_reducible refine (quicksetref_SpanHas.calls k2 A1 c1 m n true _ ?hc hc1 hk2).mono ?_); (case hc => exact Kd.C_below H1.out (SL.below (w0 := w) (by repeat (first | (with_reducible first | exact HS.out | apply Sep.SL.drewN | apply Sep.SL.drew | apply Sep.SL.alloc) | exact HS.out)))); rintro e w2 ⟨rfl, hb2⟩; have n1_ := Aside0.mk (SL.ext (by repeat (first | (with_reducible first | exact HS.out | apply Sep.SL.drewN | apply Sep.SL.drew | apply Sep.SL.alloc) | exact HS.out)) hb2); clear HS hb2; have HS := n1_; clear n1_))
      go_ret
      exact ⟨rfl, SL.below (by repeat (first | (with_reducible first | exact HS.out | apply Sep.SL.drewN | apply Sep.SL.drew | apply Sep.SL.alloc) | exact HS.out))⟩
def sAdd.so (l m : List S79) (n : Int) : Bool := inB l n || inB m n
set_option maxHeartbeats 4000000 in
set_option maxRecDepth 100000 in
theorem sAdd.ref (A0 : Option Addr) (c0 : Nat) (l0 : List S79) (a b : Int) (w : World) (k : Nat) (hr0 : Kd.C k79 w A0 l0.length l0) (hc0 : l0.length ≤ c0) (hm : quicksetref_SpanMay.f k l0 = some true) (ho : quicksetref_RangeMay.f a b = some true) :
    Calls Try.prog 42 #[.slice A0 l0.length c0, .agg #[.int .i64 a, .int .i64 b]] w fun e w' => ∃ v0_ : Value, e = .returned (.tuple #[v0_, .int .i64 (tld (th (sAdd.so l0 [⟨a, b⟩]) (endsF [l0, [⟨a, b⟩]] []) [])).2]) ∧ Kd.R k79 79 w' w.heap.size (fun _ => True) v0_ (tld (th (sAdd.so l0 [⟨a, b⟩]) (endsF [l0, [⟨a, b⟩]] []) [])).1 ∧ Below w.heap.size w w' := by
  have hur := Try.underlying79
  obtain ⟨km, hkm⟩ := one_may a b ho
  have hl200 := may_le hm
  have HS := Aside0.mk (SL.start w)
  have HC := Aside0.mk hr0
  clear hr0
  go_enter Try.func42, Try.ntmps42
  go_upto_region 3 with (first | ((with_reducible refine gate_dst (N := 2) rfl ?_); refine box_event ?hg (N := 2) ?hd (cs := #[.slice A0 l0.length c0]) (t := 64) ?hr ?_; (case hd => exact rfl); (case hg => exact rfl); (case hr => first | (go_simp; done) | (go_simp; rfl)); intro pb hgb_ w0_ hbox_ hb_; have n1_ := Aside0.mk (Sep.SL.newBlk (by repeat (first | (with_reducible first | exact HS.out | apply Sep.SL.drewN | apply Sep.SL.drew | apply Sep.SL.alloc) | exact HS.out)) hb_ hgb_ hbox_); clear HS hgb_ hbox_ hb_; have HS := n1_; clear n1_) | ((with_reducible refine gate_dst (N := 3) rfl ?_); refine box_event ?hg (N := 3) ?hd (cs := #[.int .i64 a, .int .i64 b]) (t := 79) ?hr ?_; (case hd => exact rfl); (case hg => exact rfl); (case hr => first | (go_simp; done) | (go_simp; rfl)); intro gr hgb_ w1 hbox_ hb_; have n1_ := Aside0.mk (Sep.SL.newBlk (by repeat (first | (with_reducible first | exact HS.out | apply Sep.SL.drewN | apply Sep.SL.drew | apply Sep.SL.alloc) | exact HS.out)) hb_ hgb_ hbox_); clear HS hgb_ hbox_ hb_; have HS := n1_; clear n1_; have hz := HS.out.c0 1 rfl; have hz0 := HS.out.c0 0 rfl; have hz1 := HS.out.c1 0 rfl) | (go_at_call 85; refine (quicksetref_SpanMay.calls k A0 c0 l0 true _ (Kd.C_below HC.out (SL.below (by repeat (first | (with_reducible first | exact HS.out | apply Sep.SL.drewN | apply Sep.SL.drew | apply Sep.SL.alloc) | exact HS.out)))) hc0 hm).mono ?_; rintro e w2 ⟨rfl, hb2⟩; have n1_ := Aside0.mk (SL.ext (by repeat (first | (with_reducible first | exact HS.out | apply Sep.SL.drewN | apply Sep.SL.drew | apply Sep.SL.alloc) | exact HS.out)) hb2); clear HS hb2 hz hz0 hz1; have HS := n1_; clear n1_; have hz := HS.out.c0 1 rfl; have hz0 := HS.out.c0 0 rfl; have hz1 := HS.out.c1 0 rfl) | (go_at_call 86; refine (quicksetref_RangeMay.calls a b true _ ho).mono ?_; rintro e w3 ⟨rfl, hb3⟩; have n1_ := Aside0.mk (SL.ext (by repeat (first | (with_reducible first | exact HS.out | apply Sep.SL.drewN | apply Sep.SL.drew | apply Sep.SL.alloc) | exact HS.out)) hb3); clear HS hb3 hz hz0 hz1; have HS := n1_; clear n1_; have hz := HS.out.c0 1 rfl; have hz0 := HS.out.c0 0 rfl; have hz1 := HS.out.c1 0 rfl))
  go_upto_region 4 with ((with_reducible refine gate_dst (N := 6) rfl ?_); refine box_event ?hg (N := 6) ?hd (cs := #[.slice none 0 0]) (t := 64) ?hr ?_; (case hd => rfl); (case hg => rfl); (case hr => first | (go_simp; done) | (go_simp; rfl)); intro qb hgb_ w4 hbox_ hb_; have n1_ := Aside0.mk (Sep.SL.newBlk (HS.out.allocBlk #[.int .i64 a, .int .i64 b] 79) hb_ hgb_ hbox_); clear HS hgb_ hbox_ hb_; have HS := n1_; clear n1_; have hy := HS.out.c0 0 rfl)
  clear hz hz0 hz1
  generalize w3.heap.size = bm at HS ⊢
  have HS := Aside0.mk (HS.out.put 0 rfl 0 (.slice (some ⟨bm, 0, none⟩) 1 1))
  clear hy
  generalize World.setCell _ _ _ = w5 at HS ⊢
  have hz := HS.out.c0 3 rfl
  have hy := HS.out.c0 0 rfl
  have hC1 : Kd.C k79 w5 (some ⟨bm, 0, none⟩) [(⟨a, b⟩ : S79)].length [(⟨a, b⟩ : S79)] := by
    refine ⟨rfl, by simp, fun _ => ⟨_, rfl, fun j p hj => ?_⟩⟩
    have hj0 : j = 0 := by have := (List.getElem?_eq_some_iff.1 hj).1; simp at this; exact this
    subst hj0
    have hp : (⟨a, b⟩ : S79) = p := by simpa using hj
    subst hp
    refine ⟨[.int .i64 a, .int .i64 b], rfl, k79_mk _ ⟨a, b⟩, fun i u hu => ?_⟩
    rw [add_plain, blk_cell (HS.out.blk 1 rfl)]
    simpa using hu
  have hC0 : Kd.C k79 w5 A0 l0.length l0 := Kd.C_below HC.out HS.out.1
  have HE : Calls Try.prog 88 #[.slice (some ⟨w5.heap.size, 0, none⟩) 2 2] (w5.alloc (.cells #[.slice A0 l0.length c0, .slice (some ⟨bm, 0, none⟩) 1 1] 64)) fun e w' => ∃ v0_ : Value, e = .returned v0_ ∧ SL w w' (rowA (Kd.int .i64) 3 v0_ (endsF [l0, [⟨a, b⟩]] []) :: [blkA qb #[.slice (some ⟨bm, 0, none⟩) 1 1] 64, blkA bm #[.int .i64 a, .int .i64 b] 79, blkA gr #[.int .i64 a, .int .i64 b] 79, blkA pb #[.slice A0 l0.length c0] 64]) := by
    have hb := below_alloc (Below.refl w5.heap.size w5) (.cells #[.slice A0 l0.length c0, .slice (some ⟨bm, 0, none⟩) 1 1] 64)
    refine (ends_calls (some ⟨w5.heap.size, 0, none⟩) 2 [l0, [⟨a, b⟩]] _ (C_two _ l0 [⟨a, b⟩] A0 (some ⟨bm, 0, none⟩) c0 1 w5.heap.size (Kd.C_below hC0 hb) (Kd.C_below hC1 hb) hc0 (Nat.le_refl _) (blk_new w5 _)) (Nat.le_refl _) (by simp) (fun l hl => ?_)).mono ?_
    · rcases List.mem_cons.1 hl with rfl | hl
      · exact hl200
      · rw [List.mem_singleton.1 hl]; simp
    · rintro e w6 ⟨_, _, v6, rfl, hR, hb6⟩
      exact ⟨v6, rfl, (SL.alloc HS.out _).newRow hb6 hR⟩
  have HE := Aside0.mk HE
  clear hC0 hC1
  have hlen := ends1_len [(⟨a, b⟩ : S79)] (ends1 l0 [])
  have hlen2 := ends1_len l0 []
  simp only [List.length_cons, List.length_nil] at hlen hlen2
  obtain ⟨ps, hps⟩ : ∃ ps, ps = endsF [l0, [(⟨a, b⟩ : S79)]] [] := ⟨_, rfl⟩
  have hpl : ps.length ≤ 2000 := by rw [hps]; show (ends1 [(⟨a, b⟩ : S79)] (ends1 l0 [])).length ≤ _; omega
  have HPS := Aside0.mk hps
  clear hps hlen hlen2
  go_wp2_with (first | (go_at_call 88; refine HE.out.mono ?_; rintro e w6 ⟨v6, rfl, h6⟩; rw [← HPS.out] at h6; obtain ⟨A6, c6, e6⟩ := Sep.SL.slice h6 0 rfl; subst e6; have HS6 := Aside0.mk h6; clear h6 hz hy HS) | (go_at_call 87; refine (sAdd.those A6 c6 ps pb qb (sAdd.so l0 [⟨a, b⟩]) w6 (HS6.out.C 0 rfl) (Kd.R_reads' (HS6.out.row 0 rfl)).2.1 hpl (fun n w1 hb => sAdd.so_calls l0 [⟨a, b⟩] A0 (some ⟨bm, 0, none⟩) c0 1 pb qb k km n w1 hm hkm (Kd.C_below (Kd.C_below HC.out HS6.out.1) hb) (Kd.C_below (C_blk HS6.out 2 rfl) hb) hc0 (Nat.le_refl _) ((hb.cell (HS6.out.c0 4 rfl).2.2).trans (HS6.out.c0 4 rfl).1) ((hb.cell (HS6.out.c0 1 rfl).2.2).trans (HS6.out.c0 1 rfl).1))).mono ?_; rintro e w7 ⟨v7, rfl, hR7, hb7⟩; have HR7 := Aside0.mk hR7; have HB7 := Aside0.mk hb7; clear hR7 hb7))
  go_ret2
  rw [← HPS.out]
  exact ⟨_, rfl, Kd.R_lower HR7.out (SL.size HS6.out), below_step HS6.out.1 HB7.out⟩
end Go.Proofs.Ythnchojddoefiaa.QSpanAdds
