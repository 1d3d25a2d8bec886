/- Printed from a stub by wip/stub.py with the kit's print.py, then turned by hand. -/
import Derived.Test.YthnchojddoefiaaSpanBothR
import Derived.StillTailTactics
import Derived.Test.YthnchojddoefiaaQSpanAddsx6
import Derived.Test.YthnchojddoefiaaSep
import Derived.Test.YthnchojddoefiaaSortRow
import Derived.Test.YthnchojddoefiaaSortLay
import Derived.Deep.RegionLaw
import Derived.StillTailTactics
import Derived.Test.YthnchojddoefiaaQSpanAddsx0
import Derived.Test.YthnchojddoefiaaQSpanAddsx3
import Derived.Test.YthnchojddoefiaaQSpanAddsx4
import Derived.Test.YthnchojddoefiaaQSpanAddsx5
namespace Go.Proofs.Ythnchojddoefiaa.QSpanAdds
open Go.RowKit Go.Proofs.YthnchojddoefiaaW.PrintWords Go.Proofs.YthnchojddoefiaaW.PrintLast Go.Proofs.YthnchojddoefiaaW.PrintMore
attribute [local go_sem] max2_int min2_int max_two min_two max_three min_three max_four min_four   -- for this text's walks alone
set_option linter.unusedVariables false
set_option linter.unusedSimpArgs false

/-! ### span_Both: function 45 -/
open Go.Proofs.Ythnchojddoefiaa.Sep Go.Proofs.Ythnchojddoefiaa.SortRow Go.Proofs.Ythnchojddoefiaa.SortLay Go.Sort
def sBoth.want (d : Int) : Bool := (d == 2)
set_option maxRecDepth 100000 in
theorem sBoth.clo (d : Int) (w : World) : Calls Try.prog 93 #[.int .i64 d] w fun e w' => e = .returned (.bool (sBoth.want d)) ∧ Drawn0 w w' := by
  go_enter Try.func93, Try.ntmps93
  go_wp2_with (fail)
  go_ret
  exact ⟨by unfold sBoth.want; simp, Drawn0.refl w⟩
set_option maxHeartbeats 4000000 in
set_option maxRecDepth 100000 in
theorem sBoth.swept (g cap : Nat) (xs : List S194) (F : List Asn) (w0 w : World) (h : SL w0 w (rowA k194 194 (.slice (some ⟨g, 0, none⟩) xs.length cap) xs :: F)) (h2 : 2 ≤ xs.length) (hsz : xs.length < 100000) (hby : ∀ e ∈ xs, -1 ≤ e.f1 ∧ e.f1 ≤ 1) :
    Calls Try.prog 82 #[.slice (some ⟨g, 0, none⟩) xs.length cap, .func (.func 93) #[] #[]] w fun e w' => ∃ (v0_ : Value) (ys : List S194), e = .returned v0_ ∧ xs.Perm ys ∧ ys.Pairwise (fun a b => a.f0 ≤ b.f0) ∧ SL w0 w' (rowA k79 79 v0_ (sw sBoth.want ys 0 (-1) []) :: F) := by
  have hue := Try.underlying194
  have hur := Try.underlying79
  have HS := Aside0.mk h
  have HBY := Aside0.mk hby
  clear h hby
  go_enter Try.func82, Try.ntmps82
  go_upto_region 2 with (first | ((with_reducible refine gate_dst (N := 2) rfl ?_); refine box_event ?hg (N := 2) ?hd (cs := #[.slice (some ⟨g, 0, none⟩) xs.length cap]) (t := 155) ?hr ?_; (case hd => exact rfl); (case hg => exact rfl); (case hr => first | (go_simp; done) | (go_simp; rfl)); intro Bs hgb_ w1 hbox_ hb_; have n1_ := Aside0.mk (Sep.SL.newBlk (by repeat (first | (with_reducible first | exact HS.out | apply Sep.SL.drewN | apply Sep.SL.drew | apply Sep.SL.alloc) | exact HS.out)) hb_ hgb_ hbox_); clear HS hgb_ hbox_ hb_; have HS := n1_; clear n1_; have hz := HS.out.c0 0 rfl; have hsort := sort_SL HS.out 0 1 rfl rfl h2 hsz) | (go_at_call 116; refine hsort.mono ?_; rintro e w3 ⟨rfl, ys, hp, hs, h3⟩; have HS3 := Aside0.mk h3; clear hsort hz h3))
  have HS := HS3
  clear HS3
  have hlen := hp.length_eq
  have HP := Aside0.mk (show xs.Perm ys ∧ ys.Pairwise (fun a b => a.f0 ≤ b.f0) ∧ ∀ e ∈ ys, -1 ≤ e.f1 ∧ e.f1 ≤ 1 from ⟨hp, hs, fun e he => HBY.out e (hp.symm.subset he)⟩)
  clear hp hs HBY
  rw [hlen] at h2 hsz HS ⊢
  clear hlen
  have hz := HS.out.c0 0 rfl
  go_upto_region 5 with (fail)
  have HS := Aside0.mk (SL.nilRow HS.out k79 79)
  clear hz
  go_loopg [5, 6, 7, 8] ys.length (fun kq v5 v6 v7 v8 wr => ∃ (i dep fr : Int) (out : List S79), v6 = .int .i64 dep ∧ v7 = .int .i64 fr ∧ v8 = .int .i64 i ∧ 0 ≤ i ∧ i + kq = (ys.length : Int) ∧ -i ≤ dep ∧ dep ≤ i ∧ (out.length : Int) ≤ i ∧ Aside0 (sw sBoth.want (ys.drop i.toNat) dep fr out = sw sBoth.want ys 0 (-1) []) ∧ Aside0 (SL w0 wr (rowA k79 79 v5 out :: blkA Bs #[.slice (some ⟨g, 0, none⟩) ys.length cap] 155 :: rowA k194 194 (.slice (some ⟨g, 0, none⟩) ys.length cap) ys :: F)))
  case atStart => exact ⟨0, 0, -1, [], rfl, rfl, rfl, by omega, by omega, by omega, by omega, by simp, ⟨by simp⟩, by repeat (first | exact HS | exact Aside0.mk (by repeat (first | (with_reducible first | exact HS.out | apply Sep.SL.drewN | apply Sep.SL.drew | apply Sep.SL.alloc) | exact HS.out)))⟩
  case round =>
    clear HS
    obtain ⟨i, dep, fr, out, rfl, rfl, rfl, hi0, hik, hd0, hd1, hol, HI, HS⟩ := hrel
    have hz := HS.out.c0 1 rfl
    cases gk with
    | zero =>
      have hit : decide (i < (ys.length : Int)) = false := decide_eq_false (by omega)
      have HI2 := HI.out
      rw [List.drop_eq_nil_of_le (by omega), sw] at HI2
      have HI := Aside0.mk HI2
      clear HI2
      go_wp2_with (fail)
      go_ret
      exact ⟨_, ys, rfl, HP.out.1, HP.out.2.1, by rw [← HI.out]; exact (Sep.SL.front (Sep.SL.drop (Sep.SL.front (Sep.SL.drop (Sep.SL.front (by repeat (first | (with_reducible first | exact HS.out | apply Sep.SL.drewN | apply Sep.SL.drew | apply Sep.SL.alloc) | exact HS.out)) 2 rfl)) 1 rfl)) 0 rfl)⟩
    | succ g1 =>
      have hit : decide (i < (ys.length : Int)) = true := decide_eq_true (by omega)
      have q8 : i < (ys.length : Int) := by omega
      obtain ⟨ad, he, hx0, hx1⟩ := at_T194 (HS.out.C 2 rfl) i hi0 q8
      have he2 : (⟨g, 0, none⟩ : Addr) = ad := Option.some.inj he
      subst he2
      clear he
      rw [add_plain] at hx0 hx1
      obtain ⟨hdr, hmem⟩ := rd_drop_ z194 ys i hi0 q8
      have hb_ := HP.out.2.2 _ hmem
      have HI2 := HI.out
      rw [hdr, sw_cons] at HI2
      change sw_at _ (rd_T194 ys i).f0 (ys.drop (i + 1).toNat) (dep + (rd_T194 ys i).f1) fr out = _ at HI2
      have p8 := eq_true hi0
      have ha : rd_T194 ys i = ys.getD i.toNat z194 := rfl
      have HST : Aside0 (sw_at sBoth.want (rd_T194 ys i).f0 (ys.drop i.toNat) dep fr out = sw sBoth.want ys 0 (-1) []) := ⟨by
        unfold sw_at
        rw [hdr, if_pos (by rfl), sw_cons]
        exact HI2⟩
      clear HI HI2 hdr hmem ha hb_
      obtain ⟨a, hae⟩ : ∃ a, a = (rd_T194 ys i).f0 := ⟨_, rfl⟩
      rw [← hae] at hx0 HST
      have HA := Aside0.mk hae
      clear hae
      have q8e := eq_true q8
      go_upto_block 2 with (fail)
      clear hx0 hx1 hit hz
      go_cut [6, 8] (fun v6 v8 wx => ∃ (j dp : Int), v6 = .int .i64 dp ∧ v8 = .int .i64 j ∧ i < j ∧ j ≤ (ys.length : Int) ∧ -j ≤ dp ∧ dp ≤ j ∧ Aside0 ((ys.drop j.toNat).head?.map (·.f0) ≠ some a ∧ sw_at sBoth.want a (ys.drop j.toNat) dp fr out = sw sBoth.want ys 0 (-1) []) ∧ Aside0 (SL w0 wx (rowA k79 79 u5 out :: blkA Bs #[.slice (some ⟨g, 0, none⟩) ys.length cap] 155 :: rowA k194 194 (.slice (some ⟨g, 0, none⟩) ys.length cap) ys :: F)))
      case first =>
        go_wp2_with (fail)
        go_loopg [6, 8] (g1 + 1) (fun kq v6 v8 wr => ∃ (j dp : Int), v6 = .int .i64 dp ∧ v8 = .int .i64 j ∧ i ≤ j ∧ (kq : Int) + j = (ys.length : Int) ∧ -j ≤ dp ∧ dp ≤ j ∧ Aside0 (j = i → (rd_T194 ys j).f0 = a) ∧ Aside0 (sw_at sBoth.want a (ys.drop j.toNat) dp fr out = sw sBoth.want ys 0 (-1) []) ∧ Aside0 (SL w0 wr (rowA k79 79 u5 out :: blkA Bs #[.slice (some ⟨g, 0, none⟩) ys.length cap] 155 :: rowA k194 194 (.slice (some ⟨g, 0, none⟩) ys.length cap) ys :: F)))
        case atStart => exact ⟨i, dep, rfl, rfl, by omega, by omega, by omega, by omega, ⟨fun _ => HA.out.symm⟩, HST, by repeat (first | exact HS | exact Aside0.mk (by repeat (first | (with_reducible first | exact HS.out | apply Sep.SL.drewN | apply Sep.SL.drew | apply Sep.SL.alloc) | exact HS.out)))⟩
        case round =>
          clear HS HST
          obtain ⟨j, dp, rfl, rfl, hj0, hjk, hp0, hp1, HJi, HJ, HS⟩ := hrel
          have hz := HS.out.c0 1 rfl
          cases gk with
          | zero =>
            have hjt : decide (j < (ys.length : Int)) = false := decide_eq_false (by omega)
            have hJ2 : Aside0 ((ys.drop j.toNat).head?.map (·.f0) ≠ some a ∧ sw_at sBoth.want a (ys.drop j.toNat) dp fr out = sw sBoth.want ys 0 (-1) []) := ⟨by rw [List.drop_eq_nil_of_le (by omega)]; simp, HJ.out⟩
            go_wp2_with (fail)
            go_meet
            exact ⟨j, dp, rfl, rfl, by omega, by omega, hp0, hp1, hJ2, HS⟩
          | succ g2 =>
            have hjt : decide (j < (ys.length : Int)) = true := decide_eq_true (by omega)
            have hj1 : (0 : Int) ≤ j := by omega
            have q9 : j < (ys.length : Int) := by omega
            obtain ⟨ad, he, hx0, hx1⟩ := at_T194 (HS.out.C 2 rfl) j hj1 q9
            have he2 : (⟨g, 0, none⟩ : Addr) = ad := Option.some.inj he
            subst he2
            clear he
            rw [add_plain] at hx0 hx1
            obtain ⟨hdr, hmem⟩ := rd_drop_ z194 ys j hj1 q9
            obtain ⟨hb0_, hb1_⟩ := HP.out.2.2 _ hmem
            change -1 ≤ (rd_T194 ys j).f1 at hb0_
            change (rd_T194 ys j).f1 ≤ 1 at hb1_
            have p9 := eq_true hj1
            have hw1_ : wrap64 (j + 1) = j + 1 := by unfold wrap64; omega
            by_cases hea : (rd_T194 ys j).f0 = a
            · have HJ2 := HJ.out
              rw [hdr] at HJ2
              unfold sw_at at HJ2
              rw [if_pos (by show some (rd_T194 ys j).f0 = some a; rw [hea]), sw_cons] at HJ2
              change sw_at _ (rd_T194 ys j).f0 (ys.drop (j + 1).toNat) (dp + (rd_T194 ys j).f1) fr out = _ at HJ2
              rw [hea] at HJ2 hx0
              have HJ := Aside0.mk HJ2
              clear HJ2 hdr hmem hea HJi
              generalize (rd_T194 ys j).f1 = by_ at HJ hx1 hb0_ hb1_
              have hw2_ : wrap64 (dp + by_) = dp + by_ := by unfold wrap64; omega
              replace q9 := eq_true q9
              go_wp2_with (fail)
              go_roundg g2
              case measure => omega
              case rel => exact ⟨j + 1, dp + by_, by first | rfl | (simp; done) | (simp [*]; done), by first | rfl | (simp; done) | (simp [*]; done), by omega, by omega, by omega, by omega, ⟨fun e => by omega⟩, HJ, Aside0.mk (by repeat (first | (with_reducible first | exact HS.out | apply Sep.SL.drewN | apply Sep.SL.drew | apply Sep.SL.alloc) | exact HS.out))⟩
            · have hJ2 : Aside0 ((ys.drop j.toNat).head?.map (·.f0) ≠ some a ∧ sw_at sBoth.want a (ys.drop j.toNat) dp fr out = sw sBoth.want ys 0 (-1) []) := ⟨by rw [hdr]; show some (rd_T194 ys j).f0 ≠ some a; exact fun e => hea (Option.some.inj e), HJ.out⟩
              have hij : i < j := by
                rcases Int.lt_or_eq_of_le hj0 with h_ | h_
                · exact h_
                · exact absurd (HJi.out h_.symm) hea
              have hjl : j ≤ (ys.length : Int) := by omega
              have hbn : ((rd_T194 ys j).f0 == a) = false := by simp [hea]
              clear hdr hmem hea HJi HJ
              generalize (rd_T194 ys j).f0 = a2 at hx0 hbn
              replace q9 := eq_true q9
              go_wp2_with (fail)
              go_meet
              exact ⟨j, dp, rfl, rfl, hij, hjl, hp0, hp1, hJ2, HS⟩
      case rest =>
        obtain ⟨j, dp, rfl, rfl, hj0, hj1, hp0, hp1, HJ, HS⟩ := hcut
        have hclo := sBoth.clo dp
        by_cases hw : sBoth.want dp = true
        · rw [hw] at hclo
          by_cases hf : fr < 0
          · have HJ2 := HJ.out.2
            unfold sw_at at HJ2
            rw [if_neg HJ.out.1, if_pos hw, if_pos hf] at HJ2
            have HI := Aside0.mk HJ2
            have hfb := decide_eq_true hf
            clear HJ HJ2 HST hw hf
            go_wp2_with (go_at_call 93; refine (hclo _).mono ?_; rintro e w1_ ⟨rfl, ⟨nd, rfl⟩⟩)
            go_roundg (ys.length - j.toNat)
            case measure => omega
            case rel => exact ⟨j, dp, a, out, rfl, rfl, rfl, by omega, by omega, hp0, hp1, by omega, HI, Aside0.mk (by repeat (first | (with_reducible first | exact HS.out | apply Sep.SL.drewN | apply Sep.SL.drew | apply Sep.SL.alloc) | exact HS.out))⟩
          · have HJ2 := HJ.out.2
            unfold sw_at at HJ2
            rw [if_neg HJ.out.1, if_pos hw, if_neg hf] at HJ2
            have HI := Aside0.mk HJ2
            have hfb := decide_eq_false hf
            clear HJ HJ2 HST hw hf
            go_wp2_with (go_at_call 93; refine (hclo _).mono ?_; rintro e w1_ ⟨rfl, ⟨nd, rfl⟩⟩)
            go_roundg (ys.length - j.toNat)
            case measure => omega
            case rel => exact ⟨j, dp, fr, out, rfl, rfl, rfl, by omega, by omega, hp0, hp1, by omega, HI, Aside0.mk (by repeat (first | (with_reducible first | exact HS.out | apply Sep.SL.drewN | apply Sep.SL.drew | apply Sep.SL.alloc) | exact HS.out))⟩
        · have hw2 : sBoth.want dp = false := by simpa using hw
          rw [hw2] at hclo
          by_cases hf : fr ≥ 0
          · have HJ2 := HJ.out.2
            unfold sw_at at HJ2
            rw [if_neg HJ.out.1, if_neg hw, if_pos hf] at HJ2
            have HI := Aside0.mk HJ2
            have hfb : decide (0 ≤ fr) = true := decide_eq_true hf
            clear HJ HJ2 HST hw hw2 hf
            go_wp2_with (first | (go_at_call 93; refine (hclo _).mono ?_; rintro e w1_ ⟨rfl, ⟨nd, rfl⟩⟩) | ((with_reducible refine gate_builtin (b := .append) (xs := #[.tmp 63, .tmp 67]) rfl ?_); at_builtin; (first | with_reducible apply Sep.append_row (d := k79) (t := 64) (e := 79) (s := .tmp 63) (x := .tmp 67) (p := (⟨fr, a⟩ : S79)) (cs := [.int .i64 fr, .int .i64 a])); (case hSL => exact (Sep.SL.plain (Sep.SL.front (by repeat (first | (with_reducible first | exact HS.out | apply Sep.SL.drewN | apply Sep.SL.drew | apply Sep.SL.alloc) | exact HS.out)) 0 rfl) _ _ (fun _ _ => k79_mkM _ _ _ _)).swap); (case hgd => exact rfl); (case ho => exact rfl); (case ht => exact Try.underlying64); (case hinfo => exact info79); (case hz => exact rfl); (case hs0 => decide); (case hb0 => omega); (case hs => exact rfl); (case hx => exact rfl); (case hl => omega); intro v1_ w1_ hs_; have n1_ := Aside0.mk hs_; clear HS hs_; have HS := n1_; clear n1_; obtain ⟨a1_, c1_, e1_⟩ := Sep.SL.slice HS.out 0 rfl; rw [List.length_append, List.length_singleton] at e1_; subst e1_))
            go_roundg (ys.length - j.toNat)
            case measure => omega
            case rel => exact ⟨j, dp, -1, out ++ [(⟨fr, a⟩ : S79)], rfl, rfl, rfl, by omega, by omega, hp0, hp1, by rw [List.length_append, List.length_singleton]; omega, HI, Aside0.mk (by repeat (first | (with_reducible first | exact HS.out | apply Sep.SL.drewN | apply Sep.SL.drew | apply Sep.SL.alloc) | exact HS.out))⟩
          · have HJ2 := HJ.out.2
            unfold sw_at at HJ2
            rw [if_neg HJ.out.1, if_neg hw, if_neg hf] at HJ2
            have HI := Aside0.mk HJ2
            have hfb : decide (0 ≤ fr) = false := decide_eq_false hf
            clear HJ HJ2 HST hw hw2 hf
            go_wp2_with (go_at_call 93; refine (hclo _).mono ?_; rintro e w1_ ⟨rfl, ⟨nd, rfl⟩⟩)
            go_roundg (ys.length - j.toNat)
            case measure => omega
            case rel => exact ⟨j, dp, fr, out, rfl, rfl, rfl, by omega, by omega, hp0, hp1, by omega, HI, Aside0.mk (by repeat (first | (with_reducible first | exact HS.out | apply Sep.SL.drewN | apply Sep.SL.drew | apply Sep.SL.alloc) | exact HS.out))⟩
theorem grow_below (w : World) (os : Array Obj) : Below w.heap.size w (grow w os) := ⟨rfl, rfl, rfl, by rw [size_grow]; omega, fun k hk => heap_grow_old w os hk⟩
theorem sort_none (A : Option Addr) (c Bs : Nat) (w : World) :
    Calls Try.prog 116 #[.iface 155 (.slice A 0 c), .func (.func 117) #[] #[.pointer (some ⟨Bs, 0, none⟩)]] w fun e w' => e = .returned (.tuple #[]) ∧ Below w.heap.size w w' := by
  refine (Any.sort_Slice_tiny sv6 155 194 svT svE (by kernel_rfl) (by kernel_rfl) (by kernel_rfl) (by kernel_rfl) 25 (fun _ => by kernel_rfl) A 0 c (by omega) 146 (by kernel_rfl) (.func 117) #[] #[.pointer (some ⟨Bs, 0, none⟩)] w).mono ?_
  rintro e w' ⟨rfl, os, rfl⟩
  exact ⟨rfl, grow_below _ _⟩
set_option maxHeartbeats 4000000 in
set_option maxRecDepth 100000 in
theorem sBoth.swept0 (A : Option Addr) (c : Nat) (F : List Asn) (w0 w : World) (h : SL w0 w (rowA k194 194 (.slice A 0 c) [] :: F)) :
    Calls Try.prog 82 #[.slice A 0 c, .func (.func 93) #[] #[]] w fun e w' => ∃ (v0_ : Value), e = .returned v0_ ∧ SL w0 w' (rowA k79 79 v0_ [] :: F) := by
  have hue := Try.underlying194
  have hur := Try.underlying79
  have HS := Aside0.mk h
  clear h
  go_enter Try.func82, Try.ntmps82
  go_upto_region 2 with (first | ((with_reducible refine gate_dst (N := 2) rfl ?_); refine box_event ?hg (N := 2) ?hd (cs := #[.slice A 0 c]) (t := 155) ?hr ?_; (case hd => exact rfl); (case hg => exact rfl); (case hr => first | (go_simp; done) | (go_simp; rfl)); intro Bs hgb_ w1 hbox_ hb_; have n1_ := Aside0.mk (Sep.SL.newBlk (by repeat (first | (with_reducible first | exact HS.out | apply Sep.SL.drewN | apply Sep.SL.drew | apply Sep.SL.alloc) | exact HS.out)) hb_ hgb_ hbox_); clear HS hgb_ hbox_ hb_; have HS := n1_; clear n1_; have hz := HS.out.c0 0 rfl) | (go_at_call 116; refine (sort_none A c Bs _).mono ?_; rintro e w3 ⟨rfl, hb3⟩; have n1_ := Aside0.mk (SL.ext (by repeat (first | (with_reducible first | exact HS.out | apply Sep.SL.drewN | apply Sep.SL.drew | apply Sep.SL.alloc) | exact HS.out)) hb3); clear HS hb3 hz; have HS := n1_; clear n1_))
  have hz := HS.out.c0 0 rfl
  go_upto_region 5 with (fail)
  refine wp_loop_rounds 1 ?_
  rw [rounds_succ]
  go_wp2_with (fail)
  go_ret
  exact ⟨_, rfl, SL.nilRow (SL.drop (SL.drop (by repeat (first | (with_reducible first | exact HS.out | apply Sep.SL.drewN | apply Sep.SL.drew | apply Sep.SL.alloc) | exact HS.out)))) k79 79⟩
set_option maxHeartbeats 4000000 in
set_option maxRecDepth 100000 in
theorem sBoth.fine (A0 : Option Addr) (c0 : Nat) (l0 : List S79) (A1 : Option Addr) (c1 : Nat) (l1 : List S79) (w : World) (k : Nat) (hr0 : Kd.C k79 w A0 l0.length l0) (hc0 : l0.length ≤ c0) (hr1 : Kd.C k79 w A1 l1.length l1) (hc1 : l1.length ≤ c1) (hm : span_May.f k l0 = some true) (ho : span_May.f k l1 = some true) (hl : l0.length ≤ 200) (hl1 : l1.length ≤ 200) :
    Calls Try.prog 45 #[.slice A0 l0.length c0, .slice A1 l1.length c1] w fun e w' => ∃ v0_ : Value, e = .returned (.tuple #[v0_, .int .i64 (tld (swp sBoth.want (fun p => dsum p (edl 1 l0 ++ edl 1 l1)) (endsF [l0, l1] []) (-1) [])).2]) ∧ Kd.R k79 79 w' w.heap.size (fun _ => True) v0_ (tld (swp sBoth.want (fun p => dsum p (edl 1 l0 ++ edl 1 l1)) (endsF [l0, l1] []) (-1) [])).1 ∧ Below w.heap.size w w' := by
  have hur := Try.underlying79
  have HS := Aside0.mk (SL.start w)
  have HC := Aside0.mk hr0
  have HC1 := Aside0.mk hr1
  clear hr0 hr1
  go_enter Try.func45, Try.ntmps45
  go_upto_region 3 with (first | (go_at_call 79; (with_reducible refine (span_May.calls k A0 c0 l0 true _ ?hcm hc0 hm).mono ?_); (case hcm => exact (Kd.C_below HC.out (SL.below (w0 := w) (by repeat (first | (with_reducible first | exact HS.out | apply Sep.SL.drewN | apply Sep.SL.drew | apply Sep.SL.alloc) | exact HS.out))))); rintro e w2 ⟨rfl, hb2⟩; have n1_ := Aside0.mk (SL.ext (by repeat (first | (with_reducible first | exact HS.out | apply Sep.SL.drewN | apply Sep.SL.drew | apply Sep.SL.alloc) | exact HS.out)) hb2); clear HS hb2; have HS := n1_; clear n1_) | (go_at_call 79; (with_reducible refine (span_May.calls k A1 c1 l1 true _ ?hcm hc1 ho).mono ?_); (case hcm => exact (Kd.C_below HC1.out (SL.below (w0 := w) (by repeat (first | (with_reducible first | exact HS.out | apply Sep.SL.drewN | apply Sep.SL.drew | apply Sep.SL.alloc) | exact HS.out))))); rintro e w2 ⟨rfl, hb2⟩; have n1_ := Aside0.mk (SL.ext (by repeat (first | (with_reducible first | exact HS.out | apply Sep.SL.drewN | apply Sep.SL.drew | apply Sep.SL.alloc) | exact HS.out)) hb2); clear HS hb2; have HS := n1_; clear n1_))
  clear hm ho
  obtain ⟨xs, hxs⟩ : ∃ xs, xs = edl 1 l0 ++ edl 1 l1 := ⟨_, rfl⟩
  have hxl : xs.length = 2 * l0.length + 2 * l1.length := by rw [hxs, List.length_append, edl_length, edl_length]
  have HBY : Aside0 (∀ e ∈ xs, -1 ≤ e.f1 ∧ e.f1 ≤ 1) := ⟨fun e he => by
    rw [hxs] at he
    rcases List.mem_append.1 he with h_ | h_
    · exact edl_by 1 (by omega) _ e h_
    · exact edl_by 1 (by omega) _ e h_⟩
  have HX := Aside0.mk hxs
  have HXL := Aside0.mk hxl
  have hsw : Aside0 (∀ (w' : World) (g A : Option Addr) (cp : Nat) (F : List Asn), SL w w' (rowA k194 194 (.slice A xs.length cp) xs :: F) → Calls Try.prog 82 #[.slice A xs.length cp, .func (.func 93) #[] #[]] w' fun e w'' => ∃ (v0_ : Value), e = .returned v0_ ∧ SL w w'' (rowA k79 79 v0_ (swp sBoth.want (fun p => dsum p xs) (endsF [l0, l1] []) (-1) []) :: F)) := ⟨by
    intro w' _ A cp F h
    by_cases h0 : xs.length = 0
    · have e0 : xs = [] := List.eq_nil_of_length_eq_zero h0
      have e1 : l0 = [] := List.eq_nil_of_length_eq_zero (by omega)
      have e2 : l1 = [] := List.eq_nil_of_length_eq_zero (by omega)
      rw [e0] at h ⊢
      rw [e1, e2]
      exact sBoth.swept0 A cp F w w' h
    · obtain ⟨g, cp', e3⟩ := h.form 0 rfl (by omega)
      have e4 : A = some ⟨g, 0, none⟩ := by injection e3
      subst e4
      refine (sBoth.swept g cp xs F w w' h (by omega) (by omega) HBY.out).mono ?_
      rintro e w8 ⟨v8, ys, rfl, hp8, hs8, h8⟩
      rw [HX.out] at hp8
      rw [sw_canon sBoth.want 1 1 l0 l1 ys hp8 hs8, ← HX.out] at h8
      exact ⟨v8, rfl, h8⟩⟩
  clear hxs hxl
  go_wp2_with (first | ((with_reducible refine gate_builtin (b := .append) (xs := #[.tmp 15, .tmp 17]) rfl ?_); at_builtin; (with_reducible apply Sep.append_rows (d := k194) (t := 155) (e := 194) (s := .tmp 15) (x := .tmp 17) (xs := edl 1 l0) (ys := edl 1 l1)); (case hSL => exact Sep.SL.front (by repeat (first | (with_reducible first | exact HS6.out | apply Sep.SL.drewN | apply Sep.SL.drew | apply Sep.SL.alloc) | exact HS6.out)) 1 rfl); (case hgd => exact rfl); (case ho => exact rfl); (case ht => exact Try.underlying155); (case hinfo => exact info194); (case hz => exact rfl); (case hs0 => decide); (case hb0 => omega); (case hs => exact rfl); (case hx => exact rfl); (case hl => rw [edl_length, edl_length]; omega); intro v7 w7 h7; rw [← HX.out] at h7; obtain ⟨A7, cp7, e7⟩ := Sep.SL.slice h7 0 rfl; subst e7; have HS7 := Aside0.mk h7; clear h7 HS6) | (go_at_call 83; (with_reducible refine (edges_SL (w0 := w) (L := []) ?hs5 1 (by omega) l0 (by omega) A0 c0 ?hc5 hc0).mono ?_); (case hs5 => exact (by repeat (first | (with_reducible first | exact HS.out | apply Sep.SL.drewN | apply Sep.SL.drew | apply Sep.SL.alloc) | exact HS.out))); (case hc5 => exact Kd.C_below HC.out (Sep.SL.below (w0 := w) (by repeat (first | (with_reducible first | exact HS.out | apply Sep.SL.drewN | apply Sep.SL.drew | apply Sep.SL.alloc) | exact HS.out)))); rintro e w5 ⟨v5, rfl, h5, hb5⟩; have HS5 := Aside0.mk h5; clear h5 hb5) | (go_at_call 83; (with_reducible refine (edges_SL (w0 := w) (L := [rowA k194 194 v5 (edl 1 l0)]) ?hs6 1 (by omega) l1 (by omega) A1 c1 ?hc6 hc1).mono ?_); (case hs6 => exact (by repeat (first | (with_reducible first | exact HS5.out | apply Sep.SL.drewN | apply Sep.SL.drew | apply Sep.SL.alloc) | exact HS5.out))); (case hc6 => exact Kd.C_below HC1.out (Sep.SL.below (w0 := w) (by repeat (first | (with_reducible first | exact HS5.out | apply Sep.SL.drewN | apply Sep.SL.drew | apply Sep.SL.alloc) | exact HS5.out)))); rintro e w6 ⟨v6, rfl, h6, hb6⟩; obtain ⟨A6, c6, e6⟩ := Sep.SL.slice h6 0 rfl; subst e6; have HS6 := Aside0.mk h6; clear h6 hb6 HS5) | (go_at_call 82; refine (hsw.out _ none A7 cp7 _ (by repeat (first | (with_reducible first | exact HS7.out | apply Sep.SL.drewN | apply Sep.SL.drew | apply Sep.SL.alloc) | exact HS7.out))).mono ?_; rintro e w8 ⟨v8, rfl, h8⟩; rw [HX.out] at h8; have HS8 := Aside0.mk h8; clear h8) | (go_at_call 81; refine (told_SL (by repeat (first | (with_reducible first | exact HS8.out | apply Sep.SL.drewN | apply Sep.SL.drew | apply Sep.SL.alloc) | exact HS8.out))).mono ?_; rintro e w9 ⟨v9, rfl, h9⟩; have HS9 := Aside0.mk h9; clear h9))
  all_goals
    go_ret2
    exact ⟨_, rfl, HS9.out.row 0 rfl, HS9.out.1⟩
def span_Both.f (k : Nat) (l0 : List S79) (l1 : List S79) : Option (List S79 × Int) :=
  (span_May.f k l0).bind fun t => if t = true then (span_May.f k l1).bind fun u => if u = true then (if l0.length ≤ 200 then (if l1.length ≤ 200 then some (tld (swp sBoth.want (fun p => dsum p (edl 1 l0 ++ edl 1 l1)) (endsF [l0, l1] []) (-1) [])) else none) else none) else some ([], 4) else some ([], 4)
theorem span_Both.mono : ∀ l0 l1 k, LeO (span_Both.f k l0 l1) (span_Both.f (k + 1) l0 l1) := fun l0 l1 k => LeO.bind (span_May.mono l0 k) (fun _ => LeO.ite (LeO.bind (span_May.mono l1 k) (fun _ => LeO.refl _)) (LeO.refl _))
set_option maxHeartbeats 4000000 in
set_option maxRecDepth 100000 in
theorem span_Both.calls (k : Nat) (A0 : Option Addr) (c0 : Nat) (l0 : List (S79)) (A1 : Option Addr) (c1 : Nat) (l1 : List (S79)) (r1 : List (S79)) (r2 : Int) (w : World) (hr0 : Kd.C k79 w A0 l0.length l0) (hc0 : l0.length ≤ c0) (hr1 : Kd.C k79 w A1 l1.length l1) (hc1 : l1.length ≤ c1) (h : span_Both.f k l0 l1 = some (r1, r2)) :
    Calls Try.prog 45 #[.slice A0 l0.length c0, .slice A1 l1.length c1] w fun e w' => ∃ v0_ : Value, e = .returned (.tuple #[v0_, .int .i64 r2]) ∧ Kd.R k79 79 w' w.heap.size (fun _ => True) v0_ r1 ∧ Below w.heap.size w w' := by
  unfold span_Both.f at h
  cases hm : span_May.f k l0 with
  | none => rw [hm] at h; cases h
  | some t =>
    rw [hm] at h
    simp only [Option.bind_some] at h
    cases t with
    | false =>
      rw [if_neg (by simp)] at h
      simp only [Option.some.injEq, Prod.mk.injEq] at h
      obtain ⟨rfl, rfl⟩ := h
      have HS := Aside0.mk (SL.start w)
      have HC := Aside0.mk hr0
      clear hr0 hr1
      go_enter Try.func45, Try.ntmps45
      go_wp2_with (go_at_call 79; refine (span_May.calls k A0 c0 l0 false _ (Kd.C_below HC.out (SL.below (by repeat (first | (with_reducible first | exact HS.out | apply Sep.SL.drewN | apply Sep.SL.drew | apply Sep.SL.alloc) | exact HS.out)))) hc0 hm).mono ?_; rintro e w2 ⟨rfl, hb2⟩; have n1_ := Aside0.mk (SL.ext (by repeat (first | (with_reducible first | exact HS.out | apply Sep.SL.drewN | apply Sep.SL.drew | apply Sep.SL.alloc) | exact HS.out)) hb2); clear HS hb2; have HS := n1_; clear n1_)
      go_ret2
      exact ⟨_, rfl, Kd.R_nil _ _ _ _ _, SL.below (by repeat (first | (with_reducible first | exact HS.out | apply Sep.SL.drewN | apply Sep.SL.drew | apply Sep.SL.alloc) | exact HS.out))⟩
    | true =>
      rw [if_pos rfl] at h
      cases ho : span_May.f k l1 with
      | none => rw [ho] at h; cases h
      | some u =>
        rw [ho] at h
        simp only [Option.bind_some] at h
        cases u with
        | false =>
          rw [if_neg (by simp)] at h
          simp only [Option.some.injEq, Prod.mk.injEq] at h
          obtain ⟨rfl, rfl⟩ := h
          have HS := Aside0.mk (SL.start w)
          have HC := Aside0.mk hr0
          have HC1 := Aside0.mk hr1
          clear hr0 hr1
          go_enter Try.func45, Try.ntmps45
          go_wp2_with (first | (go_at_call 79; (with_reducible refine (span_May.calls k A0 c0 l0 true _ ?hcm hc0 hm).mono ?_); (case hcm => exact (Kd.C_below HC.out (SL.below (w0 := w) (by repeat (first | (with_reducible first | exact HS.out | apply Sep.SL.drewN | apply Sep.SL.drew | apply Sep.SL.alloc) | exact HS.out))))); rintro e w2 ⟨rfl, hb2⟩; have n1_ := Aside0.mk (SL.ext (by repeat (first | (with_reducible first | exact HS.out | apply Sep.SL.drewN | apply Sep.SL.drew | apply Sep.SL.alloc) | exact HS.out)) hb2); clear HS hb2; have HS := n1_; clear n1_) | (go_at_call 79; (with_reducible refine (span_May.calls k A1 c1 l1 false _ ?hcm hc1 ho).mono ?_); (case hcm => exact (Kd.C_below HC1.out (SL.below (w0 := w) (by repeat (first | (with_reducible first | exact HS.out | apply Sep.SL.drewN | apply Sep.SL.drew | apply Sep.SL.alloc) | exact HS.out))))); rintro e w2 ⟨rfl, hb2⟩; have n1_ := Aside0.mk (SL.ext (by repeat (first | (with_reducible first | exact HS.out | apply Sep.SL.drewN | apply Sep.SL.drew | apply Sep.SL.alloc) | exact HS.out)) hb2); clear HS hb2; have HS := n1_; clear n1_))
          go_ret2
          exact ⟨_, rfl, Kd.R_nil _ _ _ _ _, SL.below (by repeat (first | (with_reducible first | exact HS.out | apply Sep.SL.drewN | apply Sep.SL.drew | apply Sep.SL.alloc) | exact HS.out))⟩
        | true =>
          rw [if_pos rfl] at h
          by_cases hl : l0.length ≤ 200
          · rw [if_pos hl] at h
            by_cases hl1 : l1.length ≤ 200
            · rw [if_pos hl1] at h
              have h1 := congrArg Prod.fst (Option.some.inj h)
              have h2 := congrArg Prod.snd (Option.some.inj h)
              simp only at h1 h2
              rw [← h1, ← h2]
              exact sBoth.fine A0 c0 l0 A1 c1 l1 w k hr0 hc0 hr1 hc1 hm ho hl hl1
            · rw [if_neg hl1] at h; cases h
          · rw [if_neg hl] at h; cases h
theorem sb_stop : True := trivial

/-! ### quicksetref_SpanBoth: function 46 -/
open Go.Proofs.Ythnchojddoefiaa.Sep
def quicksetref_SpanBoth.f (k : Nat) (l0 : List S79) (l1 : List S79) : Option (List S79 × Int) :=
  (quicksetref_SpanMay.f k l0).bind fun t => if t = true then (quicksetref_SpanMay.f k l1).bind fun u => if u = true then some (tld (th (sBoth.so l0 l1) (endsF [l0, l1] []) [])) else some ([], 4) else some ([], 4)
theorem quicksetref_SpanBoth.mono : ∀ l0 l1 k, LeO (quicksetref_SpanBoth.f k l0 l1) (quicksetref_SpanBoth.f (k + 1) l0 l1) := fun l0 l1 k => LeO.bind (quicksetref_SpanMay.mono l0 k) (fun _ => LeO.ite (LeO.bind (quicksetref_SpanMay.mono l1 k) (fun _ => LeO.refl _)) (LeO.refl _))
set_option maxHeartbeats 4000000 in
set_option maxRecDepth 100000 in
theorem quicksetref_SpanBoth.calls (k : Nat) (A0 : Option Addr) (c0 : Nat) (l0 : List (S79)) (A1 : Option Addr) (c1 : Nat) (l1 : List (S79)) (r1 : List (S79)) (r2 : Int) (w : World) (hr0 : Kd.C k79 w A0 l0.length l0) (hc0 : l0.length ≤ c0) (hr1 : Kd.C k79 w A1 l1.length l1) (hc1 : l1.length ≤ c1) (h : quicksetref_SpanBoth.f k l0 l1 = some (r1, r2)) :
    Calls Try.prog 46 #[.slice A0 l0.length c0, .slice A1 l1.length c1] w fun e w' => ∃ v0_ : Value, e = .returned (.tuple #[v0_, .int .i64 r2]) ∧ Kd.R k79 79 w' w.heap.size (fun _ => True) v0_ r1 ∧ Below w.heap.size w w' := by
  unfold quicksetref_SpanBoth.f at h
  have hur := Try.underlying79
  cases hm : quicksetref_SpanMay.f k l0 with
  | none => rw [hm] at h; cases h
  | some t =>
    rw [hm] at h
    simp only [Option.bind_some] at h
    cases t with
    | false =>
      rw [if_neg (by simp)] at h
      simp only [Option.some.injEq, Prod.mk.injEq] at h
      obtain ⟨rfl, rfl⟩ := h
      have HS := Aside0.mk (SL.start w)
      have HC := Aside0.mk hr0
      have HC1 := Aside0.mk hr1
      clear hr0 hr1
      go_enter Try.func46, Try.ntmps46
      go_wp2_with (first | ((with_reducible refine gate_dst (N := 2) rfl ?_); refine box_event ?hg (N := 2) ?hd (cs := #[.slice A0 l0.length c0]) (t := 64) ?hr ?_; (case hd => exact rfl); (case hg => exact rfl); (case hr => first | (go_simp; done) | (go_simp; rfl)); intro pb hgb_ w0_ hbox_ hb_; have n1_ := Aside0.mk (Sep.SL.newBlk (by repeat (first | (with_reducible first | exact HS.out | apply Sep.SL.drewN | apply Sep.SL.drew | apply Sep.SL.alloc) | exact HS.out)) hb_ hgb_ hbox_); clear HS hgb_ hbox_ hb_; have HS := n1_; clear n1_) | ((with_reducible refine gate_dst (N := 3) rfl ?_); refine box_event ?hg (N := 3) ?hd (cs := #[.slice A1 l1.length c1]) (t := 64) ?hr ?_; (case hd => exact rfl); (case hg => exact rfl); (case hr => first | (go_simp; done) | (go_simp; rfl)); intro qb hgb_ w1 hbox_ hb_; have n1_ := Aside0.mk (Sep.SL.newBlk (by repeat (first | (with_reducible first | exact HS.out | apply Sep.SL.drewN | apply Sep.SL.drew | apply Sep.SL.alloc) | exact HS.out)) hb_ hgb_ hbox_); clear HS hgb_ hbox_ hb_; have HS := n1_; clear n1_; have hz := HS.out.c0 1 rfl; have hy := HS.out.c0 0 rfl) | (go_at_call 85; (with_reducible refine (quicksetref_SpanMay.calls k A0 c0 l0 false _ ?hc_ hc0 hm).mono ?_); (case hc_ => exact Kd.C_below HC.out (SL.below (w0 := w) (by repeat (first | (with_reducible first | exact HS.out | apply Sep.SL.drewN | apply Sep.SL.drew | apply Sep.SL.alloc) | exact HS.out)))); rintro e w2 ⟨rfl, hb2⟩; have n1_ := Aside0.mk (SL.ext (by repeat (first | (with_reducible first | exact HS.out | apply Sep.SL.drewN | apply Sep.SL.drew | apply Sep.SL.alloc) | exact HS.out)) hb2); clear HS hb2 hz hy; have HS := n1_; clear n1_))
      go_ret2
      exact ⟨_, rfl, Kd.R_nil _ _ _ _ _, SL.below (by repeat (first | (with_reducible first | exact HS.out | apply Sep.SL.drewN | apply Sep.SL.drew | apply Sep.SL.alloc) | exact HS.out))⟩
    | true =>
      rw [if_pos rfl] at h
      cases ho : quicksetref_SpanMay.f k l1 with
      | none => rw [ho] at h; cases h
      | some u =>
        rw [ho] at h
        simp only [Option.bind_some] at h
        cases u with
        | false =>
          rw [if_neg (by simp)] at h
          simp only [Option.some.injEq, Prod.mk.injEq] at h
          obtain ⟨rfl, rfl⟩ := h
          have HS := Aside0.mk (SL.start w)
          have HC := Aside0.mk hr0
          have HC1 := Aside0.mk hr1
          clear hr0 hr1
          go_enter Try.func46, Try.ntmps46
          go_wp2_with (first | ((with_reducible refine gate_dst (N := 2) rfl ?_); refine box_event ?hg (N := 2) ?hd (cs := #[.slice A0 l0.length c0]) (t := 64) ?hr ?_; (case hd => exact rfl); (case hg => exact rfl); (case hr => first | (go_simp; done) | (go_simp; rfl)); intro pb hgb_ w0_ hbox_ hb_; have n1_ := Aside0.mk (Sep.SL.newBlk (by repeat (first | (with_reducible first | exact HS.out | apply Sep.SL.drewN | apply Sep.SL.drew | apply Sep.SL.alloc) | exact HS.out)) hb_ hgb_ hbox_); clear HS hgb_ hbox_ hb_; have HS := n1_; clear n1_) | ((with_reducible refine gate_dst (N := 3) rfl ?_); refine box_event ?hg (N := 3) ?hd (cs := #[.slice A1 l1.length c1]) (t := 64) ?hr ?_; (case hd => exact rfl); (case hg => exact rfl); (case hr => first | (go_simp; done) | (go_simp; rfl)); intro qb hgb_ w1 hbox_ hb_; have n1_ := Aside0.mk (Sep.SL.newBlk (by repeat (first | (with_reducible first | exact HS.out | apply Sep.SL.drewN | apply Sep.SL.drew | apply Sep.SL.alloc) | exact HS.out)) hb_ hgb_ hbox_); clear HS hgb_ hbox_ hb_; have HS := n1_; clear n1_; have hz := HS.out.c0 1 rfl; have hy := HS.out.c0 0 rfl) | (go_at_call 85; (with_reducible refine (quicksetref_SpanMay.calls k A0 c0 l0 true _ ?hc_ hc0 hm).mono ?_); (case hc_ => exact Kd.C_below HC.out (SL.below (w0 := w) (by repeat (first | (with_reducible first | exact HS.out | apply Sep.SL.drewN | apply Sep.SL.drew | apply Sep.SL.alloc) | exact HS.out)))); rintro e w2 ⟨rfl, hb2⟩; have n1_ := Aside0.mk (SL.ext (by repeat (first | (with_reducible first | exact HS.out | apply Sep.SL.drewN | apply Sep.SL.drew | apply Sep.SL.alloc) | exact HS.out)) hb2); clear HS hb2 hz hy; have HS := n1_; clear n1_; have hz := HS.out.c0 1 rfl; have hy := HS.out.c0 0 rfl) | (go_at_call 85; (with_reducible refine (quicksetref_SpanMay.calls k A1 c1 l1 false _ ?hc_ hc1 ho).mono ?_); (case hc_ => exact Kd.C_below HC1.out (SL.below (w0 := w) (by repeat (first | (with_reducible first | exact HS.out | apply Sep.SL.drewN | apply Sep.SL.drew | apply Sep.SL.alloc) | exact HS.out)))); rintro e w2 ⟨rfl, hb2⟩; have n1_ := Aside0.mk (SL.ext (by repeat (first | (with_reducible first | exact HS.out | apply Sep.SL.drewN | apply Sep.SL.drew | apply Sep.SL.alloc) | exact HS.out)) hb2); clear HS hb2 hz hy; have HS := n1_; clear n1_))
          go_ret2
          exact ⟨_, rfl, Kd.R_nil _ _ _ _ _, SL.below (by repeat (first | (with_reducible first | exact HS.out | apply Sep.SL.drewN | apply Sep.SL.drew | apply Sep.SL.alloc) | exact HS.out))⟩
        | true =>
          rw [if_pos rfl] at h
          have h1 := congrArg Prod.fst (Option.some.inj h)
          have h2 := congrArg Prod.snd (Option.some.inj h)
          simp only at h1 h2
          rw [← h1, ← h2]
          exact sBoth.ref A0 c0 l0 A1 c1 l1 w k hr0 hc0 hr1 hc1 hm ho

/-! ### quicksetlaw_SpanBoths: function 14 -/
def quicksetlaw_SpanBoths.f (k : Nat) (l0 : List (S79)) (l1 : List (S79)) : Option (Bool) := (span_Both.f k l0 l1).bind fun bt215 => ((quicksetref_SpanBoth.f k l0 l1).bind fun bt219 => ((quicksetlaw_sameRanges.f k bt215.1 bt219.1).bind fun t223 => (if t223 = true then (some (bt215.2 == bt219.2)) else (some false))))
theorem quicksetlaw_SpanBoths.mono : ∀ a0 a1 k, LeO (quicksetlaw_SpanBoths.f k a0 a1) (quicksetlaw_SpanBoths.f (k + 1) a0 a1) := by
  intro a0 a1 k
  unfold quicksetlaw_SpanBoths.f
  repeat' first
      | (with_reducible exact quicksetlaw_sameRanges.mono _ _ _)
      | (with_reducible exact quicksetref_SpanBoth.mono _ _ _)
      | (with_reducible exact span_Both.mono _ _ _)
      | (with_reducible exact LeO.refl _)
      | (with_reducible exact LeO.none _)
      | (with_reducible refine LeO.ite ?_ ?_)
      | (with_reducible refine LeO.bind ?_ (fun _ => ?_))
      | exact quicksetlaw_sameRanges.mono _ _ _
      | exact quicksetref_SpanBoth.mono _ _ _
      | exact span_Both.mono _ _ _
      | exact LeO.none _
      | refine LeO.ite ?_ ?_
      | refine LeO.bind ?_ (fun _ => ?_)
set_option maxHeartbeats 8000000 in
set_option maxRecDepth 100000 in
theorem quicksetlaw_SpanBoths.calls (k : Nat) (A0 : Option Addr) (c0 : Nat) (l0 : List (S79)) (A1 : Option Addr) (c1 : Nat) (l1 : List (S79)) (r : Bool) (w : World) (hr0 : Kd.C k79 w A0 l0.length l0) (hc0 : l0.length ≤ c0) (hr1 : Kd.C k79 w A1 l1.length l1) (hc1 : l1.length ≤ c1) (h : quicksetlaw_SpanBoths.f k l0 l1 = some r) :
    Calls Try.prog 14 #[.slice A0 l0.length c0, .slice A1 l1.length c1] w fun e w' => e = .returned (.bool r) ∧ Below w.heap.size w w' := by
  have HR0 := Aside0.mk hr0
  have HC0 := Aside0.mk hc0
  clear hr0 hc0
  have HR1 := Aside0.mk hr1
  have HC1 := Aside0.mk hc1
  clear hr1 hc1
  have HB := Aside0.mk (Below.refl w.heap.size w)
  have H : ((span_Both.f k l0 l1).bind fun bt215 => ((quicksetref_SpanBoth.f k l0 l1).bind fun bt219 => ((quicksetlaw_sameRanges.f k bt215.1 bt219.1).bind fun t223 => (if t223 = true then (some (bt215.2 == bt219.2)) else (some false))))) = some r := h
  clear h
  replace H := Option.bind_eq_some_iff.mp H
  obtain ⟨⟨t215, t216⟩, A30, H⟩ := H
  replace H : ((quicksetref_SpanBoth.f k l0 l1).bind fun bt219 => ((quicksetlaw_sameRanges.f k t215 bt219.1).bind fun t223 => (if t223 = true then (some (t216 == bt219.2)) else (some false)))) = some r := H
  have A3 := Aside0.mk A30
  clear A30
  replace H := Option.bind_eq_some_iff.mp H
  obtain ⟨⟨t219, t220⟩, A40, H⟩ := H
  replace H : ((quicksetlaw_sameRanges.f k t215 t219).bind fun t223 => (if t223 = true then (some (t216 == t220)) else (some false))) = some r := H
  have A4 := Aside0.mk A40
  clear A40
  replace H := Option.bind_eq_some_iff.mp H
  obtain ⟨t223, A50, H⟩ := H
  replace H : (if t223 = true then (some (t216 == t220)) else (some false)) = some r := H
  have A5 := Aside0.mk A50
  clear A50
  by_cases c6 : t223 = true
  · subst c6
    have H1 : (some (t216 == t220)) = some r := by rw [if_pos rfl] at H; exact H
    clear H
    have H := H1
    clear H1
    obtain rfl := Option.some.inj H
    go_enter Try.func14, Try.ntmps14
    go_wp2_with (first | ((with_reducible refine gate_callee (f := 45) rfl ?_); refine goesL_ (some 12) rfl rfl Try.func45 (by kernel_rfl) rfl #[.slice A0 l0.length c0, .slice A1 l1.length c1] rfl (by (try simp only [List.map_toArray, List.map_cons, List.map_nil]); first | done | rfl | (simp only [List.length_drop, List.length_take]; rfl)) ?_; (with_reducible refine (span_Both.calls k _ _ l0 _ _ l1 t215 t216 _ ?side1 ?side2 ?side3 ?side4 A3.out).mono ?_); (case side1 => repeat (first | exact HR0.out | (with_reducible refine Kd.C_alloc ?_ _) | (with_reducible refine Kd.C_drewN ?_ _) | (with_reducible refine Kd.C_drew ?_))); (case side2 => exact HC0.out); (case side3 => repeat (first | exact HR1.out | (with_reducible refine Kd.C_alloc ?_ _) | (with_reducible refine Kd.C_drewN ?_ _) | (with_reducible refine Kd.C_drew ?_))); (case side4 => exact HC1.out); rintro e w7 ⟨v217, rfl, ho0, hb⟩; refine ⟨_, rfl, ?_⟩; have n0_ := Aside0.mk (Kd.R_lower ho0 (below_size (by repeat (first | (with_reducible first | exact HB.out | apply below_alloc | apply pw_below_drewN | apply below_drew1) | exact HB.out)))); have n1_ := Aside0.mk (below_step (by repeat (first | (with_reducible first | exact HB.out | apply below_alloc | apply pw_below_drewN | apply below_drew1) | exact HB.out)) hb); clear HB; have HO218 := n0_; have HB := n1_; clear n0_ n1_; (try clear hb); (try clear hb2); (try clear hk); (try clear hi); (try clear ho0)) | ((with_reducible refine gate_callee (f := 46) rfl ?_); refine goesL_ (some 18) rfl rfl Try.func46 (by kernel_rfl) rfl #[.slice A0 l0.length c0, .slice A1 l1.length c1] rfl (by (try simp only [List.map_toArray, List.map_cons, List.map_nil]); first | done | rfl | (simp only [List.length_drop, List.length_take]; rfl)) ?_; (with_reducible refine (quicksetref_SpanBoth.calls k _ _ l0 _ _ l1 t219 t220 _ ?side1 ?side2 ?side3 ?side4 A4.out).mono ?_); (case side1 => repeat (first | exact (Kd.C_below HR0.out HB.out) | (with_reducible refine Kd.C_alloc ?_ _) | (with_reducible refine Kd.C_drewN ?_ _) | (with_reducible refine Kd.C_drew ?_))); (case side2 => exact HC0.out); (case side3 => repeat (first | exact (Kd.C_below HR1.out HB.out) | (with_reducible refine Kd.C_alloc ?_ _) | (with_reducible refine Kd.C_drewN ?_ _) | (with_reducible refine Kd.C_drew ?_))); (case side4 => exact HC1.out); rintro e w8 ⟨v221, rfl, ho0, hb⟩; refine ⟨_, rfl, ?_⟩; have n0_ := Aside0.mk (Kd.R_elder' (by (with_reducible repeat (first | apply Kd.R_alloc | apply Kd.R_drewN | apply Kd.R_drew)); exact HO218.out) (Kd.R_base ho0) hb); have n1_ := Aside0.mk (Kd.R_lower (Kd.R_new' ho0 (Kd.R_lt (by (with_reducible repeat (first | apply Kd.R_alloc | apply Kd.R_drewN | apply Kd.R_drew)); exact HO218.out))) (below_size (by repeat (first | (with_reducible first | exact HB.out | apply below_alloc | apply pw_below_drewN | apply below_drew1) | exact HB.out)))); have n2_ := Aside0.mk (below_step (by repeat (first | (with_reducible first | exact HB.out | apply below_alloc | apply pw_below_drewN | apply below_drew1) | exact HB.out)) hb); clear HO218; clear HB; have HO218 := n0_; have HO222 := n1_; have HB := n2_; clear n0_ n1_ n2_; (try clear hb); (try clear hb2); (try clear hk); (try clear hi); (try clear ho0); obtain ⟨Ao9, co9, eo9⟩ := Kd.R_slice HO218.out; subst eo9; obtain ⟨Ao10, co10, eo10⟩ := Kd.R_slice HO222.out; subst eo10) | ((with_reducible refine gate_callee (f := 34) rfl ?_); refine goesL_ (some 23) rfl rfl Try.func34 (by kernel_rfl) rfl #[.slice Ao9 t215.length co9, .slice Ao10 t219.length co10] rfl (by (try simp only [List.map_toArray, List.map_cons, List.map_nil]); first | done | rfl | (simp only [List.length_drop, List.length_take]; rfl)) ?_; (with_reducible refine (quicksetlaw_sameRanges.calls k _ _ t215 _ _ t219 true _ ?side1 ?side2 ?side3 ?side4 A5.out).mono ?_); (case side1 => repeat (first | exact (Kd.R_reads' HO218.out).2.2 | (with_reducible refine Kd.C_alloc ?_ _) | (with_reducible refine Kd.C_drewN ?_ _) | (with_reducible refine Kd.C_drew ?_))); (case side2 => exact (Kd.R_reads' HO218.out).2.1); (case side3 => repeat (first | exact (Kd.R_reads' HO222.out).2.2 | (with_reducible refine Kd.C_alloc ?_ _) | (with_reducible refine Kd.C_drewN ?_ _) | (with_reducible refine Kd.C_drew ?_))); (case side4 => exact (Kd.R_reads' HO222.out).2.1); rintro e w' ⟨rfl, ⟨nd, rfl⟩⟩; refine ⟨_, rfl, ?_⟩))
    go_ret
    exact ⟨by first | rfl | (simp [errW_none, errW_some] <;> rfl) | (simp [*, errW_none, errW_some] <;> rfl), by repeat (first | (with_reducible first | exact HB.out | apply below_alloc | apply pw_below_drewN | apply below_drew1) | exact HB.out)⟩
  · replace c6 := Bool.eq_false_iff.mpr c6
    subst c6
    have H1 : (some false) = some r := by rw [if_neg (show ¬ (false = true) by decide)] at H; exact H
    clear H
    have H := H1
    clear H1
    obtain rfl := Option.some.inj H
    go_enter Try.func14, Try.ntmps14
    go_wp2_with (first | ((with_reducible refine gate_callee (f := 45) rfl ?_); refine goesL_ (some 12) rfl rfl Try.func45 (by kernel_rfl) rfl #[.slice A0 l0.length c0, .slice A1 l1.length c1] rfl (by (try simp only [List.map_toArray, List.map_cons, List.map_nil]); first | done | rfl | (simp only [List.length_drop, List.length_take]; rfl)) ?_; (with_reducible refine (span_Both.calls k _ _ l0 _ _ l1 t215 t216 _ ?side1 ?side2 ?side3 ?side4 A3.out).mono ?_); (case side1 => repeat (first | exact HR0.out | (with_reducible refine Kd.C_alloc ?_ _) | (with_reducible refine Kd.C_drewN ?_ _) | (with_reducible refine Kd.C_drew ?_))); (case side2 => exact HC0.out); (case side3 => repeat (first | exact HR1.out | (with_reducible refine Kd.C_alloc ?_ _) | (with_reducible refine Kd.C_drewN ?_ _) | (with_reducible refine Kd.C_drew ?_))); (case side4 => exact HC1.out); rintro e w11 ⟨v217, rfl, ho0, hb⟩; refine ⟨_, rfl, ?_⟩; have n0_ := Aside0.mk (Kd.R_lower ho0 (below_size (by repeat (first | (with_reducible first | exact HB.out | apply below_alloc | apply pw_below_drewN | apply below_drew1) | exact HB.out)))); have n1_ := Aside0.mk (below_step (by repeat (first | (with_reducible first | exact HB.out | apply below_alloc | apply pw_below_drewN | apply below_drew1) | exact HB.out)) hb); clear HB; have HO218 := n0_; have HB := n1_; clear n0_ n1_; (try clear hb); (try clear hb2); (try clear hk); (try clear hi); (try clear ho0)) | ((with_reducible refine gate_callee (f := 46) rfl ?_); refine goesL_ (some 18) rfl rfl Try.func46 (by kernel_rfl) rfl #[.slice A0 l0.length c0, .slice A1 l1.length c1] rfl (by (try simp only [List.map_toArray, List.map_cons, List.map_nil]); first | done | rfl | (simp only [List.length_drop, List.length_take]; rfl)) ?_; (with_reducible refine (quicksetref_SpanBoth.calls k _ _ l0 _ _ l1 t219 t220 _ ?side1 ?side2 ?side3 ?side4 A4.out).mono ?_); (case side1 => repeat (first | exact (Kd.C_below HR0.out HB.out) | (with_reducible refine Kd.C_alloc ?_ _) | (with_reducible refine Kd.C_drewN ?_ _) | (with_reducible refine Kd.C_drew ?_))); (case side2 => exact HC0.out); (case side3 => repeat (first | exact (Kd.C_below HR1.out HB.out) | (with_reducible refine Kd.C_alloc ?_ _) | (with_reducible refine Kd.C_drewN ?_ _) | (with_reducible refine Kd.C_drew ?_))); (case side4 => exact HC1.out); rintro e w12 ⟨v221, rfl, ho0, hb⟩; refine ⟨_, rfl, ?_⟩; have n0_ := Aside0.mk (Kd.R_elder' (by (with_reducible repeat (first | apply Kd.R_alloc | apply Kd.R_drewN | apply Kd.R_drew)); exact HO218.out) (Kd.R_base ho0) hb); have n1_ := Aside0.mk (Kd.R_lower (Kd.R_new' ho0 (Kd.R_lt (by (with_reducible repeat (first | apply Kd.R_alloc | apply Kd.R_drewN | apply Kd.R_drew)); exact HO218.out))) (below_size (by repeat (first | (with_reducible first | exact HB.out | apply below_alloc | apply pw_below_drewN | apply below_drew1) | exact HB.out)))); have n2_ := Aside0.mk (below_step (by repeat (first | (with_reducible first | exact HB.out | apply below_alloc | apply pw_below_drewN | apply below_drew1) | exact HB.out)) hb); clear HO218; clear HB; have HO218 := n0_; have HO222 := n1_; have HB := n2_; clear n0_ n1_ n2_; (try clear hb); (try clear hb2); (try clear hk); (try clear hi); (try clear ho0); obtain ⟨Ao13, co13, eo13⟩ := Kd.R_slice HO218.out; subst eo13; obtain ⟨Ao14, co14, eo14⟩ := Kd.R_slice HO222.out; subst eo14) | ((with_reducible refine gate_callee (f := 34) rfl ?_); refine goesL_ (some 23) rfl rfl Try.func34 (by kernel_rfl) rfl #[.slice Ao13 t215.length co13, .slice Ao14 t219.length co14] rfl (by (try simp only [List.map_toArray, List.map_cons, List.map_nil]); first | done | rfl | (simp only [List.length_drop, List.length_take]; rfl)) ?_; (with_reducible refine (quicksetlaw_sameRanges.calls k _ _ t215 _ _ t219 false _ ?side1 ?side2 ?side3 ?side4 A5.out).mono ?_); (case side1 => repeat (first | exact (Kd.R_reads' HO218.out).2.2 | (with_reducible refine Kd.C_alloc ?_ _) | (with_reducible refine Kd.C_drewN ?_ _) | (with_reducible refine Kd.C_drew ?_))); (case side2 => exact (Kd.R_reads' HO218.out).2.1); (case side3 => repeat (first | exact (Kd.R_reads' HO222.out).2.2 | (with_reducible refine Kd.C_alloc ?_ _) | (with_reducible refine Kd.C_drewN ?_ _) | (with_reducible refine Kd.C_drew ?_))); (case side4 => exact (Kd.R_reads' HO222.out).2.1); rintro e w' ⟨rfl, ⟨nd, rfl⟩⟩; refine ⟨_, rfl, ?_⟩))
    go_ret
    exact ⟨by first | rfl | (simp [errW_none, errW_some] <;> rfl) | (simp [*, errW_none, errW_some] <;> rfl), by repeat (first | (with_reducible first | exact HB.out | apply below_alloc | apply pw_below_drewN | apply below_drew1) | exact HB.out)⟩

end Go.Proofs.Ythnchojddoefiaa.QSpanAdds
