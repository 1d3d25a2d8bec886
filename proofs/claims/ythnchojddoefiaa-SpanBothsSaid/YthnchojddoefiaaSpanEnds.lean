/- The function ends of the reference, walked; no conditions. -/
import Derived.Test.YthnchojddoefiaaSpanTh
import Derived.Test.YthnchojddoefiaaSep
import Derived.Test.YthnchojddoefiaaSepCopy
import Derived.Test.YthnchojddoefiaaSortRow
import Derived.Test.YthnchojddoefiaaSortLay
import Derived.Deep.RegionLaw
import Derived.StillTailTactics
import Derived.IntWalk
set_option linter.unusedVariables false
set_option linter.unusedSimpArgs false
namespace Go.Proofs.Ythnchojddoefiaa.QSpanAdds
open Go.RowKit Go.Proofs.YthnchojddoefiaaW.PrintWords Go.Proofs.YthnchojddoefiaaW.PrintLast Go.Proofs.YthnchojddoefiaaW.PrintMore
open Go.Proofs.Ythnchojddoefiaa.Sep Go.Proofs.Ythnchojddoefiaa.SortRow Go.Proofs.Ythnchojddoefiaa.SortLay Go.Sort
theorem info3 : (Try.prog.info? 3).map (fun i => (i.zero, i.size, i.bytes)) = some (some (.int .i64 0), 1, 8) := by kernel_rfl
def insl : List Int → List Int → List Int
  | [], out => out
  | n :: ns, out => insl ns (ins n out)
theorem ins_len (n : Int) : ∀ l : List Int, (ins n l).length ≤ l.length + 1
  | [] => by simp [ins]
  | y :: l => by
    have := ins_len n l
    rw [ins]
    split
    · rw [List.length_cons, List.length_cons]; omega
    · split <;> simp
theorem ins_split (n : Int) : ∀ (a b : List Int), (∀ x ∈ a, x < n) → (∀ x ∈ b, n ≤ x) → ins n (a ++ b) = a ++ (match b with | [] => [n] | y :: b' => if y = n then y :: b' else n :: y :: b')
  | [], [], _, _ => rfl
  | [], y :: b, _, h => by
    have hy := h y List.mem_cons_self
    show ins n (y :: b) = if y = n then y :: b else n :: y :: b
    rw [ins, if_neg (by omega)]
  | x :: a, b, h, h2 => by
    have hx := h x List.mem_cons_self
    show ins n (x :: (a ++ b)) = x :: (a ++ _)
    rw [ins, if_pos hx, ins_split n a b (fun y hy => h y (List.mem_cons_of_mem _ hy)) h2]
/-- The block of a row of numbers: its cells. -/
theorem row_cur {e g n cap B : Nat} {w : World} {ok : Nat → Prop} {xs : List Int} (h : Kd.R (Kd.int .i64) e w B ok (.slice (some ⟨g, 0, none⟩) n cap) xs) : ∃ cur : List Value, w.heap[g]? = some (.cells cur.toArray e (0, 0)) ∧ n = xs.length ∧ xs.length ≤ cap ∧ cur.length = cap ∧ cap ≤ maxLen ∧ cur.take xs.length = xs.map (Value.int .i64) := by
  obtain ⟨_, inner, ⟨hl, ho⟩, hr⟩ := h
  rcases ho with ⟨ho, _⟩ | ⟨g', cap', cur, hv, hg, hh, h1, h2, h3, h4⟩
  · cases ho
  · have e1 : g = g' := by injection hv with a; injection a with a; injection a
    have e2 : n = xs.length := by injection hv
    have e3 : cap = cap' := by injection hv
    subst e1 e2 e3
    have hsz : (Kd.int .i64).sz = 1 := rfl
    rw [hsz, Nat.mul_one] at hl h3 h4
    refine ⟨cur.toList, by rw [hh], rfl, h1, by rw [Array.length_toList]; exact h3, h2, ?_⟩
    rw [h4]
    apply List.ext_getElem?
    intro j
    by_cases hj : j < xs.length
    · have h5 := hr.2 j xs[j] (List.getElem?_eq_getElem hj)
      have h6 : (inner.drop (j * 1)).take 1 = [.int .i64 xs[j]] := h5
      rw [Nat.mul_one] at h6
      have h7 : ((inner.drop j).take 1)[0]? = some (.int .i64 xs[j]) := by rw [h6]; rfl
      rw [List.getElem?_take_of_lt (by omega), List.getElem?_drop, Nat.add_zero] at h7
      rw [h7, List.getElem?_map, List.getElem?_eq_getElem hj]
      rfl
    · rw [List.getElem?_eq_none (by omega), List.getElem?_eq_none (by rw [List.length_map]; omega)]
theorem row_of_cur {e g cap B : Nat} {w : World} {ok : Nat → Prop} {xs : List Int} {cur : List Value} (hok : ok g) (hB : B ≤ g) (hh : w.heap[g]? = some (.cells cur.toArray e (0, 0))) (h1 : xs.length ≤ cap) (h2 : cur.length = cap) (h3 : cap ≤ maxLen) (h4 : cur.take xs.length = xs.map (Value.int .i64)) : Kd.R (Kd.int .i64) e w B ok (.slice (some ⟨g, 0, none⟩) xs.length cap) xs := by
  have hsz : (Kd.int .i64).sz = 1 := rfl
  refine ⟨fun k hk => by have : g = k := by simpa [Value.ownBlock] using hk
                         exact this ▸ hok, xs.map (Value.int .i64), ⟨by rw [List.length_map, hsz, Nat.mul_one], .inr ⟨g, cap, cur.toArray, rfl, hB, hh, h1, h3, by rw [hsz, Nat.mul_one]; simpa using h2, by rw [hsz, Nat.mul_one]; simpa using h4⟩⟩, by rw [List.length_map, hsz, Nat.mul_one], fun j p hj => ?_⟩
  show ((xs.map (Value.int .i64)).drop (j * 1)).take 1 = [Value.int .i64 p]
  obtain ⟨hlt, he⟩ := List.getElem?_eq_some_iff.1 hj
  rw [Nat.mul_one, List.drop_eq_getElem_cons (by rw [List.length_map]; exact hlt), List.take_succ_cons, List.take_zero, List.getElem_map, he]
theorem ins_facts {a n c : Nat} (h : a ≤ n) (h2 : n ≤ 3000) (h3 : n + 1 ≤ c) : IntKind.i64.wrap ((a : Int) + 1) = (a : Int) + 1 ∧ wrap64 ((a : Int) + 1) = (a : Int) + 1 ∧ ((a + 1 ≤ n + 1) = True) ∧ (n + 1 ≤ c) ∧ ((a + 1 ≤ c) = True) ∧ ((a ≤ c) = True) ∧ ((a ≤ n + 1) = True) ∧ ((a ≤ n) = True) ∧ ((0 ≤ (a : Int) + 1) = True) ∧ ((0 ≤ (a : Int)) = True) ∧ (((a : Int) ≤ (n : Int) + 1) = True) ∧ (((a : Int) + 1 ≤ (n : Int) + 1) = True) :=
  ⟨IntWalk.i64_in _ (by omega), by unfold wrap64; omega, eq_true (by omega), h3, eq_true (by omega), eq_true (by omega), eq_true (by omega), eq_true h, eq_true (by omega), eq_true (by omega), eq_true (by omega), eq_true (by omega)⟩
theorem ins_min {o : List Int} {a : Nat} (h : a ≤ o.length) : (o.drop a).length = Nat.min (o.length + 1 - a) (o.length - a) := by
  rw [List.length_drop]
  exact (Nat.min_eq_right (by omega : o.length - a ≤ o.length + 1 - a)).symm
theorem ins_fit {o : List Int} {a : Nat} (h : a ≤ o.length) : a + 1 + (o.drop a).length ≤ (o ++ [0]).length := by simp only [List.length_append, List.length_drop, List.length_singleton]; omega
theorem ins_shift_len {o : List Int} {a : Nat} (h : a ≤ o.length) : ((o ++ [0]).take (a + 1) ++ (o.drop a ++ (o ++ [0]).drop (a + 1 + (o.drop a).length))).length = o.length + 1 := by
  simp only [List.length_append, List.length_take, List.length_drop, List.length_singleton]; omega
theorem ins_lt {o : List Int} {a : Nat} (h : a ≤ o.length) : (a : Int) < (((o ++ [0]).take (a + 1) ++ (o.drop a ++ (o ++ [0]).drop (a + 1 + (o.drop a).length))).length : Int) := by rw [ins_shift_len h]; omega
theorem ins_lt3 {o : List Int} {a : Nat} (h : a ≤ o.length) : ((a : Int) < (o.length : Int) + 1) = True := eq_true (by omega)
theorem ins_lt4 {o : List Int} {a : Nat} (h : a ≤ o.length) : (a < o.length + 1) = True := eq_true (by omega)
theorem ins_shift {o : List Int} {a : Nat} (h : a ≤ o.length) (n : Int) : ((o ++ [0]).take (a + 1) ++ (o.drop a ++ (o ++ [0]).drop (a + 1 + (o.drop a).length))).set a n = o.take a ++ n :: o.drop a := by
  have e1 : (o ++ [0]).drop (a + 1 + (o.drop a).length) = [] := List.drop_eq_nil_of_le (by simp only [List.length_append, List.length_drop, List.length_singleton]; omega)
  rw [e1, List.append_nil]
  have e2 : ∃ y, (o ++ [0]).take (a + 1) = o.take a ++ [y] := by
    refine ⟨(o ++ [0])[a]'(by simp; omega), ?_⟩
    rw [List.take_succ_eq_append_getElem (by simp; omega), List.take_append_of_le_length h]
  obtain ⟨y, e2⟩ := e2
  rw [e2, List.append_assoc, List.set_append_right _ _ (by rw [List.length_take]; omega), List.length_take, Nat.min_eq_left h, Nat.sub_self]
  rfl
theorem ins_pos {w0 w : World} {l : List Asn} {g c e a : Nat} {o : List Int} (h : SL w0 w (rowA (Kd.int .i64) e (.slice (some ⟨g, 0, none⟩) (o.length + 1) c) (o ++ [0]) :: l)) (hc : o.length + 1 ≤ c) (hp : 0 < (o.drop a).length) :
    (if c = a + 1 then some (⟨g, 0, none⟩ : Addr) else some ⟨g, a + 1, none⟩) = some ⟨g, a + 1, none⟩ ∧ ∃ ad, (if c = a then some (⟨g, 0, none⟩ : Addr) else some ⟨g, a, none⟩) = some ad ∧ ∀ j y, (o.drop a)[j]? = some y → w.cell? (ad.add j) = some (.int .i64 y) := by
  rw [List.length_drop] at hp
  rw [if_neg (by omega), if_neg (by omega)]
  refine ⟨rfl, _, rfl, fun j y hj => ?_⟩
  rw [List.getElem?_drop] at hj
  obtain ⟨hlt, he⟩ := List.getElem?_eq_some_iff.1 hj
  have := (h.int 0 rfl ((a + j : Nat) : Int) (by omega) (by rw [List.length_append]; omega)).1
  rw [Int.toNat_natCast] at this
  rw [show (⟨g, a, none⟩ : Addr).add j = ⟨g, a + j, none⟩ from by simp [Addr.add]]
  rw [this]
  congr 2
  unfold Go.Proofs.YthnchojddoefiaaW.PrintWords.rd
  rw [Int.toNat_natCast, List.getD_eq_getElem?_getD, List.getElem?_append_left hlt, hj]
  rfl
set_option maxHeartbeats 4000000 in
set_option maxRecDepth 100000 in
theorem ends_calls (A : Option Addr) (c : Nat) (ls : List (List S79)) (w : World) (hC : Kd.C (Kd.slice 79 k79) w A ls.length ls) (hc : ls.length ≤ c) (hl : ls.length ≤ 4) (hll : ∀ l ∈ ls, l.length ≤ 200) :
    Calls Try.prog 88 #[.slice A ls.length c] w fun e w' => ∃ (g cp : Nat) (v0_ : Value), e = .returned v0_ ∧ Kd.R (Kd.int .i64) 3 w' w.heap.size (fun _ => True) v0_ (endsF ls []) ∧ Below w.heap.size w w' := by
  have hur := Try.underlying79
  have HC := Aside0.mk hC
  have HLL := Aside0.mk hll
  have HS := Aside0.mk (SL.nilRow (SL.start w) (Kd.int .i64) 3)
  clear hC hll
  go_enter Try.func88, Try.ntmps88
  go_upto_region 3 with (fail)
  go_loopg [3, 13] ls.length (fun kq v3 v13 wr => ∃ (i : Int) (out : List Int), v13 = .int .i64 i ∧ 0 ≤ i ∧ i + kq = (ls.length : Int) ∧ (out.length : Int) ≤ 400 * i ∧ Aside0 (out.Pairwise (· < ·)) ∧ Aside0 (endsF (ls.drop i.toNat) out = endsF ls []) ∧ Aside0 (SL w wr [rowA (Kd.int .i64) 3 v3 out]))
  case atStart => exact ⟨0, [], rfl, by omega, by omega, by simp, ⟨List.Pairwise.nil⟩, ⟨by simp⟩, by repeat (first | exact HS | exact Aside0.mk (by repeat (first | (with_reducible first | exact HS.out | apply Sep.SL.drewN | apply Sep.SL.drew | apply Sep.SL.alloc) | exact HS.out)))⟩
  case round =>
    clear HS
    obtain ⟨i, out, rfl, hi0, hik, hol, HO, HI, HS⟩ := hrel
    have hw1_ : wrap64 (i + 1) = i + 1 := by unfold wrap64; omega
    cases gk with
    | zero =>
      have hit : decide (i < (ls.length : Int)) = false := decide_eq_false (by omega)
      have HI2 := HI.out
      rw [List.drop_eq_nil_of_le (by omega), endsF] at HI2
      have HI := Aside0.mk HI2
      clear HI2
      go_wp2_with (fail)
      go_ret
      rw [← HI.out]
      exact ⟨0, 0, _, rfl, SL.row (by repeat (first | (with_reducible first | exact HS.out | apply Sep.SL.drewN | apply Sep.SL.drew | apply Sep.SL.alloc) | exact HS.out)) 0 rfl, SL.below (by repeat (first | (with_reducible first | exact HS.out | apply Sep.SL.drewN | apply Sep.SL.drew | apply Sep.SL.alloc) | exact HS.out))⟩
    | succ g1 =>
      have hit : decide (i < (ls.length : Int)) = true := decide_eq_true (by omega)
      have q8 : i < (ls.length : Int) := by omega
      obtain ⟨ad, cc, he, _, hK, hcc⟩ := Kd.C_get HC.out ([] : List S79) i hi0 q8
      obtain ⟨Al, cl, hcs, hlc, hCl⟩ := hK
      subst he hcs
      have hx0 := hcc 0 _ rfl
      obtain ⟨hdr, hmem⟩ := rd_drop_ ([] : List S79) ls i hi0 q8
      have hl2 := HLL.out _ hmem
      have HI2 := HI.out
      rw [hdr, endsF] at HI2
      have HI := Aside0.mk HI2
      clear HI2 hdr hmem hcc
      generalize ls.getD i.toNat [] = l at hl2 HI hCl hlc hx0
      have HX0 := Aside0.mk hx0
      clear hx0
      have hx0 := (HS.out.1.cell (World.block_lt_of_cell? w _ HX0.out)).trans HX0.out
      rw [show i.toNat * (Kd.slice 79 k79).sz + 0 = i.toNat from by show i.toNat * 1 + 0 = _; omega] at hx0
      have HCL := Aside0.mk hCl
      clear hCl HX0
      have p8 := eq_true hi0
      replace q8 := eq_true q8
      go_upto_region 6 with (fail)
      clear hx0
      obtain ⟨out0, hout0⟩ : ∃ o, o = ends1 l out := ⟨_, rfl⟩
      have HT := Aside0.mk hout0
      clear hout0
      have hl3 := HI
      go_loopg [3, 19] l.length (fun kq v3 v19 wr => ∃ (j : Int) (oj : List Int), v19 = .int .i64 j ∧ 0 ≤ j ∧ j + kq = (l.length : Int) ∧ (oj.length : Int) ≤ out.length + 2 * j ∧ Aside0 (oj.Pairwise (· < ·)) ∧ Aside0 (ends1 (l.drop j.toNat) oj = ends1 l out) ∧ Aside0 (SL w wr [rowA (Kd.int .i64) 3 v3 oj]))
      case atStart => exact ⟨0, out, rfl, by omega, by omega, by omega, HO, ⟨by simp⟩, by repeat (first | exact HS | exact Aside0.mk (by repeat (first | (with_reducible first | exact HS.out | apply Sep.SL.drewN | apply Sep.SL.drew | apply Sep.SL.alloc) | exact HS.out)))⟩
      case round =>
        clear HS HO
        obtain ⟨j, oj, rfl, hj0, hjk, hoj, HO, HJ, HS⟩ := hrel
        have hw2_ : wrap64 (j + 1) = j + 1 := by unfold wrap64; omega
        cases gk with
        | zero =>
          have hjt : decide (j < (l.length : Int)) = false := decide_eq_false (by omega)
          have HJ2 := HJ.out
          rw [List.drop_eq_nil_of_le (by omega), ends1] at HJ2
          have HI2 := HI.out
          rw [← HJ2] at HI2
          have HI := Aside0.mk HI2
          clear HJ HJ2 HI2 HT hl3
          go_wp2_with (fail)
          go_roundg g1
          case measure => omega
          case rel => exact ⟨i + 1, oj, rfl, by omega, by omega, by omega, HO, HI, Aside0.mk (by repeat (first | (with_reducible first | exact HS.out | apply Sep.SL.drewN | apply Sep.SL.drew | apply Sep.SL.alloc) | exact HS.out))⟩
        | succ g2 =>
          have hjt : decide (j < (l.length : Int)) = true := decide_eq_true (by omega)
          have q9 : j < (l.length : Int) := by omega
          obtain ⟨ad2, he2, hx0, hx1⟩ := at_T79 HCL.out j hj0 q9
          subst he2
          have hx0 := (HS.out.1.cell (World.block_lt_of_cell? w _ hx0)).trans hx0
          have hx1 := (HS.out.1.cell (World.block_lt_of_cell? w _ hx1)).trans hx1
          obtain ⟨hdr, _⟩ := rd_drop_ z79 l j hj0 q9
          have HJ2 := HJ.out
          rw [hdr, ends1] at HJ2
          change ends1 _ (ins (rd_T79 l j).f1 (ins (rd_T79 l j).f0 oj)) = _ at HJ2
          have HJ := Aside0.mk HJ2
          clear HJ2 hdr
          generalize rd_T79 l j = x at HJ hx0 hx1
          have p9 := eq_true hj0
          replace q9 := eq_true q9
          go_upto_region 8 with ((with_reducible refine gate_dst (N := 7) rfl ?_); refine box_event ?hg (N := 7) ?hd (cs := #[.int .i64 0, .int .i64 0]) (t := 79) ?hr ?_; (case hd => exact rfl); (case hg => exact rfl); (case hr => first | (go_simp; done) | (go_simp; rfl)); intro gr hgb_ w6 hbox_ hb_; have n1_ := Aside0.mk (Sep.SL.newBlk (by repeat (first | (with_reducible first | exact HS.out | apply Sep.SL.drewN | apply Sep.SL.drew | apply Sep.SL.alloc) | exact HS.out)) hb_ hgb_ hbox_); clear HS hgb_ hbox_ hb_; have HS := n1_; clear n1_; have hz3 := HS.out.c0 0 rfl; have hz4 := HS.out.c1 0 rfl)
          have HS := Aside0.mk ((HS.out.put 0 rfl 0 (.int .i64 x.f0)).put 0 rfl 1 (.int .i64 x.f1))
          clear hz3 hz4 hx0 hx1
          generalize World.setCell _ _ _ = w7 at HS ⊢
          have hz3 := HS.out.c0 0 rfl
          have hz4 := HS.out.c1 0 rfl
          go_upto_region 9 with (fail)
          have HS := Aside0.mk (HS.out.drop.allocBlk #[.int .i64 x.f0, .int .i64 x.f1] 3)
          clear hz3 hz4
          generalize hgl : w7.heap.size = gl at HS ⊢
          clear hgl
          generalize World.alloc _ _ = w8 at HS ⊢
          go_loopg [3, 29] 2 (fun kq v3 v29 wr => ∃ (k : Int) (o : List Int), v29 = .int .i64 k ∧ 0 ≤ k ∧ k + kq = 2 ∧ (o.length : Int) ≤ oj.length + k ∧ Aside0 (o.Pairwise (· < ·)) ∧ Aside0 (insl ([x.f0, x.f1].drop k.toNat) o = insl [x.f0, x.f1] oj) ∧ Aside0 (SL w wr [blkA gl #[.int .i64 x.f0, .int .i64 x.f1] 3, rowA (Kd.int .i64) 3 v3 o]))
          case atStart => exact ⟨0, oj, rfl, by omega, by omega, by omega, HO, ⟨rfl⟩, by repeat (first | exact HS | exact Aside0.mk (by repeat (first | (with_reducible first | exact HS.out | apply Sep.SL.drewN | apply Sep.SL.drew | apply Sep.SL.alloc) | exact HS.out)))⟩
          case round =>
            clear HS HO
            obtain ⟨k, o, rfl, hk0, hkk, hok, HO, HK, HS⟩ := hrel
            have hw3_ : wrap64 (k + 1) = k + 1 := by unfold wrap64; omega
            cases gk with
            | zero =>
              have hk2 : k = 2 := by omega
              subst hk2
              have HK2 := HK.out
              have HJ2 := HJ.out
              change o = ins x.f1 (ins x.f0 oj) at HK2
              rw [← HK2] at HJ2
              have HJ := Aside0.mk HJ2
              clear HK HK2 HJ2
              go_wp2_with (fail)
              go_roundg g2
              case measure => omega
              case rel => exact ⟨j + 1, o, rfl, by omega, by omega, by omega, HO, HJ, Aside0.mk (Sep.SL.front (Sep.SL.drop (Sep.SL.front (by repeat (first | (with_reducible first | exact HS.out | apply Sep.SL.drewN | apply Sep.SL.drew | apply Sep.SL.alloc) | exact HS.out)) 0 rfl)) 0 rfl)⟩
            | succ g3 =>
              have hkt : decide (k < 2) = true := decide_eq_true (by omega)
              obtain ⟨n, hn, HK2, hx0⟩ : ∃ n, True ∧ Aside0 (insl ([x.f0, x.f1].drop (k + 1).toNat) (ins n o) = insl [x.f0, x.f1] oj) ∧ wr.cell? ⟨gl, k.toNat, none⟩ = some (.int .i64 n) := by
                obtain rfl | rfl : k = 0 ∨ k = 1 := by omega
                · exact ⟨x.f0, trivial, ⟨HK.out⟩, (HS.out.c0 0 rfl).1⟩
                · exact ⟨x.f1, trivial, ⟨HK.out⟩, (HS.out.c1 0 rfl).1⟩
              clear hn HK
              have p9_ := eq_true hk0
              have q9_ := eq_true (show k < 2 by omega)
              go_upto_block 5 with (fail)
              go_cut [3] (fun v3 wx => Aside0 (SL w wx [blkA gl #[.int .i64 x.f0, .int .i64 x.f1] 3, rowA (Kd.int .i64) 3 v3 (ins n o)]))
              case first =>
                obtain ⟨A3, c3, e3⟩ := HS.out.slice 1 rfl
                subst e3
                go_upto_block 6 with (fail)
                clear hx0
                have hol2 : o.length ≤ 3000 := by omega
                go_cut [10] (fun v10 wx => ∃ a : Nat, v10 = .int .i64 (a : Int) ∧ a ≤ o.length ∧ Aside0 ((∀ y ∈ o.take a, y < n) ∧ ∀ y ∈ o.drop a, n ≤ y) ∧ Aside0 (SL w wx [blkA gl #[.int .i64 x.f0, .int .i64 x.f1] 3, rowA (Kd.int .i64) 3 (.slice A3 o.length c3) o]))
                case first =>
                  go_wp2_with (fail)
                  go_loopg [10] o.length (fun kq v10 wr => v10 = .int .i64 (kq : Int) ∧ kq ≤ o.length ∧ Aside0 (∀ y ∈ o.drop kq, n ≤ y) ∧ Aside0 (SL w wr [blkA gl #[.int .i64 x.f0, .int .i64 x.f1] 3, rowA (Kd.int .i64) 3 (.slice A3 o.length c3) o]))
                  case atStart => exact ⟨rfl, by omega, ⟨by rw [List.drop_length]; simp⟩, by repeat (first | exact HS | exact Aside0.mk (by repeat (first | (with_reducible first | exact HS.out | apply Sep.SL.drewN | apply Sep.SL.drew | apply Sep.SL.alloc) | exact HS.out)))⟩
                  case round =>
                    clear HS
                    obtain ⟨rfl, hgo, HD, HS⟩ := hrel
                    cases gk with
                    | zero =>
                      go_wp2_with (fail)
                      go_meet
                      exact ⟨0, rfl, by omega, ⟨by simp, HD.out⟩, HS⟩
                    | succ g4 =>
                      obtain ⟨ga, ca, ea⟩ := HS.out.form 1 rfl (by omega)
                      have ea1 : A3 = some ⟨ga, 0, none⟩ := by injection ea
                      subst ea1
                      have hcell := (HS.out.int 1 rfl (g4 : Int) (by omega) (by omega)).1
                      rw [Int.toNat_natCast] at hcell
                      obtain ⟨hdr, hmem⟩ := rd_drop_ (0 : Int) o (g4 : Int) (by omega) (by omega)
                      change o.drop (g4 : Int).toNat = rd o (g4 : Int) :: _ at hdr
                      rw [Int.toNat_natCast, show ((g4 : Int) + 1).toNat = g4 + 1 from by omega] at hdr
                      have hg_ : decide ((0 : Int) < (g4 : Int) + 1) = true := decide_eq_true (by omega)
                      have hw4_ : wrap64 ((g4 : Int) + 1 - 1) = (g4 : Int) := by unfold wrap64; omega
                      have hlt_ : (g4 < o.length) = True := eq_true (by omega)
                      have hlt2_ : ((g4 : Int) < (o.length : Int)) = True := eq_true (by omega)
                      by_cases hge : n ≤ rd o (g4 : Int)
                      · have hge_ : decide (n ≤ rd o (g4 : Int)) = true := decide_eq_true hge
                        have HD2 : Aside0 (∀ y ∈ o.drop g4, n ≤ y) := ⟨fun y hy => by
                          rw [hdr] at hy
                          rcases List.mem_cons.1 hy with rfl | hy
                          · exact hge
                          · exact HD.out y hy⟩
                        clear hge hdr hmem HD
                        generalize rd o (g4 : Int) = y at hcell hge_
                        go_wp2_with (fail)
                        go_roundg g4
                        case measure => omega
                        case rel => exact ⟨by first | rfl | (simp; done) | (simp [*]; done), by omega, HD2, Aside0.mk (by repeat (first | (with_reducible first | exact HS.out | apply Sep.SL.drewN | apply Sep.SL.drew | apply Sep.SL.alloc) | exact HS.out))⟩
                      · have hge_ : decide (n ≤ rd o (g4 : Int)) = false := decide_eq_false hge
                        have HD2 : Aside0 ((∀ y ∈ o.take (g4 + 1), y < n) ∧ ∀ y ∈ o.drop (g4 + 1), n ≤ y) := ⟨fun y hy => by
                          have hs := HO.out
                          rw [← List.take_append_drop g4 o, hdr, List.pairwise_append] at hs
                          have e1 : o.take (g4 + 1) = o.take g4 ++ [rd o (g4 : Int)] := by
                            rw [List.take_succ_eq_append_getElem (by omega)]
                            congr 2
                            unfold Go.Proofs.YthnchojddoefiaaW.PrintWords.rd
                            rw [Int.toNat_natCast, List.getD_eq_getElem?_getD, List.getElem?_eq_getElem (by omega)]
                            rfl
                          rw [e1] at hy
                          rcases List.mem_append.1 hy with hy | hy
                          · have := hs.2.2 y hy _ List.mem_cons_self; omega
                          · rw [List.mem_singleton.1 hy]; omega, HD.out⟩
                        clear hge hdr hmem HD
                        generalize rd o (g4 : Int) = y at hcell hge_
                        go_wp2_with (fail)
                        go_meet
                        exact ⟨g4 + 1, by first | rfl | (simp; done), by omega, HD2, HS⟩
                case rest =>
                  obtain ⟨a, rfl, hao, HA, HS⟩ := hcut
                  have hsp := ins_split n (o.take a) (o.drop a) HA.out.1 HA.out.2
                  rw [List.take_append_drop] at hsp
                  by_cases hal : a < o.length
                  · obtain ⟨ga, ca, ea⟩ := HS.out.form 1 rfl (by omega)
                    have ea1 : A3 = some ⟨ga, 0, none⟩ := by injection ea
                    subst ea1
                    have hcell := (HS.out.int 1 rfl (a : Int) (by omega) (by omega)).1
                    rw [Int.toNat_natCast] at hcell
                    obtain ⟨hdr, _⟩ := rd_drop_ (0 : Int) o (a : Int) (by omega) (by omega)
                    change o.drop (a : Int).toNat = Go.Proofs.YthnchojddoefiaaW.PrintWords.rd o (a : Int) :: _ at hdr
                    rw [Int.toNat_natCast, show ((a : Int) + 1).toNat = a + 1 from by omega] at hdr
                    rw [hdr] at hsp
                    replace hsp : ins n o = o.take a ++ (if Go.Proofs.YthnchojddoefiaaW.PrintWords.rd o (a : Int) = n then Go.Proofs.YthnchojddoefiaaW.PrintWords.rd o (a : Int) :: o.drop (a + 1) else n :: Go.Proofs.YthnchojddoefiaaW.PrintWords.rd o (a : Int) :: o.drop (a + 1)) := hsp
                    rw [← hdr] at hsp
                    have HSP := Aside0.mk hsp
                    clear hsp hdr
                    have hlt1_ : decide ((a : Int) < (o.length : Int)) = true := decide_eq_true (by omega)
                    have hlt2_ : decide (a < o.length) = true := decide_eq_true (by omega)
                    by_cases hyn : Go.Proofs.YthnchojddoefiaaW.PrintWords.rd o (a : Int) = n
                    · have hyb : (Go.Proofs.YthnchojddoefiaaW.PrintWords.rd o (a : Int) == n) = true := by simp [hyn]
                      have HE : Aside0 (ins n o = o) := ⟨by have h1 := HSP.out; rw [if_pos hyn] at h1; exact h1.trans (List.take_append_drop _ _)⟩
                      clear hyn
                      generalize Go.Proofs.YthnchojddoefiaaW.PrintWords.rd o (a : Int) = y at hcell hyb
                      go_wp2_with (fail)
                      go_meet
                      rw [HE.out]
                      exact HS
                    · have hyb : (Go.Proofs.YthnchojddoefiaaW.PrintWords.rd o (a : Int) == n) = false := by simp [hyn]
                      have HE : Aside0 (ins n o = o.take a ++ n :: o.drop a) := ⟨by have h1 := HSP.out; rw [if_neg hyn] at h1; exact h1⟩
                      clear hyn HSP
                      generalize Go.Proofs.YthnchojddoefiaaW.PrintWords.rd o (a : Int) = y at hcell hyb
                      go_upto_region 16 with ((with_reducible refine gate_builtin (b := .append) (xs := #[.tmp 60, .tmp 61]) rfl ?_); at_builtin; (first | with_reducible apply Sep.append_row (d := (Kd.int .i64)) (t := 58) (e := 3) (s := .tmp 60) (x := .tmp 61) (p := (0 : Int)) (cs := [.int .i64 0])); (case hSL => exact (Sep.SL.plain (Sep.SL.front (by repeat (first | (with_reducible first | exact HS.out | apply Sep.SL.drewN | apply Sep.SL.drew | apply Sep.SL.alloc) | exact HS.out)) 1 rfl) _ _ (fun _ _ => rfl)).swap); (case hgd => exact rfl); (case ho => exact rfl); (case ht => exact Try.underlying58); (case hinfo => exact info3); (case hz => exact rfl); (case hs0 => decide); (case hb0 => omega); (case hs => exact rfl); (case hx => exact rfl); (case hl => omega); intro v1_ w1_ hs_; have n1_ := Aside0.mk hs_; clear HS hs_; have HS := n1_; clear n1_; obtain ⟨a1_, c1_, e1_⟩ := Sep.SL.slice HS.out 0 rfl; rw [List.length_append, List.length_singleton] at e1_; subst e1_)
                      obtain ⟨g5, c5, e5⟩ := HS.out.form 0 rfl (by simp)
                      have e6 : a1_ = some ⟨g5, 0, none⟩ := by injection e5
                      subst e6
                      clear e5
                      obtain ⟨hwr_, hws_, hcp1, hcp2, hcp3, hcp4, hcp5, hcp6, hcp7, hcp8, hcp9, hcp10⟩ := ins_facts hao hol2 (by have := (Kd.R_reads' (HS.out.row 0 rfl)).2.1; simpa using this)
                      have HCP := Aside0.mk hcp2
                      (refine start_ (n := 8) (S := fun _ => True) (ds := []) #[false, false, false, false, false, false, false, false] (by kernel_rfl) rfl rfl trivial (fun hHeld => ?_); clear hHeld)
                      have HS := Aside0.mk (SL.drew HS.out)
                      generalize World.drew _ = w2 at HS ⊢
                      ((refine pure_ (i := 0) (N := some 63) (v := ?_) (a' := ?_) #[true, false, false, false, false, false, false, false] rfl rfl (by kernel_rfl) (fun _ _ _ h => h) (Or.inl ⟨by rfl, ?_⟩) ?_ ?_; rotate_left; (intro w_; go_simp; with_reducible rfl); rotate_left; (simp only [Act.put, List.setIfInBounds_toArray, List.set_cons_zero, List.set_cons_succ, i64_w, i32_w]; rfl)); (refine pure_ (i := 1) (N := some 64) (v := ?_) (a' := ?_) #[true, true, false, false, false, false, false, false] rfl rfl (by kernel_rfl) (fun _ _ _ h => h) (Or.inl ⟨by rfl, ?_⟩) ?_ ?_; rotate_left; (intro w_; go_simp; with_reducible rfl); rotate_left; (simp only [Act.put, List.setIfInBounds_toArray, List.set_cons_zero, List.set_cons_succ, i64_w, i32_w]; rfl)); (refine pure_ (i := 2) (N := some 65) (v := ?_) (a' := ?_) #[true, true, true, false, false, false, false, false] rfl rfl (by kernel_rfl) (fun _ _ _ h => h) (Or.inl ⟨by rfl, ?_⟩) ?_ ?_; rotate_left; (intro w_; go_simp; with_reducible rfl); rotate_left; (simp only [Act.put, List.setIfInBounds_toArray, List.set_cons_zero, List.set_cons_succ, i64_w, i32_w]; rfl)); (refine pure_ (i := 3) (N := some 66) (v := ?_) (a' := ?_) #[true, true, true, true, false, false, false, false] rfl rfl (by kernel_rfl) (fun _ _ _ h => h) (Or.inl ⟨by rfl, ?_⟩) ?_ ?_; rotate_left; (intro w_; go_simp; with_reducible rfl); rotate_left; (simp only [Act.put, List.setIfInBounds_toArray, List.set_cons_zero, List.set_cons_succ, i64_w, i32_w]; rfl)); (refine pure_ (i := 4) (N := some 67) (v := ?_) (a' := ?_) #[true, true, true, true, true, false, false, false] rfl rfl (by kernel_rfl) (fun _ _ _ h => h) (Or.inl ⟨by rfl, ?_⟩) ?_ ?_; rotate_left; (intro w_; go_simp; with_reducible rfl); rotate_left; (simp only [Act.put, List.setIfInBounds_toArray, List.set_cons_zero, List.set_cons_succ, i64_w, i32_w]; rfl)); (refine pure_ (i := 5) (N := some 68) (v := ?_) (a' := ?_) #[true, true, true, true, true, true, false, false] rfl rfl (by kernel_rfl) (fun _ _ _ h => h) (Or.inl ⟨by rfl, ?_⟩) ?_ ?_; rotate_left; (intro w_; go_simp; with_reducible rfl); rotate_left; (simp only [Act.put, List.setIfInBounds_toArray, List.set_cons_zero, List.set_cons_succ, i64_w, i32_w]; rfl)); (refine pure_ (i := 6) (N := some 69) (v := ?_) (a' := ?_) #[true, true, true, true, true, true, true, false] rfl rfl (by kernel_rfl) (fun _ _ _ h => h) (Or.inl ⟨by rfl, ?_⟩) ?_ ?_; rotate_left; (intro w_; go_simp; with_reducible rfl); rotate_left; (simp only [Act.put, List.setIfInBounds_toArray, List.set_cons_zero, List.set_cons_succ, i64_w, i32_w]; rfl)))
                      refine one_ (i := 7) (N := some 70) #[true, true, true, true, true, true, true, true] rfl rfl (by kernel_rfl) (by decide) (fun K hK => ?_)
                      ((with_reducible apply copy_ints_step (kk := .i64) (d := .tmp 66) (s := .tmp 69) (dT := 58) (sT := 58) (elem := 3) (p := a + 1) (ys := o.drop a) (k := 0)); (case hSL => exact (by repeat (first | (with_reducible first | exact HS.out | apply Sep.SL.drewN | apply Sep.SL.drew | apply Sep.SL.alloc) | exact HS.out))); (case hk => exact rfl); (case hgd => exact rfl); (case ho => exact rfl); (case hu => exact Try.underlying58); (case hsz => kernel_rfl); (case hd => exact rfl); (case hs => exact rfl); (case hn => exact (ins_min hao)); (case hp => exact (ins_fit hao)); (case hpos => exact (fun h_ => ins_pos HS.out HCP.out h_)); intro w1_ hs_; have n1_ := Aside0.mk hs_; clear HS hs_; have HS := n1_; clear n1_)
                      refine hK.out _ _ trivial (fun hHeld => ?_)
                      clear hK K hHeld HCP
                      refine norm_ (a' := ?_) ?_ ?_
                      rotate_left
                      · show Act.put _ (some 70) _ = _
                        simp only [Act.put, List.setIfInBounds_toArray, List.set_cons_zero, List.set_cons_succ, i64_w, i32_w]
                        rfl
                      refine done_ (by kernel_rfl) ?_
                      generalize (if c1_ = a + 1 then (some (⟨g5, 0, none⟩ : Addr)) else some ⟨g5, a + 1, none⟩) = q1_
                      generalize (if c1_ = a then (some (⟨g5, 0, none⟩ : Addr)) else some ⟨g5, a, none⟩) = q2_
                      obtain ⟨hy1, hy2⟩ := HS.out.int 0 rfl (a : Int) (Int.natCast_nonneg a) (ins_lt hao)
                      have HS2 := Aside0.mk (SL.intPut HS.out 0 rfl (a : Int) n)
                      rw [Int.toNat_natCast] at hy1 hy2
                      have HS3 := HS2.out
                      rw [Int.toNat_natCast] at HS3
                      have HS2 := Aside0.mk HS3
                      clear HS3
                      have hlt3_ := ins_lt3 hao
                      have hlt4_ := ins_lt4 hao
                      clear hcp1 hcp2 hcp3 hcp4 hcp5 hcp6 hcp7 hcp9 hcp10 hwr_ hws_
                      generalize Go.Proofs.YthnchojddoefiaaW.PrintWords.rd _ _ = y0 at hy1
                      generalize List.take _ _ ++ _ = zs at HS
                      clear HS
                      go_wp2_with (fail)
                      go_meet
                      rw [HE.out, ← ins_shift hao n]
                      exact ⟨(Sep.SL.front (Sep.SL.front HS2.out 0 rfl) 1 rfl)⟩
                  · skip
                    · have hdr : o.drop a = [] := List.drop_eq_nil_of_le (by omega)
                      rw [hdr] at hsp
                      have HE : Aside0 (ins n o = o.take a ++ n :: o.drop a) := ⟨by rw [hdr]; exact hsp⟩
                      clear hsp hdr
                      have hlt1_ : decide ((a : Int) < (o.length : Int)) = false := decide_eq_false (by omega)
                      have hlt2_ : decide (a < o.length) = false := decide_eq_false (by omega)
                      go_upto_region 16 with ((with_reducible refine gate_builtin (b := .append) (xs := #[.tmp 60, .tmp 61]) rfl ?_); at_builtin; (first | with_reducible apply Sep.append_row (d := (Kd.int .i64)) (t := 58) (e := 3) (s := .tmp 60) (x := .tmp 61) (p := (0 : Int)) (cs := [.int .i64 0])); (case hSL => exact (Sep.SL.plain (Sep.SL.front (by repeat (first | (with_reducible first | exact HS.out | apply Sep.SL.drewN | apply Sep.SL.drew | apply Sep.SL.alloc) | exact HS.out)) 1 rfl) _ _ (fun _ _ => rfl)).swap); (case hgd => exact rfl); (case ho => exact rfl); (case ht => exact Try.underlying58); (case hinfo => exact info3); (case hz => exact rfl); (case hs0 => decide); (case hb0 => omega); (case hs => exact rfl); (case hx => exact rfl); (case hl => omega); intro v1_ w1_ hs_; have n1_ := Aside0.mk hs_; clear HS hs_; have HS := n1_; clear n1_; obtain ⟨a1_, c1_, e1_⟩ := Sep.SL.slice HS.out 0 rfl; rw [List.length_append, List.length_singleton] at e1_; subst e1_)
                      obtain ⟨g5, c5, e5⟩ := HS.out.form 0 rfl (by simp)
                      have e6 : a1_ = some ⟨g5, 0, none⟩ := by injection e5
                      subst e6
                      clear e5
                      obtain ⟨hwr_, hws_, hcp1, hcp2, hcp3, hcp4, hcp5, hcp6, hcp7, hcp8, hcp9, hcp10⟩ := ins_facts hao hol2 (by have := (Kd.R_reads' (HS.out.row 0 rfl)).2.1; simpa using this)
                      have HCP := Aside0.mk hcp2
                      (refine start_ (n := 8) (S := fun _ => True) (ds := []) #[false, false, false, false, false, false, false, false] (by kernel_rfl) rfl rfl trivial (fun hHeld => ?_); clear hHeld)
                      have HS := Aside0.mk (SL.drew HS.out)
                      generalize World.drew _ = w2 at HS ⊢
                      ((refine pure_ (i := 0) (N := some 63) (v := ?_) (a' := ?_) #[true, false, false, false, false, false, false, false] rfl rfl (by kernel_rfl) (fun _ _ _ h => h) (Or.inl ⟨by rfl, ?_⟩) ?_ ?_; rotate_left; (intro w_; go_simp; with_reducible rfl); rotate_left; (simp only [Act.put, List.setIfInBounds_toArray, List.set_cons_zero, List.set_cons_succ, i64_w, i32_w]; rfl)); (refine pure_ (i := 1) (N := some 64) (v := ?_) (a' := ?_) #[true, true, false, false, false, false, false, false] rfl rfl (by kernel_rfl) (fun _ _ _ h => h) (Or.inl ⟨by rfl, ?_⟩) ?_ ?_; rotate_left; (intro w_; go_simp; with_reducible rfl); rotate_left; (simp only [Act.put, List.setIfInBounds_toArray, List.set_cons_zero, List.set_cons_succ, i64_w, i32_w]; rfl)); (refine pure_ (i := 2) (N := some 65) (v := ?_) (a' := ?_) #[true, true, true, false, false, false, false, false] rfl rfl (by kernel_rfl) (fun _ _ _ h => h) (Or.inl ⟨by rfl, ?_⟩) ?_ ?_; rotate_left; (intro w_; go_simp; with_reducible rfl); rotate_left; (simp only [Act.put, List.setIfInBounds_toArray, List.set_cons_zero, List.set_cons_succ, i64_w, i32_w]; rfl)); (refine pure_ (i := 3) (N := some 66) (v := ?_) (a' := ?_) #[true, true, true, true, false, false, false, false] rfl rfl (by kernel_rfl) (fun _ _ _ h => h) (Or.inl ⟨by rfl, ?_⟩) ?_ ?_; rotate_left; (intro w_; go_simp; with_reducible rfl); rotate_left; (simp only [Act.put, List.setIfInBounds_toArray, List.set_cons_zero, List.set_cons_succ, i64_w, i32_w]; rfl)); (refine pure_ (i := 4) (N := some 67) (v := ?_) (a' := ?_) #[true, true, true, true, true, false, false, false] rfl rfl (by kernel_rfl) (fun _ _ _ h => h) (Or.inl ⟨by rfl, ?_⟩) ?_ ?_; rotate_left; (intro w_; go_simp; with_reducible rfl); rotate_left; (simp only [Act.put, List.setIfInBounds_toArray, List.set_cons_zero, List.set_cons_succ, i64_w, i32_w]; rfl)); (refine pure_ (i := 5) (N := some 68) (v := ?_) (a' := ?_) #[true, true, true, true, true, true, false, false] rfl rfl (by kernel_rfl) (fun _ _ _ h => h) (Or.inl ⟨by rfl, ?_⟩) ?_ ?_; rotate_left; (intro w_; go_simp; with_reducible rfl); rotate_left; (simp only [Act.put, List.setIfInBounds_toArray, List.set_cons_zero, List.set_cons_succ, i64_w, i32_w]; rfl)); (refine pure_ (i := 6) (N := some 69) (v := ?_) (a' := ?_) #[true, true, true, true, true, true, true, false] rfl rfl (by kernel_rfl) (fun _ _ _ h => h) (Or.inl ⟨by rfl, ?_⟩) ?_ ?_; rotate_left; (intro w_; go_simp; with_reducible rfl); rotate_left; (simp only [Act.put, List.setIfInBounds_toArray, List.set_cons_zero, List.set_cons_succ, i64_w, i32_w]; rfl)))
                      refine one_ (i := 7) (N := some 70) #[true, true, true, true, true, true, true, true] rfl rfl (by kernel_rfl) (by decide) (fun K hK => ?_)
                      ((with_reducible apply copy_ints_step (kk := .i64) (d := .tmp 66) (s := .tmp 69) (dT := 58) (sT := 58) (elem := 3) (p := a + 1) (ys := o.drop a) (k := 0)); (case hSL => exact (by repeat (first | (with_reducible first | exact HS.out | apply Sep.SL.drewN | apply Sep.SL.drew | apply Sep.SL.alloc) | exact HS.out))); (case hk => exact rfl); (case hgd => exact rfl); (case ho => exact rfl); (case hu => exact Try.underlying58); (case hsz => kernel_rfl); (case hd => exact rfl); (case hs => exact rfl); (case hn => exact (ins_min hao)); (case hp => exact (ins_fit hao)); (case hpos => exact (fun h_ => ins_pos HS.out HCP.out h_)); intro w1_ hs_; have n1_ := Aside0.mk hs_; clear HS hs_; have HS := n1_; clear n1_)
                      refine hK.out _ _ trivial (fun hHeld => ?_)
                      clear hK K hHeld HCP
                      refine norm_ (a' := ?_) ?_ ?_
                      rotate_left
                      · show Act.put _ (some 70) _ = _
                        simp only [Act.put, List.setIfInBounds_toArray, List.set_cons_zero, List.set_cons_succ, i64_w, i32_w]
                        rfl
                      refine done_ (by kernel_rfl) ?_
                      generalize (if c1_ = a + 1 then (some (⟨g5, 0, none⟩ : Addr)) else some ⟨g5, a + 1, none⟩) = q1_
                      generalize (if c1_ = a then (some (⟨g5, 0, none⟩ : Addr)) else some ⟨g5, a, none⟩) = q2_
                      obtain ⟨hy1, hy2⟩ := HS.out.int 0 rfl (a : Int) (Int.natCast_nonneg a) (ins_lt hao)
                      have HS2 := Aside0.mk (SL.intPut HS.out 0 rfl (a : Int) n)
                      rw [Int.toNat_natCast] at hy1 hy2
                      have HS3 := HS2.out
                      rw [Int.toNat_natCast] at HS3
                      have HS2 := Aside0.mk HS3
                      clear HS3
                      have hlt3_ := ins_lt3 hao
                      have hlt4_ := ins_lt4 hao
                      clear hcp1 hcp2 hcp3 hcp4 hcp5 hcp6 hcp7 hcp9 hcp10 hwr_ hws_
                      generalize Go.Proofs.YthnchojddoefiaaW.PrintWords.rd _ _ = y0 at hy1
                      generalize List.take _ _ ++ _ = zs at HS
                      clear HS
                      go_wp2_with (fail)
                      go_meet
                      rw [HE.out, ← ins_shift hao n]
                      exact ⟨(Sep.SL.front (Sep.SL.front HS2.out 0 rfl) 1 rfl)⟩
              case rest =>
                have HS := hcut
                have hln := ins_len n o
                have HO2 := Aside0.mk (ins_sorted n o HO.out)
                go_wp2_with (fail)
                go_roundg g3
                case measure => omega
                case rel => exact ⟨k + 1, ins n o, rfl, by omega, by omega, by omega, HO2, HK2, Aside0.mk (by repeat (first | (with_reducible first | exact HS.out | apply Sep.SL.drewN | apply Sep.SL.drew | apply Sep.SL.alloc) | exact HS.out))⟩
end Go.Proofs.Ythnchojddoefiaa.QSpanAdds
