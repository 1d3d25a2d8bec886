/- The functions write, small and sums of package label, and Of of package flet, walked; no conditions. -/
import Derived.Test.YthnchojddoefiaaQLabelBestsx0
import Derived.Test.YthnchojddoefiaaSep
import Derived.Test.YthnchojddoefiaaSepRoom
import Derived.Test.YthnchojddoefiaaSepCopy
import Derived.Test.YthnchojddoefiaaFlet
import Derived.Deep.RegionLaw
import Derived.StillTailTactics
import Derived.IntWalk
import Derived.Deep.WholeRow
set_option linter.unusedVariables false
set_option linter.unusedSimpArgs false
namespace Go.Proofs.Ythnchojddoefiaa.QLabelBests
open Go.RowKit Go.Proofs.YthnchojddoefiaaW.PrintWords Go.Proofs.YthnchojddoefiaaW.PrintLast Go.Proofs.YthnchojddoefiaaW.PrintMore
open Go.Proofs.Ythnchojddoefiaa.Sep Go.Proofs.Ythnchojddoefiaa.Flet
def lowB : Nat → Int → List Int
  | 0, _ => []
  | k + 1, n => n % 256 :: lowB k (n / 256)
theorem lowB_length : ∀ (k : Nat) (n : Int), (lowB k n).length = k
  | 0, _ => rfl
  | k + 1, n => by rw [lowB, List.length_cons, lowB_length k]
/-- The first 96 bytes of a label's sector. -/
def encB (a0_0 : Int) (a0_1 : Int) (a0_2 : Int) (a0_3 : Int) (a0_4 : Int) (a0_5 : Int) (a0_6 : Int) (a0_7 : Int) (a0_8 : Int) (a0_9 : Int) (a0_10 : Int) (a0_11 : Int) (a0_12 : Int) : List Int := lowB 4 a0_0 ++ lowB 4 a0_1 ++ lowB 4 a0_2 ++ lowB 4 a0_3 ++ lowB 4 a0_4 ++ lowB 4 a0_5 ++ lowB 4 a0_6 ++ lowB 4 a0_7 ++ lowB 4 a0_8 ++ lowB 8 a0_9 ++ lowB 8 a0_10 ++ lowB 8 a0_11 ++ lowB 8 a0_12 ++ List.replicate 28 0
def sealL (b : List Int) : List Int := b ++ lowB 8 (sumL 0 0 0 0 b).1 ++ lowB 8 (sumL 0 0 0 0 b).2.1 ++ lowB 8 (sumL 0 0 0 0 b).2.2.1 ++ lowB 8 (sumL 0 0 0 0 b).2.2.2
def encL (a0_0 : Int) (a0_1 : Int) (a0_2 : Int) (a0_3 : Int) (a0_4 : Int) (a0_5 : Int) (a0_6 : Int) (a0_7 : Int) (a0_8 : Int) (a0_9 : Int) (a0_10 : Int) (a0_11 : Int) (a0_12 : Int) : List Int := sealL (encB a0_0 a0_1 a0_2 a0_3 a0_4 a0_5 a0_6 a0_7 a0_8 a0_9 a0_10 a0_11 a0_12)
set_option maxHeartbeats 400000 in
theorem of_words (l : List Int) (A : Option Addr) (cap : Nat) (w : World) (hC : Kd.C (Kd.int .u8) w A l.length l) (hc : l.length ≤ cap) (r1 r2 r3 r4 r5 : Int)
    (hm : ∀ (A : Option Addr) (cap : Nat) (w : World), Kd.C (Kd.int .u8) w A l.length l → l.length ≤ cap → Calls Try.prog 96 #[four 0 0 0 0, .slice A l.length cap] w fun e w' => e = .returned (.tuple #[four r1 r2 r3 r4, .int .i64 r5]) ∧ Below w.heap.size w w') :
    Calls Try.prog 51 #[.slice A l.length cap] w fun e w' => e = .returned (.tuple #[four r1 r2 r3 r4, .int .i64 r5]) ∧ Below w.heap.size w w' := by
  have HC := Aside0.mk hC
  clear hC
  go_enter Try.func51, Try.ntmps51
  go_wp2_with (fail)
  have hb0 : Below w.heap.size w (w.alloc (.cells #[.int .i64 0, .int .i64 0, .int .i64 0, .int .i64 0] 23)) := (Below.refl _ _).alloc (Nat.le_refl _) _
  refine (hm A cap _ (Kd.C_below HC.out hb0) hc).mono ?_
  rintro e w1 ⟨rfl, hb1⟩
  have HB := Aside0.mk ((hb1.block _ (by simp)).trans (heap_alloc_new w (.cells #[.int .i64 0, .int .i64 0, .int .i64 0, .int .i64 0] 23)))
  obtain ⟨hr0, hr1, hr2, hr3, hrz⟩ := blk4 HB.out
  have hb2 := Aside0.mk (hb0.trans (hb1.mono (by simp)))
  clear hb0 hb1
  go_wp2_with (fail)
  refine bodyPost_ret (v := .tuple #[four r1 r2 r3 r4, .int .i64 r5]) ?_ rfl ⟨rfl, ?_⟩
  · have hb1 := hb2.out
    have hw := set4 (w := w1) (g := w.heap.size) (x0 := .int .i64 0) (x1 := .int .i64 0) (x2 := .int .i64 0) (x3 := .int .i64 0) HB.out (.int .i64 r1) (.int .i64 r2) (.int .i64 r3) (.int .i64 r4)
    obtain ⟨q0, q1, q2, q3, qz⟩ := blk4 hw
    clear hw hr0 hr1 hr2 hr3 hrz
    simp [results, Try.results51, go_sem, q0, q1, q2, q3]
  · exact below_set4 hb2.out (Nat.le_refl _) _ _ _ _
set_option maxHeartbeats 1000000 in
set_option maxRecDepth 100000 in
theorem write_room {w0 w : World} {F : List Asn} (h : SL w0 w F) (kx g cap : Nat) (l : List Int) (hk : F[kx]? = some (roomA g l cap 5)) (n : Int) (size : Nat) (hfit : l.length + size ≤ cap) (hcap : cap ≤ 4096) :
    Calls Try.prog 49 #[.slice (some ⟨g, 0, none⟩) l.length cap, .int .i64 n, .int .i64 (size : Int)] w fun e w' => e = .returned (.slice (some ⟨g, 0, none⟩) (l.length + size) cap) ∧ SL w0 w' (F.set kx (roomA g (l ++ lowB size n) cap 5)) := by
  have hkl : kx < F.length := (List.getElem?_eq_some_iff.1 hk).1
  have HS := Aside0.mk (h.imp (A' := roomA g l cap 5) kx hk (fun S h => h))
  have HKL := Aside0.mk hkl
  clear h hk hkl
  go_enter Try.func49, Try.ntmps49
  go_upto_region 2 with (fail)
  go_loopg [0, 1, 8] size (fun kq v0 v1 v8 wr => ∃ (l1 : List Int) (n1 : Int) (i : Nat), v0 = .slice (some ⟨g, 0, none⟩) l1.length cap ∧ v1 = .int .i64 n1 ∧ v8 = .int .i64 (i : Int) ∧ i + kq = size ∧ Aside0 (l1.length = l.length + i) ∧ Aside0 (l1 ++ lowB kq n1 = l ++ lowB size n) ∧ Aside0 (SL w0 wr (F.set kx (roomA g l1 cap 5))))
  case atStart => exact ⟨l, n, 0, rfl, rfl, rfl, by omega, ⟨rfl⟩, ⟨rfl⟩, by repeat (first | exact HS | exact Aside0.mk (by repeat (first | (with_reducible first | exact HS.out | apply Sep.SL.drewN | apply Sep.SL.drew | apply Sep.SL.alloc) | exact HS.out)))⟩
  case round =>
    clear HS
    obtain ⟨l1, n1, i, rfl, rfl, rfl, hik, HL1, HL, HS⟩ := hrel
    have hw1_ : wrap64 ((i : Int) + 1) = (i : Int) + 1 := by unfold wrap64; omega
    cases gk with
    | zero =>
      have hit : decide ((i : Int) < (size : Int)) = false := decide_eq_false (by omega)
      have HL2 := HL.out
      rw [lowB, List.append_nil] at HL2
      have HL := Aside0.mk HL2
      clear HL2
      go_wp2_with (fail)
      go_ret
      rw [← HL.out, show l.length + size = l1.length from by have := HL1.out; omega]
      exact ⟨rfl, (by repeat (first | (with_reducible first | exact HS.out | apply Sep.SL.drewN | apply Sep.SL.drew | apply Sep.SL.alloc) | exact HS.out))⟩
    | succ g1 =>
      have hit : decide ((i : Int) < (size : Int)) = true := decide_eq_true (by omega)
      have hroom : l1.length < cap := by have := HL1.out; omega
      have HROOM := Aside0.mk hroom
      clear hroom
      go_wp2_with ((with_reducible refine gate_builtin (b := .append) (xs := #[.tmp 10, .tmp 13]) rfl ?_); at_builtin; (with_reducible apply Sep.append_room_u8 (s := .tmp 10) (x := .tmp 13) (t := 28) (e := 5) (k := kx) (b := n1 % 256)); (case hSL => exact (by repeat (first | (with_reducible first | exact HS.out | apply Sep.SL.drewN | apply Sep.SL.drew | apply Sep.SL.alloc) | exact HS.out))); (case hk => exact List.getElem?_set_self HKL.out); (case hgd => exact rfl); (case ho => exact rfl); (case ht => exact Try.underlying28); (case hi => kernel_rfl); (case hs => exact rfl); (case hx => exact rfl); (case hroom => exact HROOM.out); intro w1_ hs_; rw [List.set_set] at hs_; have n1_ := Aside0.mk hs_; clear HS hs_; have HS := n1_; clear n1_)
      go_roundg g1
      case measure => omega
      case rel => exact ⟨l1 ++ [n1 % 256], n1 / 256, i + 1, by simp, rfl, by simp, by omega, ⟨by have := HL1.out; simp; omega⟩, ⟨by have h1 := HL.out; rw [lowB] at h1; rw [List.append_assoc]; exact h1⟩, Aside0.mk (by repeat (first | (with_reducible first | exact HS.out | apply Sep.SL.drewN | apply Sep.SL.drew | apply Sep.SL.alloc) | exact HS.out))⟩
set_option maxHeartbeats 1000000 in
set_option maxRecDepth 100000 in
theorem sums_calls (g o : Nat) (w : World) : Calls Try.prog 50 #[.pointer (some ⟨g, o, none⟩)] w fun e w' => e = .returned (.agg #[.pointer (some ⟨g, o, none⟩), .pointer (some ⟨g, o + 1, none⟩), .pointer (some ⟨g, o + 2, none⟩), .pointer (some ⟨g, o + 3, none⟩)]) ∧ Below w.heap.size w w' := by
  go_enter Try.func50, Try.ntmps50
  go_wp2_with (fail)
  go_still_tail 13, (by kernel_rfl)
  change wpList _ _ _ _ _ (World.drew _)
  go_wp2_with (fail)
  exact bodyPost_ret (v := .agg #[.pointer (some ⟨g, o, none⟩), .pointer (some ⟨g, o + 1, none⟩), .pointer (some ⟨g, o + 2, none⟩), .pointer (some ⟨g, o + 3, none⟩)]) (by simp [results, Try.results50, go_sem]) rfl ⟨rfl, below_drew (below_alloc (Below.refl _ _) _)⟩
set_option maxHeartbeats 1000000 in
set_option maxRecDepth 100000 in
theorem small_calls (g : Nat) (w : World) : Calls Try.prog 48 #[.pointer (some ⟨g, 0, none⟩)] w fun e w' => e = .returned (.agg #[.pointer (some ⟨g, 0, none⟩), .pointer (some ⟨g, 1, none⟩), .pointer (some ⟨g, 2, none⟩), .pointer (some ⟨g, 3, none⟩), .pointer (some ⟨g, 4, none⟩), .pointer (some ⟨g, 5, none⟩), .pointer (some ⟨g, 6, none⟩), .pointer (some ⟨g, 7, none⟩), .pointer (some ⟨g, 8, none⟩)]) ∧ Below w.heap.size w w' := by
  go_enter Try.func48, Try.ntmps48
  go_wp2_with (fail)
  go_still_tail 32, (by kernel_rfl)
  change wpList _ _ _ _ _ (World.drew _)
  go_wp2_with (fail)
  exact bodyPost_ret (v := .agg #[.pointer (some ⟨g, 0, none⟩), .pointer (some ⟨g, 1, none⟩), .pointer (some ⟨g, 2, none⟩), .pointer (some ⟨g, 3, none⟩), .pointer (some ⟨g, 4, none⟩), .pointer (some ⟨g, 5, none⟩), .pointer (some ⟨g, 6, none⟩), .pointer (some ⟨g, 7, none⟩), .pointer (some ⟨g, 8, none⟩)]) (by simp [results, Try.results48, go_sem]) rfl ⟨rfl, below_drew (below_alloc (Below.refl _ _) _)⟩
theorem write_roomN {w0 w : World} {F : List Asn} (h : SL w0 w F) (kx g cap : Nat) (l : List Int) (hk : F[kx]? = some (roomA g l cap 5)) (n : Int) (size n0 m : Nat) (sz : Int) (hsz : sz = size) (hn : l.length = n0) (hm : n0 + size = m) (hfit : m ≤ cap) (hcap : cap ≤ 4096) :
    Calls Try.prog 49 #[.slice (some ⟨g, 0, none⟩) n0 cap, .int .i64 n, .int .i64 sz] w fun e w' => e = .returned (.slice (some ⟨g, 0, none⟩) m cap) ∧ SL w0 w' (F.set kx (roomA g (l ++ lowB size n) cap 5)) := by
  subst hsz hn hm
  exact write_room h kx g cap l hk n size hfit hcap
theorem room_more (l : List Int) (cap m : Nat) (h : l.length + m ≤ cap) : roomC (l ++ List.replicate m 0) cap = roomC l cap := by
  unfold roomC
  rw [List.length_append, List.length_replicate, List.append_assoc, List.replicate_append_replicate, show m + (cap - (l.length + m)) = cap - l.length from by omega]
theorem room_new : (roomC [] 128).toArray = Array.replicate 128 (Value.int .u8 0) := by
  unfold roomC
  rw [List.length_nil, List.nil_append, List.map_replicate, List.toArray_replicate]
theorem room_take {l : List Int} {cap : Nat} : (roomC l cap).take l.length = l.map (Value.int .u8) := by
  unfold roomC
  rw [List.map_append, List.take_append_of_le_length (by rw [List.length_map]; exact Nat.le_refl _), List.take_of_length_le (by rw [List.length_map]; exact Nat.le_refl _)]
theorem room_R {w0 w : World} {F : List Asn} {g cap t : Nat} {l : List Int} (h : SL w0 w F) (k : Nat) (hk : F[k]? = some (roomA g l cap t)) (hl : l.length ≤ cap) (hcap : cap ≤ 4096) : Kd.R (Kd.int .u8) t w w0.heap.size (fun _ => True) (.slice (some ⟨g, 0, none⟩) l.length cap) l :=
  ints_of_cur trivial (h.base k hk) (h.blk k hk) hl (roomC_length hl) (Nat.le_trans hcap (by decide)) room_take
theorem room_C {w0 w : World} {F : List Asn} {g cap t : Nat} {l : List Int} (h : SL w0 w F) (k : Nat) (hk : F[k]? = some (roomA g l cap t)) (hl : l.length ≤ cap) (hcap : cap ≤ 4096) : Kd.C (Kd.int .u8) w (some ⟨g, 0, none⟩) l.length l := (Kd.R_reads' (room_R h k hk hl hcap)).2.2
theorem blk_at {w0 w : World} {F : List Asn} {g t : Nat} {cs : Array Value} (h : SL w0 w F) (k : Nat) (hk : F[k]? = some (blkA g cs t)) (i : Nat) (v : Value) (hv : cs[i]? = some v) : w.cell? ⟨g, i, none⟩ = some v := (blk_cell (h.blk k hk) i).trans hv
theorem made_one (z : Value) (n : Nat) : madeCells #[z] n = (List.replicate n z).toArray := by
  apply Array.ext
  · simp [madeCells]
  · intro i h1 h2
    simp [madeCells, Nat.mod_one]
theorem make_bytes (c : Nat) (hc : c ≤ 4096) : ∀ W : World, (Instr.makeSlice 28 (.int .i64 0) (.int .i64 (c : Int))).run Try.prog W = .ok (.slice (some ⟨W.heap.size, 0, none⟩) 0 c) (W.alloc (.cells (roomC [] c).toArray 5)) := by
  intro W
  obtain ⟨i, hi, hz0, hz1, hz2⟩ := info_parts infoB
  have := run_make (P := Try.prog) W 28 5 i (.int .u8 0) Try.underlying28 hi hz0 .i64 .i64 0 (c : Int) (Int.le_refl _) (by omega) (by rw [hz2]; omega) (by omega)
  rw [this, hz1, Int.toNat_natCast, Nat.mul_one]
  unfold roomC
  rw [List.length_nil, List.nil_append, List.map_replicate, Nat.sub_zero]
  show Result.ok _ (W.alloc (.cells (madeCells #[.int .u8 0] c) _)) = _
  rw [made_one]
  rfl
def lowL (c : Nat) (acc : List Int) (l : List Int) : List Int := l.foldl (fun acc x => acc ++ lowB c x) acc
theorem lowB_bytes : ∀ (k : Nat) (n : Int), ∀ x ∈ lowB k n, 0 ≤ x ∧ x ≤ 255
  | 0, _, x, h => by cases h
  | k + 1, n, x, h => by
    rw [lowB] at h
    rcases List.mem_cons.1 h with rfl | h
    · omega
    · exact lowB_bytes k _ x h
theorem encB_length (a0_0 a0_1 a0_2 a0_3 a0_4 a0_5 a0_6 a0_7 a0_8 a0_9 a0_10 a0_11 a0_12 : Int) : (encB a0_0 a0_1 a0_2 a0_3 a0_4 a0_5 a0_6 a0_7 a0_8 a0_9 a0_10 a0_11 a0_12).length = 96 := by simp [encB, lowB_length]
theorem encB_bytes (a0_0 a0_1 a0_2 a0_3 a0_4 a0_5 a0_6 a0_7 a0_8 a0_9 a0_10 a0_11 a0_12 : Int) : ∀ x ∈ encB a0_0 a0_1 a0_2 a0_3 a0_4 a0_5 a0_6 a0_7 a0_8 a0_9 a0_10 a0_11 a0_12, 0 ≤ x ∧ x ≤ 255 := by
  intro x hx
  unfold encB at hx
  simp only [List.mem_append, or_assoc] at hx
  rcases hx with hx | hx | hx | hx | hx | hx | hx | hx | hx | hx | hx | hx | hx | hx
  all_goals (first | exact lowB_bytes _ _ x hx | (rw [List.eq_of_mem_replicate hx]; omega))
theorem encB_room (a0_0 a0_1 a0_2 a0_3 a0_4 a0_5 a0_6 a0_7 a0_8 a0_9 a0_10 a0_11 a0_12 : Int) : roomC (encB a0_0 a0_1 a0_2 a0_3 a0_4 a0_5 a0_6 a0_7 a0_8 a0_9 a0_10 a0_11 a0_12) 128 = roomC (lowL 8 (lowL 4 [] [a0_0, a0_1, a0_2, a0_3, a0_4, a0_5, a0_6, a0_7, a0_8]) [a0_9, a0_10, a0_11, a0_12]) 128 := by
  have e : encB a0_0 a0_1 a0_2 a0_3 a0_4 a0_5 a0_6 a0_7 a0_8 a0_9 a0_10 a0_11 a0_12 = lowL 8 (lowL 4 [] [a0_0, a0_1, a0_2, a0_3, a0_4, a0_5, a0_6, a0_7, a0_8]) [a0_9, a0_10, a0_11, a0_12] ++ List.replicate 28 0 := rfl
  rw [e, room_more]
  simp [lowL, lowB_length]
theorem index_ptr9 (cs : Array Value) (q : Nat) (v : Value) (hv : cs[q]? = some v) (hq : q < 9) (W : World) : (Instr.index 84 (.agg cs) (.int .i64 (q : Int))).run Try.prog W = .ok v W := by
  have hu := Try.underlying84
  have hp := Try.underlying83
  obtain ⟨i, hi, hs⟩ : ∃ i, Try.prog.info? 83 = some i ∧ i.size = 1 := by
    have h : (Try.prog.info? 83).map (·.size) = some 1 := by kernel_rfl
    cases hq : Try.prog.info? 83 with
    | none => rw [hq] at h; cases h
    | some i => rw [hq] at h; exact ⟨i, rfl, Option.some.inj h⟩
  have h1 : (0 : Int) ≤ (q : Int) ∧ (q : Int) < 9 := by omega
  simp [Instr.index, run_underlying hu, asIntOf, h1, sizeOf, typeInfo, hi, hs, part, isAgg, run_underlying hp, hv]
  exact fun h => absurd h (by omega)

theorem index_ptr4 (cs : Array Value) (q : Nat) (v : Value) (hv : cs[q]? = some v) (hq : q < 4) (W : World) : (Instr.index 88 (.agg cs) (.int .i64 (q : Int))).run Try.prog W = .ok v W := by
  have hu := Try.underlying88
  have hp := Try.underlying83
  obtain ⟨i, hi, hs⟩ : ∃ i, Try.prog.info? 83 = some i ∧ i.size = 1 := by
    have h : (Try.prog.info? 83).map (·.size) = some 1 := by kernel_rfl
    cases hq : Try.prog.info? 83 with
    | none => rw [hq] at h; cases h
    | some i => rw [hq] at h; exact ⟨i, rfl, Option.some.inj h⟩
  have h1 : (0 : Int) ≤ (q : Int) ∧ (q : Int) < 4 := by omega
  simp [Instr.index, run_underlying hu, asIntOf, h1, sizeOf, typeInfo, hi, hs, part, isAgg, run_underlying hp, hv]
  exact fun h => absurd h (by omega)
theorem lw_stop : True := trivial
end Go.Proofs.Ythnchojddoefiaa.QLabelBests
