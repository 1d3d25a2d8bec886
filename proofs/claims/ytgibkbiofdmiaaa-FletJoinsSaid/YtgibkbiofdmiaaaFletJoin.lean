/- Join of package flet, and its law: the sums behind n words 0, reckoned at once. No conditions. -/
import Derived.Test.YtgibkbiofdmiaaaFlet
import Derived.Test.YtgibkbiofdmiaaaPFletJoinsx1
import Derived.Test.YtgibkbiofdmiaaaWEqStruct
import Derived.Test.YtgibkbiofdmiaaaWInvWords
import Derived.Deep.RegionWith
import Derived.Deep.RegionHeld3
set_option linter.unusedVariables false
set_option linter.unusedSimpArgs false
namespace Go.Proofs.Ytgibkbiofdmiaaa.Flet
open Go.RowKit Go.Proofs.YtgibkbiofdmiaaaW.PrintWords Go.Proofs.YtgibkbiofdmiaaaW.PrintLast

set_option maxHeartbeats 1000000 in
theorem join_bad (a b c d p q r s n : Int) (w : World) (hn : n < 0 ∨ n > 1048576) :
    Calls Try.prog 21 #[four a b c d, four p q r s, .int .i64 n] w fun e w' => e = .returned (.tuple #[four 0 0 0 0, .int .i64 2]) ∧ Below w.heap.size w w' := by
  have fin : ∀ o1 o2 o3 : Obj, Below w.heap.size w (((w.alloc o1).alloc o2).alloc o3) := fun o1 o2 o3 => (((Below.refl _ _).alloc (Nat.le_refl _) _).alloc (by simp) _).alloc (by simp; omega) _
  by_cases h : n < 0
  · clear hn
    go_enter Try.func21, Try.ntmps21
    go_wp2_with (fail)
    refine bodyPost_ret (v := .tuple #[four 0 0 0 0, .int .i64 2]) ?_ rfl ⟨rfl, ?_⟩
    · simp [results, Try.results21, go_sem]
    · exact fin _ _ _
  · have h2 : n > 1048576 := by omega
    clear hn
    go_enter Try.func21, Try.ntmps21
    go_wp2_with (fail)
    refine bodyPost_ret (v := .tuple #[four 0 0 0 0, .int .i64 2]) ?_ rfl ⟨rfl, ?_⟩
    · simp [results, Try.results21, go_sem]
    · exact fin _ _ _

def SJ (w : World) (a b c d p q r s : Int) (w' : World) : Prop :=
  w'.cell? ⟨w.heap.size, 0, none⟩ = some (.int .i64 a) ∧ w'.cell? ⟨w.heap.size, 1, none⟩ = some (.int .i64 b) ∧ w'.cell? ⟨w.heap.size, 2, none⟩ = some (.int .i64 c) ∧ w'.cell? ⟨w.heap.size, 3, none⟩ = some (.int .i64 d) ∧
  w'.cell? ⟨w.heap.size + 1, 0, none⟩ = some (.int .i64 p) ∧ w'.cell? ⟨w.heap.size + 1, 1, none⟩ = some (.int .i64 q) ∧ w'.cell? ⟨w.heap.size + 1, 2, none⟩ = some (.int .i64 r) ∧ w'.cell? ⟨w.heap.size + 1, 3, none⟩ = some (.int .i64 s) ∧
  w'.heap[w.heap.size + 1 + 1]? = some (.cells #[.int .i64 0, .int .i64 0, .int .i64 0, .int .i64 0] 23 (0, 0)) ∧ Below w.heap.size w w'
theorem SJ_below {w : World} {a b c d p q r s : Int} {w1 w2 : World} (h : SJ w a b c d p q r s w1) (hb : Below w1.heap.size w1 w2) : SJ w a b c d p q r s w2 := by
  obtain ⟨h1, h2, h3, h4, h5, h6, h7, h8, h9, h10⟩ := h
  have k : ∀ {ad : Addr} {v : Value}, w1.cell? ad = some v → w2.cell? ad = some v := fun {ad v} hv => (hb.cell (World.block_lt_of_cell? w1 _ hv)).trans hv
  exact ⟨k h1, k h2, k h3, k h4, k h5, k h6, k h7, k h8, (hb.block _ (Array.getElem?_eq_some_iff.1 h9).1).trans h9, h10.trans (hb.mono h10.size)⟩
theorem SJ_alloc {w : World} {a b c d p q r s : Int} {w1 : World} (h : SJ w a b c d p q r s w1) (o : Obj) : SJ w a b c d p q r s (w1.alloc o) := SJ_below h ((Below.refl _ _).alloc (Nat.le_refl _) _)

theorem SJ_drew {w : World} {a b c d p q r s : Int} {w1 : World} (h : SJ w a b c d p q r s w1) : SJ w a b c d p q r s w1.drew := SJ_below h (Below.drew (Below.refl _ _))
theorem SJ_parts {w : World} {a b c d p q r s : Int} {w' : World} (h : SJ w a b c d p q r s w') : w'.cell? ⟨w.heap.size, 0, none⟩ = some (.int .i64 a) ∧ w'.cell? ⟨w.heap.size, 1, none⟩ = some (.int .i64 b) ∧ w'.cell? ⟨w.heap.size, 2, none⟩ = some (.int .i64 c) ∧ w'.cell? ⟨w.heap.size, 3, none⟩ = some (.int .i64 d) ∧
  w'.cell? ⟨w.heap.size + 1, 0, none⟩ = some (.int .i64 p) ∧ w'.cell? ⟨w.heap.size + 1, 1, none⟩ = some (.int .i64 q) ∧ w'.cell? ⟨w.heap.size + 1, 2, none⟩ = some (.int .i64 r) ∧ w'.cell? ⟨w.heap.size + 1, 3, none⟩ = some (.int .i64 s) ∧
  w'.heap[w.heap.size + 1 + 1]? = some (.cells #[.int .i64 0, .int .i64 0, .int .i64 0, .int .i64 0] 23 (0, 0)) ∧ Below w.heap.size w w' := h
def BK (w : World) (g : Nat) (x y z u : Int) (w' : World) : Prop := w.heap.size + 3 ≤ g ∧ w'.heap[g]? = some (.cells #[.int .i64 x, .int .i64 y, .int .i64 z, .int .i64 u] 59 (0, 0))
theorem BK_below {w w1 w2 : World} {g : Nat} {x y z u : Int} (h : BK w g x y z u w1) (hb : Below w1.heap.size w1 w2) : BK w g x y z u w2 := ⟨h.1, (hb.block _ (Array.getElem?_eq_some_iff.1 h.2).1).trans h.2⟩
theorem BK_alloc {w w1 : World} {g : Nat} {x y z u : Int} (h : BK w g x y z u w1) (o : Obj) : BK w g x y z u (w1.alloc o) := BK_below h ((Below.refl _ _).alloc (Nat.le_refl _) _)
theorem BK_new {w w1 : World} {a b c d p q r s : Int} (h : SJ w a b c d p q r s w1) : BK w w1.heap.size 0 0 0 0 (w1.alloc (.cells #[.int .i64 0, .int .i64 0, .int .i64 0, .int .i64 0] 59)) := by
  have := (Array.getElem?_eq_some_iff.1 (SJ_parts h).2.2.2.2.2.2.2.2.1).1
  exact ⟨by omega, heap_alloc_new w1 _⟩
theorem BK_ne {w w1 : World} {g : Nat} {x y z u : Int} (h : BK w g x y z u w1) : g ≠ w1.heap.size := by
  have := (Array.getElem?_eq_some_iff.1 h.2).1
  omega
theorem BK_set {w w1 : World} {g : Nat} {x y z u : Int} (h : BK w g x y z u w1) (a b c d : Int) : BK w g a b c d ((((w1.setCell ⟨g, 0, none⟩ (.int .i64 a)).setCell ⟨g, 1, none⟩ (.int .i64 b)).setCell ⟨g, 2, none⟩ (.int .i64 c)).setCell ⟨g, 3, none⟩ (.int .i64 d)) := ⟨h.1, set4 h.2 _ _ _ _⟩
theorem BK_set_ne {w w1 : World} {g k : Nat} {x y z u : Int} (h : BK w k x y z u w1) (hk : k ≠ g) (v0 v1 v2 v3 : Value) : BK w k x y z u ((((w1.setCell ⟨g, 0, none⟩ v0).setCell ⟨g, 1, none⟩ v1).setCell ⟨g, 2, none⟩ v2).setCell ⟨g, 3, none⟩ v3) := ⟨h.1, (set4_ne hk _ _ _ _).trans h.2⟩
theorem SJ_set {w w1 : World} {a b c d p q r s : Int} {g : Nat} {x y z u : Int} (h : SJ w a b c d p q r s w1) (hg : BK w g x y z u w1) (v0 v1 v2 v3 : Value) :
    SJ w a b c d p q r s ((((w1.setCell ⟨g, 0, none⟩ v0).setCell ⟨g, 1, none⟩ v1).setCell ⟨g, 2, none⟩ v2).setCell ⟨g, 3, none⟩ v3) := by
  obtain ⟨h1, h2, h3, h4, h5, h6, h7, h8, h9, h10⟩ := h
  have hl := hg.1
  have k : ∀ {ad : Addr} {v : Value}, ad.block < w.heap.size + 3 → w1.cell? ad = some v → ((((w1.setCell ⟨g, 0, none⟩ v0).setCell ⟨g, 1, none⟩ v1).setCell ⟨g, 2, none⟩ v2).setCell ⟨g, 3, none⟩ v3).cell? ad = some v := fun {ad v} hlt hv =>
    (World.cell?_of_block (set4_ne (by omega) v0 v1 v2 v3)).trans hv
  exact ⟨k (by simp) h1, k (by simp) h2, k (by simp) h3, k (by simp) h4, k (by simp) h5, k (by simp) h6, k (by simp) h7, k (by simp) h8, (set4_ne (by omega) _ _ _ _).trans h9, below_set4 h10 (by omega) _ _ _ _⟩
def join3T : Bool × List (List Nat × List Nat) := (true, [([], []), ([0], [0]), ([], []), ([2, 1], [2]), ([], []), ([], []), ([4, 1, 3, 0, 1, 4, 5], [1, 4]), ([5, 3, 6, 0, 1, 2, 3, 4, 5, 6], [3, 5])])
def join3B : List Nat := [0, 1, 0, 7, 0, 0, 63, 127]
theorem join3tab : rtab .any (opsOf Try.f21 3) = join3T := by kernel_rfl
theorem join3bits : waitsOk join3T.2 join3B = true := by kernel_rfl
abbrev vec (x0 x1 x2 x3 : Int) : Nat → Int | 0 => x0 | 1 => x1 | 2 => x2 | _ => x3
abbrev arr4 (o : Nat → Int) : Array Value := #[.int .i64 (o 0), .int .i64 (o 1), .int .i64 (o 2), .int .i64 (o 3)]
def accJ (F A : Nat → Int) (t : Int) (i : Nat) : Nat → Int
  | 0 => t
  | k + 1 => wrap64 (accJ F A t i k + wrap64 (F (i - k) * A k))
def oJ (F A T : Nat → Int) (i k : Nat) : Nat → Int := fun j => if j < i then accJ F A (T j) j (j + 1) else if j = i then accJ F A (T j) i k else T j
theorem arr_set (o : Nat → Int) (i : Nat) (hi : i < 4) (v : Int) : (arr4 o).setIfInBounds i (.int .i64 v) = arr4 (fun j => if j = i then v else o j) := by
  match i, hi with
  | 0, _ => rfl
  | 1, _ => rfl
  | 2, _ => rfl
  | 3, _ => rfl
theorem arr_cell {w : World} {g t : Nat} {o : Nat → Int} (h : w.heap[g]? = some (.cells (arr4 o) t (0, 0))) (i : Nat) (hi : i < 4) : w.cell? ⟨g, i, none⟩ = some (.int .i64 (o i)) := by
  obtain ⟨h0, h1, h2, h3, _⟩ := blk4 h
  match i, hi with
  | 0, _ => exact h0
  | 1, _ => exact h1
  | 2, _ => exact h2
  | 3, _ => exact h3
theorem oJ_step (F A T : Nat → Int) (i k : Nat) : (fun j => if j = i then accJ F A (T i) i (k + 1) else oJ F A T i k j) = oJ F A T i (k + 1) := by
  funext j
  by_cases h : j = i
  · subst h; simp [oJ]
  · simp [oJ, h]
theorem oJ_next (F A T : Nat → Int) (i : Nat) : oJ F A T i (i + 1) = oJ F A T (i + 1) 0 := by
  funext j
  by_cases h : j < i
  · simp [oJ, h, show j < i + 1 from by omega]
  · by_cases h2 : j = i
    · subst h2; simp [oJ]
    · by_cases h3 : j = i + 1
      · subst h3
        have e1 : ¬ i + 1 < i := by omega
        have e2 : ¬ i + 1 = i := by omega
        have e3 : ¬ i + 1 < i + 1 := by omega
        simp only [oJ, if_neg e1, if_neg e2, if_neg e3, if_true, accJ]
      · simp [oJ, h, h2, h3, show ¬ j < i + 1 from by omega]
def Stat (w : World) (g8 gf : Nat) (F A : Nat → Int) (wr : World) : Prop :=
  wr.heap[g8]? = some (.cells (arr4 A) 59 (0, 0)) ∧ wr.heap[gf]? = some (.cells (arr4 F) 58 (0, 0)) ∧ wr.heap[w.heap.size + 1 + 1]? = some (.cells #[.int .i64 0, .int .i64 0, .int .i64 0, .int .i64 0] 23 (0, 0)) ∧ Below w.heap.size w wr
def OutRel (w : World) (g8 g9 gf : Nat) (F A T : Nat → Int) (kq : Nat) (v40 : Value) (wr : World) : Prop :=
  ∃ i : Nat, i + kq = 4 ∧ v40 = .int .i64 (i : Int) ∧ wr.heap[g9]? = some (.cells (arr4 (oJ F A T i 0)) 59 (0, 0)) ∧ Stat w g8 gf F A wr
def InRel (w : World) (g8 g9 gf : Nat) (F A T : Nat → Int) (i : Nat) (kq : Nat) (v12 : Value) (wr : World) : Prop :=
  ∃ k : Nat, k + kq = i + 1 ∧ v12 = .int .i64 (k : Int) ∧ wr.heap[g9]? = some (.cells (arr4 (oJ F A T i k)) 59 (0, 0)) ∧ Stat w g8 gf F A wr
set_option maxHeartbeats 4000000 in
theorem join_calls (a1 a2 a3 a4 t1 t2 t3 t4 n : Int) (w : World) (h0 : 0 ≤ n) (h1 : n ≤ 1048576) (F : Nat → Int)
    (hF : F = vec 1 n (wrap64 ((wrap64 (n * (n + 1))).tdiv 2)) (wrap64 ((wrap64 (wrap64 ((wrap64 (n * (n + 1))).tdiv 2) * (n + 2))).tdiv 3))) (o : Nat → Int) (ho : o = oJ F (vec a1 a2 a3 a4) (vec t1 t2 t3 t4) 4 0) :
    Calls Try.prog 21 #[four a1 a2 a3 a4, four t1 t2 t3 t4, .int .i64 n] w fun e w' => e = .returned (.tuple #[four (o 0) (o 1) (o 2) (o 3), .int .i64 0]) ∧ Below w.heap.size w w' := by
  have HF := Aside0.mk hF
  clear hF
  go_enter Try.func21, Try.ntmps21
  go_upto_region 3 with fail
  go_cut [8, 9] (fun v8 v9 wx => ∃ g8 g9 : Nat, v8 = .pointer (some ⟨g8, 0, none⟩) ∧ v9 = .pointer (some ⟨g9, 0, none⟩) ∧ w.heap.size + 3 ≤ g8 ∧ w.heap.size + 3 ≤ g9 ∧ g8 ≠ g9 ∧
    wx.heap[g8]? = some (.cells #[.int .i64 a1, .int .i64 a2, .int .i64 a3, .int .i64 a4] 59 (0, 0)) ∧ wx.heap[g9]? = some (.cells #[.int .i64 t1, .int .i64 t2, .int .i64 t3, .int .i64 t4] 59 (0, 0)) ∧
    wx.heap[w.heap.size + 1 + 1]? = some (.cells #[.int .i64 0, .int .i64 0, .int .i64 0, .int .i64 0] 23 (0, 0)) ∧ Below w.heap.size w wx)
  case first =>
    have hS0 : SJ w a1 a2 a3 a4 t1 t2 t3 t4 (((w.alloc (.cells #[.int .i64 a1, .int .i64 a2, .int .i64 a3, .int .i64 a4] 23)).alloc (.cells #[.int .i64 t1, .int .i64 t2, .int .i64 t3, .int .i64 t4] 23)).alloc (.cells #[.int .i64 0, .int .i64 0, .int .i64 0, .int .i64 0] 23)) := by
      have e1 : ∀ o1 o2 o3 : Obj, (((w.alloc o1).alloc o2).alloc o3).heap[w.heap.size]? = some o1 := fun o1 o2 o3 => by
        rw [Below.heap_alloc _ _ _ (by simp; omega), Below.heap_alloc _ _ _ (by simp), heap_alloc_new]
      have e2 : ∀ o1 o2 o3 : Obj, (((w.alloc o1).alloc o2).alloc o3).heap[w.heap.size + 1]? = some o2 := fun o1 o2 o3 => by
        rw [Below.heap_alloc _ _ _ (by simp)]
        exact (congrArg (fun i => ((w.alloc o1).alloc o2).heap[i]?) (show w.heap.size + 1 = (w.alloc o1).heap.size by simp)).trans (heap_alloc_new (w.alloc o1) o2)
      have e3 : ∀ o1 o2 o3 : Obj, (((w.alloc o1).alloc o2).alloc o3).heap[w.heap.size + 1 + 1]? = some o3 := fun o1 o2 o3 =>
        (congrArg (fun i => (((w.alloc o1).alloc o2).alloc o3).heap[i]?) (show w.heap.size + 1 + 1 = ((w.alloc o1).alloc o2).heap.size by simp)).trans (heap_alloc_new _ o3)
      obtain ⟨f0, f1, f2, f3, _⟩ := blk4 (e1 (.cells #[.int .i64 a1, .int .i64 a2, .int .i64 a3, .int .i64 a4] 23) (.cells #[.int .i64 t1, .int .i64 t2, .int .i64 t3, .int .i64 t4] 23) (.cells #[.int .i64 0, .int .i64 0, .int .i64 0, .int .i64 0] 23))
      obtain ⟨k0, k1, k2, k3, _⟩ := blk4 (e2 (.cells #[.int .i64 a1, .int .i64 a2, .int .i64 a3, .int .i64 a4] 23) (.cells #[.int .i64 t1, .int .i64 t2, .int .i64 t3, .int .i64 t4] 23) (.cells #[.int .i64 0, .int .i64 0, .int .i64 0, .int .i64 0] 23))
      exact ⟨f0, f1, f2, f3, k0, k1, k2, k3, e3 _ _ _, (((Below.refl _ _).alloc (Nat.le_refl _) _).alloc (by simp) _).alloc (by simp; omega) _⟩
    have HS := Aside0.mk (SJ_drew hS0)
    clear hS0
    refine start_ (n := 8) (S := fun w' => True) (ds := []) #[false, false, false, false, false, false, false, false] (by kernel_rfl) rfl rfl trivial (fun hHeld => ?_)
    refine with_tabW join3tab join3bits (fun HT_ HW_ => ?_)
    refine inv_at [0, 1, 2, 3, 4, 5, 6, 7] (fun a0_ b a w' => ∃ (g8 : Nat) (g9 : Nat) (m4_ : Value) (m5_ : Value), a = putSel a0_ b [(0, 20, four a1 a2 a3 a4), (1, 21, four a1 a2 a3 a4), (2, 22, four t1 t2 t3 t4), (3, 23, four t1 t2 t3 t4), (4, 8, m4_), (5, 9, m5_)] ∧ (SJ w a1 a2 a3 a4 t1 t2 t3 t4 w') ∧ (b 4 = true → b 6 = false → BK w g8 0 0 0 0 w') ∧ (b 6 = true → BK w g8 a1 a2 a3 a4 w') ∧ (b 5 = true → b 7 = false → BK w g9 0 0 0 0 w') ∧ (b 7 = true → BK w g9 t1 t2 t3 t4 w') ∧ (b 4 = true → b 5 = true → g8 ≠ g9) ∧ (b 4 = true → (m4_ : Value) = .pointer (some ⟨g8, 0, none⟩)) ∧ (b 5 = true → (m5_ : Value) = .pointer (some ⟨g9, 0, none⟩))) HT_.out HW_.out (by kernel_rfl) (by kernel_rfl) ?_ ?_ ?_
    · exact ⟨0, 0, .bool false, .bool false, by simp only [putSel, Bool.false_eq_true, if_false], HS.out, fun h_ => absurd h_ (by decide), fun h_ => absurd h_ (by decide), fun h_ => absurd h_ (by decide), fun h_ => absurd h_ (by decide), fun h_ => absurd h_ (by decide), fun h_ => absurd h_ (by decide), fun h_ => absurd h_ (by decide)⟩
    · skip
      clear HS
      refine steps_cons ?_ ?_
      · rintro b a w' ⟨g8, g9, m4_, m5_, ha, Q_HS, Q_B8, Q_C8, Q_B9, Q_C9, Q_NE, Q_X4_, Q_X5_⟩ hb_ hon hoff
        refine ⟨_, rfl, fun K hK => ?_⟩
        have e3 : a.tmps[3]? = some (.pointer (some ⟨w.heap.size, 0, none⟩)) := by rw [ha]; exact (putSel_off rfl).trans rfl
        replace ha := Aside0.mk ha
        have HS := Aside0.mk Q_HS
        obtain ⟨c0, c1, c2, c3, _⟩ := SJ_parts HS.out
        refine value_ (w1 := w') (v := four a1 a2 a3 a4) (by rfl) rfl ?_ ?_
        · go_simp
          (try simp only [i64_w])
          try rfl
        refine hK.out _ _ ⟨g8, g9, m4_, m5_, (by rw [ha.out]; exact putSel_upk 0 hb_ rfl rfl rfl), Q_HS, Q_B8, fun h0_ => absurd ((hoff 6 (by kernel_rfl)).symm.trans h0_) (by decide), Q_B9, fun h0_ => absurd ((hoff 7 (by kernel_rfl)).symm.trans h0_) (by decide), Q_NE, Q_X4_, Q_X5_⟩
      refine steps_cons ?_ ?_
      · rintro b a w' ⟨g8, g9, m4_, m5_, ha, Q_HS, Q_B8, Q_C8, Q_B9, Q_C9, Q_NE, Q_X4_, Q_X5_⟩ hb_ hon hoff
        refine ⟨_, rfl, fun K hK => ?_⟩
        have e20 : a.tmps[20]? = some (four a1 a2 a3 a4) := by rw [ha]; exact putSel_on (e := (0, 20, four a1 a2 a3 a4)) 0 rfl rfl (hon 0 (by kernel_rfl)) rfl
        replace ha := Aside0.mk ha
        have HS := Aside0.mk Q_HS
        refine goes_ Try.func44 (by kernel_rfl) rfl #[four a1 a2 a3 a4] (by rfl) rfl rfl (by first | (simp only [List.map_toArray, List.map_cons, List.map_nil, Act.eval, Array.getD_eq_getD_getElem?, Option.getD_some, e20]; done) | (simp only [List.map_toArray, List.map_cons, List.map_nil, Act.eval, Array.getD_eq_getD_getElem?, Option.getD_some, e20]; rfl)) ?_
        refine (of_calls _ _ _ _ _).mono ?_
        rintro e2_ w2 ⟨rfl, hb2⟩
        refine ⟨_, rfl, ?_⟩
        refine hK.out _ _ ⟨g8, g9, m4_, m5_, (by rw [ha.out]; exact putSel_upk 1 hb_ rfl rfl rfl), SJ_below HS.out hb2, fun h0_ h1_ => BK_below (Q_B8 h0_ h1_) hb2, fun h0_ => absurd ((hoff 6 (by kernel_rfl)).symm.trans h0_) (by decide), fun h0_ h1_ => BK_below (Q_B9 h0_ h1_) hb2, fun h0_ => absurd ((hoff 7 (by kernel_rfl)).symm.trans h0_) (by decide), Q_NE, Q_X4_, Q_X5_⟩
      refine steps_cons ?_ ?_
      · rintro b a w' ⟨g8, g9, m4_, m5_, ha, Q_HS, Q_B8, Q_C8, Q_B9, Q_C9, Q_NE, Q_X4_, Q_X5_⟩ hb_ hon hoff
        refine ⟨_, rfl, fun K hK => ?_⟩
        have e4 : a.tmps[4]? = some (.pointer (some ⟨w.heap.size + 1, 0, none⟩)) := by rw [ha]; exact (putSel_off rfl).trans rfl
        replace ha := Aside0.mk ha
        have HS := Aside0.mk Q_HS
        obtain ⟨_, _, _, _, c0, c1, c2, c3, _⟩ := SJ_parts HS.out
        refine value_ (w1 := w') (v := four t1 t2 t3 t4) (by rfl) rfl ?_ ?_
        · go_simp
          (try simp only [i64_w])
          try rfl
        refine hK.out _ _ ⟨g8, g9, m4_, m5_, (by rw [ha.out]; exact putSel_upk 2 hb_ rfl rfl rfl), Q_HS, Q_B8, fun h0_ => absurd ((hoff 6 (by kernel_rfl)).symm.trans h0_) (by decide), Q_B9, fun h0_ => absurd ((hoff 7 (by kernel_rfl)).symm.trans h0_) (by decide), Q_NE, Q_X4_, Q_X5_⟩
      refine steps_cons ?_ ?_
      · rintro b a w' ⟨g8, g9, m4_, m5_, ha, Q_HS, Q_B8, Q_C8, Q_B9, Q_C9, Q_NE, Q_X4_, Q_X5_⟩ hb_ hon hoff
        refine ⟨_, rfl, fun K hK => ?_⟩
        have e22 : a.tmps[22]? = some (four t1 t2 t3 t4) := by rw [ha]; exact putSel_on (e := (2, 22, four t1 t2 t3 t4)) 2 rfl rfl (hon 2 (by kernel_rfl)) rfl
        replace ha := Aside0.mk ha
        have HS := Aside0.mk Q_HS
        refine goes_ Try.func44 (by kernel_rfl) rfl #[four t1 t2 t3 t4] (by rfl) rfl rfl (by first | (simp only [List.map_toArray, List.map_cons, List.map_nil, Act.eval, Array.getD_eq_getD_getElem?, Option.getD_some, e22]; done) | (simp only [List.map_toArray, List.map_cons, List.map_nil, Act.eval, Array.getD_eq_getD_getElem?, Option.getD_some, e22]; rfl)) ?_
        refine (of_calls _ _ _ _ _).mono ?_
        rintro e2_ w2 ⟨rfl, hb2⟩
        refine ⟨_, rfl, ?_⟩
        refine hK.out _ _ ⟨g8, g9, m4_, m5_, (by rw [ha.out]; exact putSel_upk 3 hb_ rfl rfl rfl), SJ_below HS.out hb2, fun h0_ h1_ => BK_below (Q_B8 h0_ h1_) hb2, fun h0_ => absurd ((hoff 6 (by kernel_rfl)).symm.trans h0_) (by decide), fun h0_ h1_ => BK_below (Q_B9 h0_ h1_) hb2, fun h0_ => absurd ((hoff 7 (by kernel_rfl)).symm.trans h0_) (by decide), Q_NE, Q_X4_, Q_X5_⟩
      refine steps_cons ?_ ?_
      · rintro b a w' ⟨g8, g9, m4_, m5_, ha, Q_HS, Q_B8, Q_C8, Q_B9, Q_C9, Q_NE, Q_X4_, Q_X5_⟩ hb_ hon hoff
        refine ⟨_, rfl, fun K hK => ?_⟩
        replace ha := Aside0.mk ha
        have HS := Aside0.mk Q_HS
        refine value_ (w1 := w'.alloc (.cells #[.int .i64 0, .int .i64 0, .int .i64 0, .int .i64 0] 59)) (v := .pointer (some ⟨w'.heap.size, 0, none⟩)) (by rfl) rfl ?_ ?_
        · go_simp
          try rfl
        refine hK.out _ _ ⟨w'.heap.size, g9, (.pointer (some ⟨w'.heap.size, 0, none⟩)), m5_, (by rw [ha.out]; exact putSel_upk 4 hb_ rfl rfl rfl), SJ_alloc HS.out _, fun _ _ => BK_new HS.out, fun h0_ => absurd ((hoff 6 (by kernel_rfl)).symm.trans h0_) (by decide), fun h0_ h1_ => BK_alloc (Q_B9 h0_ h1_) _, fun h0_ => absurd ((hoff 7 (by kernel_rfl)).symm.trans h0_) (by decide), fun _ _ => by rename_i h4_ h5_; exact (BK_ne (Q_B9 h5_ (hoff 7 (by kernel_rfl)))).symm, fun _ => rfl, Q_X5_⟩
      refine steps_cons ?_ ?_
      · rintro b a w' ⟨g8, g9, m4_, m5_, ha, Q_HS, Q_B8, Q_C8, Q_B9, Q_C9, Q_NE, Q_X4_, Q_X5_⟩ hb_ hon hoff
        refine ⟨_, rfl, fun K hK => ?_⟩
        replace ha := Aside0.mk ha
        have HS := Aside0.mk Q_HS
        refine value_ (w1 := w'.alloc (.cells #[.int .i64 0, .int .i64 0, .int .i64 0, .int .i64 0] 59)) (v := .pointer (some ⟨w'.heap.size, 0, none⟩)) (by rfl) rfl ?_ ?_
        · go_simp
          try rfl
        refine hK.out _ _ ⟨g8, w'.heap.size, m4_, (.pointer (some ⟨w'.heap.size, 0, none⟩)), (by rw [ha.out]; exact putSel_upk 5 hb_ rfl rfl rfl), SJ_alloc HS.out _, fun h0_ h1_ => BK_alloc (Q_B8 h0_ h1_) _, fun h0_ => absurd ((hoff 6 (by kernel_rfl)).symm.trans h0_) (by decide), fun _ _ => BK_new HS.out, fun h0_ => absurd ((hoff 7 (by kernel_rfl)).symm.trans h0_) (by decide), fun _ _ => by rename_i h4_ h5_; exact BK_ne (Q_B8 h4_ (hoff 6 (by kernel_rfl))), Q_X4_, fun _ => rfl⟩
      refine steps_cons ?_ ?_
      · rintro b a w' ⟨g8, g9, m4_, m5_, ha, Q_HS, Q_B8, Q_C8, Q_B9, Q_C9, Q_NE, Q_X4_, Q_X5_⟩ hb_ hon hoff
        refine ⟨_, rfl, fun K hK => ?_⟩
        have e8 : a.tmps[8]? = some (m4_) := by rw [ha]; exact putSel_on (e := (4, 8, m4_)) 4 rfl rfl (hon 4 (by kernel_rfl)) rfl
        rw [Q_X4_ (hon 4 (by kernel_rfl))] at e8
        have e21 : a.tmps[21]? = some (four a1 a2 a3 a4) := by rw [ha]; exact putSel_on (e := (1, 21, four a1 a2 a3 a4)) 1 rfl rfl (hon 1 (by kernel_rfl)) rfl
        replace ha := Aside0.mk ha
        have HS := Aside0.mk Q_HS
        have B8 := Aside0.mk (Q_B8 (hon 4 (by kernel_rfl)) hb_)
        have B9 := Aside0.mk (Q_B9 (hon 5 (by kernel_rfl)) (hoff 7 (by kernel_rfl)))
        have NE := Aside0.mk (Q_NE (hon 4 (by kernel_rfl)) (hon 5 (by kernel_rfl)))
        obtain ⟨q0, q1, q2, q3, qz⟩ := blk4 B8.out.2
        refine skip_ (w1 := ((((w'.setCell ⟨g8, 0, none⟩ (.int .i64 a1)).setCell ⟨g8, 1, none⟩ (.int .i64 a2)).setCell ⟨g8, 2, none⟩ (.int .i64 a3)).setCell ⟨g8, 3, none⟩ (.int .i64 a4))) (by rfl) rfl ?_ ?_
        · go_simp
          try rfl
        refine hK.out _ _ ⟨g8, g9, m4_, m5_, (by rw [ha.out]; exact putSel_none (v := undef) rfl), SJ_set HS.out B8.out _ _ _ _, fun _ h1_ => absurd ((up_self b 6).symm.trans h1_) (by decide), fun _ => BK_set B8.out _ _ _ _, fun _ _ => BK_set_ne B9.out NE.out.symm _ _ _ _, fun h0_ => absurd ((hoff 7 (by kernel_rfl)).symm.trans h0_) (by decide), Q_NE, Q_X4_, Q_X5_⟩
      refine steps_cons ?_ ?_
      · rintro b a w' ⟨g8, g9, m4_, m5_, ha, Q_HS, Q_B8, Q_C8, Q_B9, Q_C9, Q_NE, Q_X4_, Q_X5_⟩ hb_ hon hoff
        refine ⟨_, rfl, fun K hK => ?_⟩
        have e9 : a.tmps[9]? = some (m5_) := by rw [ha]; exact putSel_on (e := (5, 9, m5_)) 5 rfl rfl (hon 5 (by kernel_rfl)) rfl
        rw [Q_X5_ (hon 5 (by kernel_rfl))] at e9
        have e23 : a.tmps[23]? = some (four t1 t2 t3 t4) := by rw [ha]; exact putSel_on (e := (3, 23, four t1 t2 t3 t4)) 3 rfl rfl (hon 3 (by kernel_rfl)) rfl
        replace ha := Aside0.mk ha
        have HS := Aside0.mk Q_HS
        have C8 := Aside0.mk (Q_C8 (hon 6 (by kernel_rfl)))
        have B9 := Aside0.mk (Q_B9 (hon 5 (by kernel_rfl)) hb_)
        have NE := Aside0.mk (Q_NE (hon 4 (by kernel_rfl)) (hon 5 (by kernel_rfl)))
        obtain ⟨q0, q1, q2, q3, qz⟩ := blk4 B9.out.2
        refine skip_ (w1 := ((((w'.setCell ⟨g9, 0, none⟩ (.int .i64 t1)).setCell ⟨g9, 1, none⟩ (.int .i64 t2)).setCell ⟨g9, 2, none⟩ (.int .i64 t3)).setCell ⟨g9, 3, none⟩ (.int .i64 t4))) (by rfl) rfl ?_ ?_
        · go_simp
          try rfl
        refine hK.out _ _ ⟨g8, g9, m4_, m5_, (by rw [ha.out]; exact putSel_none (v := undef) rfl), SJ_set HS.out B9.out _ _ _ _, fun _ h1_ => absurd ((hon 6 (by kernel_rfl)).symm.trans h1_) (by decide), fun _ => BK_set_ne C8.out NE.out _ _ _ _, fun _ h1_ => absurd ((up_self b 7).symm.trans h1_) (by decide), fun _ => BK_set B9.out _ _ _ _, Q_NE, Q_X4_, Q_X5_⟩
      exact steps_nil
    · rintro b a w' hall ⟨g8, g9, m4_, m5_, ha, Q_HS, Q_B8, Q_C8, Q_B9, Q_C9, Q_NE, Q_X4_, Q_X5_⟩
      clear HS
      have hb0_ := hall 0 (by kernel_rfl)
      have hb1_ := hall 1 (by kernel_rfl)
      have hb2_ := hall 2 (by kernel_rfl)
      have hb3_ := hall 3 (by kernel_rfl)
      have hb4_ := hall 4 (by kernel_rfl)
      have hb5_ := hall 5 (by kernel_rfl)
      have hb6_ := hall 6 (by kernel_rfl)
      have hb7_ := hall 7 (by kernel_rfl)
      subst ha
      obtain rfl := Q_X4_ hb4_
      obtain rfl := Q_X5_ hb5_
      simp only [putSel, hb0_, hb1_, hb2_, hb3_, hb4_, hb5_, hb6_, hb7_, if_true, Act.put, List.setIfInBounds_toArray, List.set_cons_zero, List.set_cons_succ]
      have HS := Aside0.mk Q_HS
      clear Q_HS
      clear Q_B8
      have C8 := Aside0.mk (Q_C8 hb6_)
      clear Q_C8
      clear Q_B9
      have C9 := Aside0.mk (Q_C9 hb7_)
      clear Q_C9
      have NE := Aside0.mk (Q_NE hb4_ hb5_)
      clear Q_NE
      clear hall hb0_ hb1_ hb2_ hb3_ hb4_ hb5_ hb6_ hb7_
      clear hHeld
      go_wp2_with (fail)
      go_meet
      exact ⟨g8, g9, rfl, rfl, C8.out.1, C9.out.1, NE.out, C8.out.2, C9.out.2, (SJ_parts HS.out).2.2.2.2.2.2.2.2.1, (SJ_parts HS.out).2.2.2.2.2.2.2.2.2⟩
  case rest =>
    obtain ⟨g8, g9, rfl, rfl, hg8, hg9, hne, hb8, hb9, hres, hbel⟩ := hcut
    have H8 := Aside0.mk hb8
    have H9 := Aside0.mk hb9
    have HR := Aside0.mk hres
    have HW := Aside0.mk hbel
    clear hb8 hb9 hres hbel
    go_wp2_with (fail)
    have hlt8 : g8 < wc.heap.size := (Array.getElem?_eq_some_iff.1 H8.out).1
    have hlt9 : g9 < wc.heap.size := (Array.getElem?_eq_some_iff.1 H9.out).1
    have hltr : w.heap.size + 1 + 1 < wc.heap.size := (Array.getElem?_eq_some_iff.1 HR.out).1
    go_loopg [40] 4 (fun kq v40 wr => OutRel w g8 g9 wc.heap.size F (vec a1 a2 a3 a4) (vec t1 t2 t3 t4) kq v40 wr)
    case atStart =>
      have hF := HF.out
      subst hF
      refine ⟨0, by omega, rfl, ?_, ?_, ?_, ?_, ?_⟩
      · exact (Below.heap_alloc wc _ _ hlt9).trans H9.out
      · exact (Below.heap_alloc wc _ _ hlt8).trans H8.out
      · exact heap_alloc_new wc _
      · exact (Below.heap_alloc wc _ _ hltr).trans HR.out
      · exact HW.out.alloc (by omega) _
    case round =>
      obtain ⟨i, hi, rfl, hb9, hst⟩ := hrel
      have HB := Aside0.mk hb9
      have HS := Aside0.mk hst
      clear hb9 hst H8 H9 HR HW
      cases gk with
      | zero =>
        obtain rfl : i = 4 := by omega
        subst ho
        obtain ⟨hc0, hc1, hc2, hc3, hfz⟩ := blk4 HB.out
        go_wp2_with (fail)
        refine (sum_calls _ _ _ _ _).mono ?_
        rintro e w2 ⟨rfl, hb2⟩
        have hb3 := Aside0.mk hb2
        obtain ⟨hr0, hr1, hr2, hr3, hrz⟩ := blk4 ((hb2.block _ (Array.getElem?_eq_some_iff.1 HS.out.2.2.1).1).trans HS.out.2.2.1)
        clear hb2
        go_wp2_with (fail)
        refine bodyPost_ret (v := .tuple #[four (oJ F (vec a1 a2 a3 a4) (vec t1 t2 t3 t4) 4 0 0) (oJ F (vec a1 a2 a3 a4) (vec t1 t2 t3 t4) 4 0 1) (oJ F (vec a1 a2 a3 a4) (vec t1 t2 t3 t4) 4 0 2) (oJ F (vec a1 a2 a3 a4) (vec t1 t2 t3 t4) 4 0 3), .int .i64 0]) ?_ rfl ⟨rfl, ?_⟩
        · have hw := set4 ((hb3.out.block _ (Array.getElem?_eq_some_iff.1 HS.out.2.2.1).1).trans HS.out.2.2.1) (.int .i64 (oJ F (vec a1 a2 a3 a4) (vec t1 t2 t3 t4) 4 0 0)) (.int .i64 (oJ F (vec a1 a2 a3 a4) (vec t1 t2 t3 t4) 4 0 1)) (.int .i64 (oJ F (vec a1 a2 a3 a4) (vec t1 t2 t3 t4) 4 0 2)) (.int .i64 (oJ F (vec a1 a2 a3 a4) (vec t1 t2 t3 t4) 4 0 3))
          obtain ⟨q0, q1, q2, q3, qz⟩ := blk4 hw
          clear hw hr0 hr1 hr2 hr3 hrz
          simp [results, Try.results21, go_sem, q0, q1, q2, q3]
        · exact below_set4 (HS.out.2.2.2.trans (hb3.out.mono HS.out.2.2.2.size)) (by omega) _ _ _ _
      | succ gk1 =>
        have hi4 : (i : Int) < 4 := by omega
        go_wp2_with (fail)
        go_loopg [12] (i + 1) (fun kq v12 wr2 => InRel w g8 g9 wc.heap.size F (vec a1 a2 a3 a4) (vec t1 t2 t3 t4) i kq v12 wr2)
        case atStart => exact ⟨0, by omega, rfl, HB.out, HS.out⟩
        case round =>
          obtain ⟨k, hk, rfl, hb9, hst⟩ := hrel
          have HB2 := Aside0.mk hb9
          have HS2 := Aside0.mk hst
          clear hb9 hst
          cases gk with
          | zero =>
            obtain rfl : k = i + 1 := by omega
            have hki : ¬ (((i + 1 : Nat) : Int) ≤ (i : Int)) := by omega
            go_wp2_with (fail)
            go_roundg gk1
            case rel => exact ⟨i + 1, by omega, by first | rfl | (simp; done) | (congr 1; omega), by rw [← oJ_next]; exact HB2.out, HS2.out⟩
            case measure => omega
          | succ gk2 =>
            have hki : ((k : Int) ≤ (i : Int)) := by omega
            have c9 := arr_cell HB2.out i (by omega)
            have c8 := arr_cell HS2.out.1 k (by omega)
            have cf := arr_cell HS2.out.2.1 (i - k) (by omega)
            have s1 : IntKind.i64.wrap ((i : Int) - (k : Int)) = ((i - k : Nat) : Int) := by rw [IntKind.wrap_i64]; omega
            have s2 : wrap64 ((i : Int) - (k : Int)) = ((i - k : Nat) : Int) := by rw [wrap64]; omega
            have s3 : ((i - k : Nat) : Int) < 4 := by omega
            have s4 : (k : Int) < 4 := by omega
            obtain ⟨_, _, _, _, fz9⟩ := blk4 HB2.out
            have s5 := fz9 i
            clear fz9
            go_wp2_with (fail)
            go_still_tail 14, (by kernel_rfl)
            change wpList _ _ _ _ _ wr.drew
            go_wp2_with (fail)
            go_roundg gk2
            case rel =>
              have hlt8 := (Array.getElem?_eq_some_iff.1 HS2.out.1).1
              refine ⟨k + 1, by omega, by first | rfl | (simp; done) | (congr 1; omega), ?_, ?_, ?_, ?_, ?_⟩
              · rw [← oJ_step]
                have hv : wrap64 (oJ F (vec a1 a2 a3 a4) (vec t1 t2 t3 t4) i k i + wrap64 (F (i - k) * vec a1 a2 a3 a4 k)) = accJ F (vec a1 a2 a3 a4) (vec t1 t2 t3 t4 i) i (k + 1) := by
                  rw [show oJ F (vec a1 a2 a3 a4) (vec t1 t2 t3 t4) i k i = accJ F (vec a1 a2 a3 a4) (vec t1 t2 t3 t4 i) i k from by simp [oJ]]
                  rfl
                rw [← hv]
                exact (set1 HB2.out i _).trans (congrArg (fun z => some (Obj.cells z 59 (0, 0))) (arr_set _ i (by omega) _))
              · exact (Below.heap_setCell _ _ _ _ hne).trans HS2.out.1
              · exact (Below.heap_setCell _ _ _ _ (by show _ ≠ g9; omega)).trans HS2.out.2.1
              · exact (Below.heap_setCell _ _ _ _ (by show _ ≠ g9; omega)).trans HS2.out.2.2.1
              · exact (HS2.out.2.2.2.drew).setCell (by show _ ≤ g9; omega) _
            case measure => omega

theorem wj1 (x y : Int) : wrap64 (wrap64 x + y) = wrap64 (x + y) := by unfold wrap64; omega
theorem wj2 (x y : Int) : wrap64 (x + wrap64 y) = wrap64 (x + y) := by unfold wrap64; omega
theorem wj_id (n : Int) (h : -9223372036854775808 ≤ n ∧ n ≤ 9223372036854775807) : wrap64 n = n := by unfold wrap64; omega
theorem wj_wf {n : Int} (h : (Lit.int .i64 n).wf = true) : wrap64 n = n := by
  have : -9223372036854775808 ≤ n ∧ n ≤ 9223372036854775807 := by simpa [Lit.wf, IntKind.min, IntKind.max, IntKind.signed, IntKind.bits] using h
  exact wj_id n this
def tri : Nat → Int
  | 0 => 0
  | i + 1 => tri i + ((i : Int) + 1)
def tet : Nat → Int
  | 0 => 0
  | i + 1 => tet i + tri (i + 1)
theorem tri_eq : ∀ i : Nat, 2 * tri i = (i : Int) * ((i : Int) + 1)
  | 0 => by simp [tri]
  | i + 1 => by
    have := tri_eq i
    simp only [tri, Int.natCast_add, Int.natCast_one] at *
    simp only [Int.mul_add, Int.add_mul] at *
    omega
theorem tet_eq : ∀ i : Nat, 3 * tet i = tri i * ((i : Int) + 2)
  | 0 => by simp [tet, tri]
  | i + 1 => by
    have h1 := tet_eq i
    have h2 := tri_eq i
    simp only [tet, tri, Int.natCast_add, Int.natCast_one] at *
    rw [Int.mul_add, h1]
    simp only [Int.mul_add, Int.add_mul] at *
    omega

theorem sj_at (n : Nat) (hn : n ≤ 1048576) (a b c d t1 t2 t3 t4 : Int) : ∀ (m f i : Nat), n = i + m →
    PFletJoins.quicksetref_SumJoin.l0 (m + f + 1) (n : Int) (i : Int) a (wrap64 (b + i * a)) (wrap64 (c + i * b + tri i * a)) (wrap64 (d + i * c + tri i * b + tet i * a)) t1 t2 t3 t4 =
      some (wrap64 (a + t1), wrap64 (b + n * a + t2), wrap64 (c + n * b + tri n * a + t3), wrap64 (d + n * c + tri n * b + tet n * a + t4), 0)
  | 0, f, i, h => by
    have h : i = n := by omega
    subst h
    rw [PFletJoins.quicksetref_SumJoin.l0, if_neg (by omega), wj1, wj1, wj1]
  | m + 1, f, i, h => by
    have e1 : wrap64 ((i : Int) + 1) = ((i + 1 : Nat) : Int) := by rw [wj_id _ (by omega)]; omega
    have e2 : wrap64 (wrap64 (b + i * a) + a) = wrap64 (b + ((i + 1 : Nat) : Int) * a) := by
      rw [wj1]
      congr 1
      simp only [Int.natCast_add, Int.natCast_one, Int.add_mul]
      omega
    have e3 : wrap64 (wrap64 (c + i * b + tri i * a) + wrap64 (b + ((i + 1 : Nat) : Int) * a)) = wrap64 (c + ((i + 1 : Nat) : Int) * b + tri (i + 1) * a) := by
      rw [wj1, wj2]
      congr 1
      simp only [tri, Int.natCast_add, Int.natCast_one, Int.add_mul]
      omega
    have e4 : wrap64 (wrap64 (d + i * c + tri i * b + tet i * a) + wrap64 (c + ((i + 1 : Nat) : Int) * b + tri (i + 1) * a)) = wrap64 (d + ((i + 1 : Nat) : Int) * c + tri (i + 1) * b + tet (i + 1) * a) := by
      rw [wj1, wj2]
      congr 1
      simp only [tet, tri, Int.natCast_add, Int.natCast_one, Int.add_mul]
      omega
    rw [show m + 1 + f + 1 = (m + f + 1) + 1 from by omega, PFletJoins.quicksetref_SumJoin.l0, if_pos (by omega), e1, e2, e3, e4]
    exact sj_at n hn a b c d t1 t2 t3 t4 m f (i + 1) (by omega)
theorem join_law (n : Nat) (hn : n ≤ 1048576) (a b c d t1 t2 t3 t4 : Int) (hb : wrap64 b = b) (hc : wrap64 c = c) (hd : wrap64 d = d) :
    ∃ k, PFletJoins.quicksetref_SumJoin.f k a b c d t1 t2 t3 t4 (n : Int) = some (wrap64 (a + t1), wrap64 (b + n * a + t2), wrap64 (c + n * b + tri n * a + t3), wrap64 (d + n * c + tri n * b + tet n * a + t4), 0) := by
  refine ⟨n + 0 + 1 + 1, ?_⟩
  have h := sj_at n hn a b c d t1 t2 t3 t4 n 0 0 (by omega)
  have z : (((0 : Nat) : Int)) = 0 := rfl
  simp only [tri, tet, z, Int.zero_mul, Int.add_zero, hb, hc, hd] at h
  rw [PFletJoins.quicksetref_SumJoin.f, if_neg (by omega), decide_eq_false (by omega), PFletJoins.quicksetref_SumJoin.j0, if_neg (by simp)]
  exact h

theorem tri_le (n : Nat) (hn : n ≤ 1048576) : 0 ≤ tri n ∧ tri n ≤ 549756338176 := by
  have h := tri_eq n
  have h2 : n * (n + 1) ≤ 1048576 * 1048577 := Nat.mul_le_mul hn (by omega)
  have h3 : ((n * (n + 1) : Nat) : Int) = (n : Int) * ((n : Int) + 1) := by simp
  omega
theorem tet_le (n : Nat) (hn : n ≤ 1048576) : 0 ≤ tri n * ((n : Int) + 2) ∧ tri n * ((n : Int) + 2) ≤ 549756338176 * 1048578 := by
  obtain ⟨h0, h1⟩ := tri_le n hn
  exact ⟨Int.mul_nonneg h0 (by omega), Int.mul_le_mul h1 (by omega) (by omega) (by omega)⟩
theorem far2 (n : Nat) (hn : n ≤ 1048576) : wrap64 ((wrap64 ((n : Int) * ((n : Int) + 1))).tdiv 2) = tri n := by
  obtain ⟨h0, h1⟩ := tri_le n hn
  rw [← tri_eq n, wj_id (2 * tri n) (by omega), Int.mul_tdiv_cancel_left _ (by omega), wj_id _ (by omega)]
theorem far3 (n : Nat) (hn : n ≤ 1048576) : wrap64 ((wrap64 (tri n * ((n : Int) + 2))).tdiv 3) = tet n := by
  obtain ⟨h0, h1⟩ := tet_le n hn
  have h := tet_eq n
  rw [← h] at h0 h1 ⊢
  rw [wj_id (3 * tet n) (by omega), Int.mul_tdiv_cancel_left _ (by omega), wj_id _ (by omega)]
theorem join_o (n : Nat) (a b c d t1 t2 t3 t4 : Int) :
    oJ (vec 1 n (tri n) (tet n)) (vec a b c d) (vec t1 t2 t3 t4) 4 0 0 = wrap64 (a + t1) ∧ oJ (vec 1 n (tri n) (tet n)) (vec a b c d) (vec t1 t2 t3 t4) 4 0 1 = wrap64 (b + n * a + t2) ∧
    oJ (vec 1 n (tri n) (tet n)) (vec a b c d) (vec t1 t2 t3 t4) 4 0 2 = wrap64 (c + n * b + tri n * a + t3) ∧ oJ (vec 1 n (tri n) (tet n)) (vec a b c d) (vec t1 t2 t3 t4) 4 0 3 = wrap64 (d + n * c + tri n * b + tet n * a + t4) := by
  refine ⟨?_, ?_, ?_, ?_⟩
  · show wrap64 (t1 + wrap64 (1 * a)) = _
    simp only [wj1, wj2, Int.one_mul]
    congr 1
    omega
  · show wrap64 (wrap64 (t2 + wrap64 (n * a)) + wrap64 (1 * b)) = _
    simp only [wj1, wj2, Int.one_mul]
    congr 1
    omega
  · show wrap64 (wrap64 (wrap64 (t3 + wrap64 (tri n * a)) + wrap64 (n * b)) + wrap64 (1 * c)) = _
    simp only [wj1, wj2, Int.one_mul]
    congr 1
    omega
  · show wrap64 (wrap64 (wrap64 (wrap64 (t4 + wrap64 (tet n * a)) + wrap64 (tri n * b)) + wrap64 (n * c)) + wrap64 (1 * d)) = _
    simp only [wj1, wj2, Int.one_mul]
    congr 1
    omega
theorem join_any (a b c d t1 t2 t3 t4 n : Int) (hb : wrap64 b = b) (hc : wrap64 c = c) (hd : wrap64 d = d) : ∃ r1 r2 r3 r4 r5 : Int, (∃ k, PFletJoins.quicksetref_SumJoin.f k a b c d t1 t2 t3 t4 n = some (r1, r2, r3, r4, r5)) ∧
    ∀ w : World, Calls Try.prog 21 #[four a b c d, four t1 t2 t3 t4, .int .i64 n] w fun e w' => e = .returned (.tuple #[four r1 r2 r3 r4, .int .i64 r5]) ∧ Below w.heap.size w w' := by
  by_cases h : n < 0 ∨ n > 1048576
  · refine ⟨0, 0, 0, 0, 2, ⟨1, ?_⟩, fun w => join_bad _ _ _ _ _ _ _ _ n w h⟩
    rw [PFletJoins.quicksetref_SumJoin.f]
    by_cases h0 : n < 0
    · rw [if_pos h0, PFletJoins.quicksetref_SumJoin.j0, if_pos rfl]
    · rw [if_neg h0, decide_eq_true (by omega), PFletJoins.quicksetref_SumJoin.j0, if_pos rfl]
  · obtain ⟨m, rfl⟩ : ∃ m : Nat, n = m := ⟨n.toNat, by omega⟩
    refine ⟨_, _, _, _, _, join_law m (by omega) a b c d t1 t2 t3 t4 hb hc hd, fun w => ?_⟩
    obtain ⟨o0, o1, o2, o3⟩ := join_o m a b c d t1 t2 t3 t4
    have hj := join_calls a b c d t1 t2 t3 t4 m w (by omega) (by omega) (vec 1 m (tri m) (tet m)) (by rw [far2 m (by omega), far3 m (by omega)]) _ rfl
    rw [o0, o1, o2, o3] at hj
    exact hj

set_option maxHeartbeats 1000000 in
theorem fletJoins_calls (a b c d t1 t2 t3 t4 n : Int) (w : World)
    (_ : (Lit.int .i64 a).wf = true) (wb : (Lit.int .i64 b).wf = true) (wc : (Lit.int .i64 c).wf = true) (wd : (Lit.int .i64 d).wf = true)
    (_ : (Lit.int .i64 t1).wf = true) (_ : (Lit.int .i64 t2).wf = true) (_ : (Lit.int .i64 t3).wf = true) (_ : (Lit.int .i64 t4).wf = true) (_ : (Lit.int .i64 n).wf = true) :
    Calls Try.prog 6 #[four a b c d, four t1 t2 t3 t4, .int .i64 n] w fun e w' => e = .returned (.bool true) ∧ Below w.heap.size w w' := by
  obtain ⟨r1, r2, r3, r4, r5, ⟨k, hk⟩, hm⟩ := join_any a b c d t1 t2 t3 t4 n (wj_wf wb) (wj_wf wc) (wj_wf wd)
  have HM := Aside0.mk hm
  clear hm
  go_enter Try.func6, Try.ntmps6
  go_wp2_with (fail)
  have hb0 : Below w.heap.size w ((w.alloc (.cells #[.int .i64 a, .int .i64 b, .int .i64 c, .int .i64 d] 23)).alloc (.cells #[.int .i64 t1, .int .i64 t2, .int .i64 t3, .int .i64 t4] 23)) := ((Below.refl _ _).alloc (Nat.le_refl _) _).alloc (by simp) _
  refine (HM.out _).mono ?_
  rintro e w1 ⟨rfl, hb1⟩
  have hs0 : w.heap.size + 1 + 1 ≤ w1.heap.size := by have := hb1.size; simpa using this
  have HA := Aside0.mk ((hb1.block w.heap.size (by simp <;> omega)).trans ((Below.heap_alloc (w.alloc (.cells #[.int .i64 a, .int .i64 b, .int .i64 c, .int .i64 d] 23)) (.cells #[.int .i64 t1, .int .i64 t2, .int .i64 t3, .int .i64 t4] 23) w.heap.size (by simp <;> omega)).trans (heap_alloc_new w (.cells #[.int .i64 a, .int .i64 b, .int .i64 c, .int .i64 d] 23))))
  have HB := Aside0.mk ((hb1.block (w.heap.size + 1) (by simp <;> omega)).trans ((congrArg (fun i => ((w.alloc (.cells #[.int .i64 a, .int .i64 b, .int .i64 c, .int .i64 d] 23)).alloc (.cells #[.int .i64 t1, .int .i64 t2, .int .i64 t3, .int .i64 t4] 23)).heap[i]?) (show w.heap.size + 1 = (w.alloc (.cells #[.int .i64 a, .int .i64 b, .int .i64 c, .int .i64 d] 23)).heap.size by simp)).trans (heap_alloc_new (w.alloc (.cells #[.int .i64 a, .int .i64 b, .int .i64 c, .int .i64 d] 23)) (.cells #[.int .i64 t1, .int .i64 t2, .int .i64 t3, .int .i64 t4] 23))))
  have HX := Aside0.mk (hb0.trans (hb1.mono (by simp; omega)))
  clear hb0 hb1
  have HE := Aside0.mk ((Below.heap_alloc w1 (.cells #[.int .i64 r1, .int .i64 r2, .int .i64 r3, .int .i64 r4] 23) w.heap.size (by omega)).trans HA.out)
  have HF := Aside0.mk ((Below.heap_alloc w1 (.cells #[.int .i64 r1, .int .i64 r2, .int .i64 r3, .int .i64 r4] 23) (w.heap.size + 1) (by omega)).trans HB.out)
  obtain ⟨hr0, hr1, hr2, hr3, hrz⟩ := blk4 HE.out
  obtain ⟨hq0, hq1, hq2, hq3, hqz⟩ := blk4 HF.out
  go_wp2_with (fail)
  have hb2 : Below w.heap.size w (w1.alloc (.cells #[.int .i64 r1, .int .i64 r2, .int .i64 r3, .int .i64 r4] 23)) := HX.out.alloc (by omega) _
  refine (PFletJoins.quicksetref_SumJoin.calls k a b c d t1 t2 t3 t4 n r1 r2 r3 r4 r5 _ hk).mono ?_
  rintro e w2 ⟨rfl, hb3⟩
  have HY := Aside0.mk (hb2.trans (hb3.mono (by simp; omega)))
  have HD := Aside0.mk ((hb3.block _ (by simp)).trans (heap_alloc_new w1 (.cells #[.int .i64 r1, .int .i64 r2, .int .i64 r3, .int .i64 r4] 23)))
  clear hb2 hb3 hr0 hr1 hr2 hr3 hrz hq0 hq1 hq2 hq3 hqz
  have hs2 : w1.heap.size < w2.heap.size := (Array.getElem?_eq_some_iff.1 HD.out).1
  have HE2 := Aside0.mk ((Below.heap_alloc w2 (.cells #[.int .i64 r1, .int .i64 r2, .int .i64 r3, .int .i64 r4] 23) w1.heap.size (by omega)).trans HD.out)
  obtain ⟨hr0, hr1, hr2, hr3, hrz⟩ := blk4 HE2.out
  go_wp2_with (fail)
  refine bodyPost_ret (v := .bool true) ?_ rfl ⟨rfl, ?_⟩
  · simp [results, Try.results6, go_sem]
  · exact HY.out.alloc (by have := HY.out.size; omega) _
end Go.Proofs.Ytgibkbiofdmiaaa.Flet
