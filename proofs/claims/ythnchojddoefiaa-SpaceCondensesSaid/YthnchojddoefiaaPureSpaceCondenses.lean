/- SpaceCondenses: the two answers are one, over plain numbers and lists, for every argument; no conditions. -/
import Derived.Test.YthnchojddoefiaaQSpaceCondensesx4
set_option linter.unusedVariables false
set_option linter.unusedSimpArgs false
namespace Go.Proofs.Ythnchojddoefiaa.Pure
open Go.RowKit Go.Proofs.Ythnchojddoefiaa Go.Proofs.Ythnchojddoefiaa.QSpaceCondenses Go.Proofs.YthnchojddoefiaaW.PrintWords Go.Proofs.YthnchojddoefiaaW.PrintLast Go.Proofs.YthnchojddoefiaaW.PrintMore

theorem wrap_id {n : Int} (h0 : -9223372036854775808 ≤ n) (h1 : n ≤ 9223372036854775807) : wrap64 n = n := by unfold wrap64; omega

theorem put_is (c : Int) : ∀ (n : Nat) (us : List Int) (i : Int), 0 ≤ i → i + n ≤ (us.length : Int) → us.length ≤ 4096 → ∃ k, quicksetref_spaceNow_put.l0 k us (i + n) c i = some (sp_set c n us i)
  | 0, us, i, h0, h1, h2 => ⟨1, by rw [quicksetref_spaceNow_put.l0, if_neg (by omega), sp_set]⟩
  | n + 1, us, i, h0, h1, h2 => by
    obtain ⟨k, hk⟩ := put_is c n (us.set i.toNat c) (i + 1) (by omega) (by rw [List.length_set]; omega) (by rw [List.length_set]; exact h2)
    refine ⟨k + 1, ?_⟩
    rw [quicksetref_spaceNow_put.l0, if_pos (by omega), if_pos h0, if_pos (by omega), wrap_id (by omega) (by omega), sp_set, show i + ((n + 1 : Nat) : Int) = i + 1 + (n : Int) from by omega]
    exact hk
theorem is_is (c : Int) (us : List Int) (h2 : us.length ≤ 4096) : ∀ (n : Nat) (i : Int), 0 ≤ i → i + n ≤ (us.length : Int) → ∃ k, quicksetref_spaceNow_is.l0 k us (i + n) c i = some (sp_all c us n i)
  | 0, i, h0, h1 => ⟨1, by rw [quicksetref_spaceNow_is.l0, if_neg (by omega), sp_all]⟩
  | n + 1, i, h0, h1 => by
    obtain ⟨k, hk⟩ := is_is c us h2 n (i + 1) (by omega) (by omega)
    refine ⟨k + 1, ?_⟩
    rw [quicksetref_spaceNow_is.l0, if_pos (by omega), if_pos h0, if_pos (by omega), wrap_id (by omega) (by omega), sp_all, show i + ((n + 1 : Nat) : Int) = i + 1 + (n : Int) from by omega]
    by_cases h : rd us i = c
    · rw [if_pos h, if_pos h]; exact hk
    · rw [if_neg h, if_neg h]
def tellR : Option (List Int) → List Int × Int
  | none => ([], 4)
  | some us => (us, 0)
theorem again_is (size : Int) (hs0 : 1 ≤ size) (hs1 : size ≤ 4096) (l : List S140) (hl : l.length ≤ 4096) : ∀ (n : Nat) (us : List Int) (i : Int), 0 ≤ i → i + n = (l.length : Int) → us.length = size.toNat → ∃ k, quicksetref_spaceAgain.l0 k size us l (l.length : Int) i = some (tellR (sp_rep size l n us i))
  | 0, us, i, h0, h1, h2 => ⟨1, by rw [quicksetref_spaceAgain.l0, if_neg (by omega), sp_rep]; rfl⟩
  | n + 1, us, i, h0, h1, h2 => by
    have hi : i < (l.length : Int) := by omega
    rw [sp_rep]
    generalize hx : rd_T140 l i = x
    by_cases c1 : x.f1.f0 < 0
    · refine ⟨2, ?_⟩
      rw [quicksetref_spaceAgain.l0, if_pos hi, if_pos h0, if_pos hi, hx, quicksetref_RangeMay.f, if_neg (by omega), if_pos c1]
      rfl
    · rw [if_neg c1]
      by_cases c2 : x.f1.f0 ≥ x.f1.f1
      · refine ⟨2, ?_⟩
        rw [quicksetref_spaceAgain.l0, if_pos hi, if_pos h0, if_pos hi, hx, quicksetref_RangeMay.f, if_pos (by omega), if_neg (by omega), if_pos c2]
        rfl
      · rw [if_neg c2]
        by_cases c3 : x.f1.f1 > size
        · refine ⟨2, ?_⟩
          rw [quicksetref_spaceAgain.l0, if_pos hi, if_pos h0, if_pos hi, hx, quicksetref_RangeMay.f, if_pos (by omega), if_pos (by omega), if_pos c3, if_pos c3]
          by_cases c4 : x.f1.f1 ≤ 1048576
          · rw [decide_eq_true c4]; rfl
          · rw [decide_eq_false c4]; rfl
        · rw [if_neg c3]
          have hrm : quicksetref_RangeMay.f x.f1.f0 x.f1.f1 = some true := by
            rw [quicksetref_RangeMay.f, if_pos (by omega), if_pos (by omega), decide_eq_true (by omega)]
          have hflag : quicksetref_flag.f x.f0 = some (if x.f0 = true then 1 else 0) := by
            unfold quicksetref_flag.f
            by_cases h : x.f0 = true
            · rw [if_pos h, if_pos h]
            · rw [if_neg h, if_neg h]
          have hn : x.f1.f0 + ((x.f1.f1 - x.f1.f0).toNat : Int) = x.f1.f1 := by omega
          obtain ⟨k1, hk1⟩ := is_is (if x.f0 = true then 1 else 0) us (by omega) (x.f1.f1 - x.f1.f0).toNat x.f1.f0 (by omega) (by omega)
          rw [hn] at hk1
          cases ha : sp_all (if x.f0 = true then 1 else 0) us (x.f1.f1 - x.f1.f0).toNat x.f1.f0 with
          | false =>
            rw [ha] at hk1
            refine ⟨k1 + 2, ?_⟩
            have hk2 := at_rounds (fun k => quicksetref_spaceNow_is.mono us x.f1.f0 x.f1.f1 (if x.f0 = true then 1 else 0) k) (show k1 ≤ k1 + 1 by omega) hk1
            rw [quicksetref_spaceAgain.l0, if_pos hi, if_pos h0, if_pos hi, hx, hrm]
            simp only [Option.bind_some]
            rw [if_pos trivial, if_neg c3, hflag]
            simp only [Option.bind_some]
            rw [hk2]
            rfl
          | true =>
            rw [ha] at hk1
            rw [if_pos rfl]
            have hw : wrap64 (1 - (if x.f0 = true then (1 : Int) else 0)) = if x.f0 = true then 0 else 1 := by
              by_cases h : x.f0 = true
              · rw [if_pos h, if_pos h]; exact wrap_id (by decide) (by decide)
              · rw [if_neg h, if_neg h]; exact wrap_id (by decide) (by decide)
            obtain ⟨k2, hk2⟩ := put_is (if x.f0 = true then 0 else 1) (x.f1.f1 - x.f1.f0).toNat us x.f1.f0 (by omega) (by omega) (by omega)
            rw [hn] at hk2
            obtain ⟨k3, hk3⟩ := again_is size hs0 hs1 l hl n (sp_set (if x.f0 = true then 0 else 1) (x.f1.f1 - x.f1.f0).toNat us x.f1.f0) (i + 1) (by omega) (by omega) (by rw [sp_set_length]; exact h2)
            refine ⟨max k1 (max k2 k3) + 2, ?_⟩
            have g1 := at_rounds (fun k => quicksetref_spaceNow_is.mono us x.f1.f0 x.f1.f1 (if x.f0 = true then 1 else 0) k) (show k1 ≤ max k1 (max k2 k3) + 1 by omega) hk1
            have g2 := at_rounds (fun k => quicksetref_spaceNow_put.mono us x.f1.f0 x.f1.f1 (if x.f0 = true then 0 else 1) k) (show k2 ≤ max k1 (max k2 k3) by omega) hk2
            have g3 := at_rounds (fun k => (quicksetref_spaceAgain.mono_l k).2.1 size (sp_set (if x.f0 = true then 0 else 1) (x.f1.f1 - x.f1.f0).toNat us x.f1.f0) l (l.length : Int) (i + 1)) (show k3 ≤ max k1 (max k2 k3) by omega) hk3
            rw [quicksetref_spaceAgain.l0, if_pos hi, if_pos h0, if_pos hi, hx, hrm]
            simp only [Option.bind_some]
            rw [if_pos trivial, if_neg c3, hflag]
            simp only [Option.bind_some]
            rw [g1]
            simp only [Option.bind_some]
            rw [quicksetref_spaceAgain.j2, if_neg (by decide), hflag]
            simp only [Option.bind_some]
            rw [hw, g2]
            simp only [Option.bind_some]
            rw [wrap_id (by omega) (by omega)]
            exact g3
def tellE : Except Int (List Int) → List Int × Int
  | .error c => ([], c)
  | .ok us => (us, 0)
theorem behind_is (size : Int) (l : List S140) : ∃ k, quicksetref_spaceAgain.f k size l = some (tellE (sp_behind size l)) := by
  by_cases hs : 1 ≤ size ∧ size ≤ 4096
  · by_cases hl : l.length > 4096
    · refine ⟨1, ?_⟩
      rw [quicksetref_spaceAgain.f, if_neg (by omega), decide_eq_false (by omega), quicksetref_spaceAgain.j0, if_neg (by decide), if_pos (by omega), sp_behind, if_pos hs, if_pos hl]
      rfl
    · obtain ⟨k, hk⟩ := again_is size hs.1 hs.2 l (by omega) l.length (List.replicate size.toNat 0) 0 (by omega) (by omega) (by simp)
      refine ⟨k + 1, ?_⟩
      rw [quicksetref_spaceAgain.f, if_neg (by omega), decide_eq_false (by omega), quicksetref_spaceAgain.j0, if_neg (by decide), if_neg (by omega), if_pos (by omega), if_pos (by omega), hk, sp_behind, if_pos hs, if_neg hl]
      cases sp_rep size l l.length (List.replicate size.toNat 0) 0 <;> rfl
  · refine ⟨1, ?_⟩
    rw [sp_behind, if_neg hs]
    unfold quicksetref_spaceAgain.f
    by_cases h1 : size < 1
    · rw [if_pos h1]; rfl
    · rw [if_neg h1, decide_eq_true (by omega)]; rfl
theorem sp_rep_length (size : Int) (l : List S140) : ∀ (n : Nat) (us vs : List Int) (i : Int), sp_rep size l n us i = some vs → vs.length = us.length
  | 0, us, vs, i, h => by rw [sp_rep] at h; exact congrArg List.length (Option.some.inj h).symm
  | n + 1, us, vs, i, h => by
    rw [sp_rep] at h
    generalize (if (rd_T140 l i).f0 = true then (1 : Int) else 0) = u_ at h
    generalize (if (rd_T140 l i).f0 = true then (0 : Int) else 1) = v_ at h
    split at h
    · cases h
    · split at h
      · cases h
      · split at h
        · cases h
        · split at h
          · rw [sp_rep_length size l n _ vs _ h, sp_set_length]
          · cases h
theorem behind_length {size : Int} {l : List S140} {us : List Int} (h : sp_behind size l = .ok us) : us.length ≤ 4096 := by
  unfold sp_behind at h
  split at h
  · rename_i hs
    split at h
    · cases h
    · split at h
      · cases h
      · rename_i vs hv
        cases h
        rw [sp_rep_length _ _ _ _ _ _ hv, List.length_replicate]
        omega
  · cases h
def outp (out : List S79) (fr i : Int) : List S79 := if fr < 0 then out else out ++ [⟨fr, i⟩]
theorem stretches_is (c : Int) (us : List Int) (hl : us.length ≤ 4096) : ∀ (n : Nat) (i fr : Int) (out : List S79), 0 ≤ i → i + n = (us.length : Int) → (fr < 0 → 0 < out.length → (rd_T79 out ((out.length : Int) - 1)).f1 < i) → (out.length : Int) ≤ i → (0 ≤ fr → (out.length : Int) < i) →
    ∃ k, quicksetref_spaceNow_stretches.l0 k c (outp out fr i) us (us.length : Int) i = some (sp_runs c us (n + 1) i fr out)
  | 0, i, fr, out, h0, h1, h2, h3, h4 => by
    refine ⟨1, ?_⟩
    rw [quicksetref_spaceNow_stretches.l0, if_neg (by omega), sp_runs, if_neg (by omega)]
    by_cases hf : fr ≥ 0
    · rw [if_pos hf, sp_runs, outp, if_neg (by omega)]
    · rw [if_neg hf, sp_runs, outp, if_pos (by omega)]
  | n + 1, i, fr, out, h0, h1, h2, h3, h4 => by
    have hi : i < (us.length : Int) := by omega
    rw [sp_runs]
    by_cases hc : rd us i = c
    · rw [if_pos ⟨hi, hc⟩]
      by_cases hf : fr < 0
      · rw [if_pos hf]
        obtain ⟨k, hk⟩ := stretches_is c us hl n (i + 1) i out (by omega) (by omega) (fun h => by omega) (by omega) (fun _ => by omega)
        rw [outp, if_neg (by omega)] at hk
        refine ⟨k + 1, ?_⟩
        rw [quicksetref_spaceNow_stretches.l0, if_pos hi, if_pos h0, if_pos hi, if_pos hc, outp, if_pos hf]
        by_cases hp : 0 < out.length
        · have hlast := h2 hf hp
          rw [if_pos (by omega), wrap_id (n := (out.length : Int) - 1) (by omega) (by omega), if_pos (by omega), if_pos (by omega), if_neg (by omega), if_pos (by omega), wrap_id (n := i + 1) (by omega) (by omega)]
          exact hk
        · rw [if_neg (by omega), if_pos (by omega), wrap_id (n := i + 1) (by omega) (by omega)]
          exact hk
      · rw [if_neg hf]
        obtain ⟨k, hk⟩ := stretches_is c us hl n (i + 1) fr out (by omega) (by omega) (fun h => absurd h hf) (by omega) (fun _ => by omega)
        rw [outp, if_neg hf] at hk
        refine ⟨k + 1, ?_⟩
        have e1 : rd_T79 (out ++ [(⟨fr, i⟩ : S79)]) (out.length : Int) = ⟨fr, i⟩ := by simp [rd_T79]
        have e2 : (out ++ [(⟨fr, i⟩ : S79)]).set out.length ⟨fr, i + 1⟩ = out ++ [⟨fr, i + 1⟩] := by simp
        have e3 : (((out ++ [(⟨fr, i⟩ : S79)]).length : Nat) : Int) = (out.length : Int) + 1 := by simp
        rw [quicksetref_spaceNow_stretches.l0, if_pos hi, if_pos h0, if_pos hi, if_pos hc, outp, if_neg hf, e3, if_pos (by omega), show (out.length : Int) + 1 - 1 = (out.length : Int) from by omega, wrap_id (n := (out.length : Int)) (by omega) (by omega), if_pos (by omega), if_pos (by omega), e1, if_pos rfl,
          wrap_id (n := i + 1) (by omega) (by omega), Int.toNat_natCast, e2]
        exact hk
    · rw [if_neg (fun h => hc h.2)]
      by_cases hf : fr ≥ 0
      · rw [if_pos hf]
        obtain ⟨k, hk⟩ := stretches_is c us hl n (i + 1) (-1) (out ++ [⟨fr, i⟩]) (by omega) (by omega) (fun _ _ => by
          have e3 : (((out ++ [(⟨fr, i⟩ : S79)]).length : Nat) : Int) = (out.length : Int) + 1 := by simp
          have e1 : rd_T79 (out ++ [(⟨fr, i⟩ : S79)]) (out.length : Int) = ⟨fr, i⟩ := by simp [rd_T79]
          rw [e3, show (out.length : Int) + 1 - 1 = (out.length : Int) from by omega, e1]
          show i < i + 1
          omega) (by have := h4 hf; rw [List.length_append]; simp; omega) (fun h => by omega)
        rw [outp, if_pos (by omega)] at hk
        refine ⟨k + 1, ?_⟩
        rw [quicksetref_spaceNow_stretches.l0, if_pos hi, if_pos h0, if_pos hi, if_neg hc, outp, if_neg (by omega), wrap_id (n := i + 1) (by omega) (by omega)]
        exact hk
      · rw [if_neg hf]
        obtain ⟨k, hk⟩ := stretches_is c us hl n (i + 1) fr out (by omega) (by omega) (fun h h' => by have := h2 h h'; omega) (by omega) (fun h => absurd h hf)
        rw [outp, if_pos (by omega)] at hk
        refine ⟨k + 1, ?_⟩
        rw [quicksetref_spaceNow_stretches.l0, if_pos hi, if_pos h0, if_pos hi, if_neg hc, outp, if_pos (by omega), wrap_id (n := i + 1) (by omega) (by omega)]
        exact hk
theorem runs_is (c : Int) (us : List Int) (hl : us.length ≤ 4096) : ∃ k, quicksetref_spaceNow_stretches.f k us c = some (sp_runs c us (us.length + 1) 0 (-1) []) := by
  obtain ⟨k, hk⟩ := stretches_is c us hl us.length 0 (-1) [] (by omega) (by omega) (fun _ h => absurd h (Nat.lt_irrefl 0)) (by simp) (fun h => by omega)
  rw [outp, if_pos (by omega)] at hk
  exact ⟨k, by rw [quicksetref_spaceNow_stretches.f]; exact hk⟩
theorem sp_runs_length (c : Int) (us : List Int) : ∀ (n : Nat) (i fr : Int) (out : List S79), (sp_runs c us n i fr out).length ≤ out.length + n
  | 0, i, fr, out => by rw [sp_runs]; omega
  | n + 1, i, fr, out => by
    rw [sp_runs]
    split
    · split
      · have := sp_runs_length c us n (i + 1) i out; omega
      · have := sp_runs_length c us n (i + 1) fr out; omega
    · split
      · have := sp_runs_length c us n (i + 1) (-1) (out ++ [⟨fr, i⟩]); simp at this; omega
      · have := sp_runs_length c us n (i + 1) fr out; omega

theorem same_is (l : List S140) (hl : l.length ≤ 5000) : ∀ (n : Nat) (i : Int), 0 ≤ i → i + n = (l.length : Int) → ∃ k, quicksetlaw_sameRecords.l0 k l l i = some true
  | 0, i, h0, h1 => ⟨1, by rw [quicksetlaw_sameRecords.l0, if_neg (by omega)]⟩
  | n + 1, i, h0, h1 => by
    obtain ⟨k, hk⟩ := same_is l hl n (i + 1) (by omega) (by omega)
    refine ⟨k + 1, ?_⟩
    rw [quicksetlaw_sameRecords.l0, if_pos (by omega), if_pos h0, if_pos (by omega), if_neg (by simp), wrap_id (by omega) (by omega)]
    exact hk
theorem recs_is (l : List S79) (hl : l.length ≤ 5000) : ∀ (n : Nat) (i : Int) (out : List S140), 0 ≤ i → i + n = (l.length : Int) → (out.length : Int) = i → out ++ (l.drop i.toNat).map sp_rec = l.map sp_rec → ∃ k, quicksetref_SpaceCondensed.l0 k out l (l.length : Int) i = some (l.map sp_rec, 0)
  | 0, i, out, h0, h1, h2, h3 => by
    refine ⟨1, ?_⟩
    rw [quicksetref_SpaceCondensed.l0, if_neg (by omega)]
    rw [List.drop_eq_nil_of_le (by omega)] at h3
    simp at h3
    rw [h3]
  | n + 1, i, out, h0, h1, h2, h3 => by
    have e1 : rd_T79 l i = l[i.toNat]'(by omega) := by
      show l.getD i.toNat z79 = _
      rw [List.getD_eq_getElem?_getD, List.getElem?_eq_getElem (by omega)]
      rfl
    rw [List.drop_eq_getElem_cons (show i.toNat < l.length by omega), List.map_cons, ← e1, show i.toNat + 1 = (i + 1).toNat from by omega] at h3
    obtain ⟨k, hk⟩ := recs_is l hl n (i + 1) (out ++ [sp_rec (rd_T79 l i)]) (by omega) (by omega) (by rw [List.length_append]; simp; omega) (by rw [List.append_assoc]; exact h3)
    refine ⟨k + 1, ?_⟩
    rw [quicksetref_SpaceCondensed.l0, if_pos (by omega), if_pos h0, if_pos (by omega), if_pos (by omega), wrap_id (by omega) (by omega)]
    exact hk
theorem finish (a0 : Int) (l1 : List S140) (l : List S140) (e : Int) (hl : l.length ≤ 5000) (hp : ∀ k, space_Condense.f k a0 l1 = some (l, e)) (hr : ∃ k, quicksetref_SpaceCondensed.f k a0 l1 = some (l, e)) : ∃ k, quicksetlaw_SpaceCondenses.f k a0 l1 = some true := by
  obtain ⟨k1, h1⟩ := hr
  obtain ⟨k2, h2⟩ := same_is l hl l.length 0 (by omega) (by omega)
  refine ⟨max k1 k2, ?_⟩
  have g1 := at_rounds (fun k => quicksetref_SpaceCondensed.mono a0 l1 k) (show k1 ≤ max k1 k2 by omega) h1
  have g2 := at_rounds (fun k => quicksetlaw_sameRecords.mono_l k l l 0) (show k2 ≤ max k1 k2 by omega) h2
  unfold quicksetlaw_SpaceCondenses.f quicksetlaw_sameRecords.f
  rw [hp, g1]
  simp only [Option.bind_some]
  rw [if_pos trivial, g2]
  simp
theorem SpaceCondenses (a0 : Int) (w0 : (Lit.int .i64 a0).wf = true) (l1 : List S140) (h1 : l1.length * 24 ≤ 140737488351232) (h2 : ∀ x ∈ l1, (True ∧ ((Lit.int .i64 x.f1.f0).wf = true ∧ (Lit.int .i64 x.f1.f1).wf = true))) : ∃ k, quicksetlaw_SpaceCondenses.f k a0 l1 = some true := by
  obtain ⟨k1, hk1⟩ := behind_is a0 l1
  cases hb : sp_behind a0 l1 with
  | error c =>
    refine finish a0 l1 [] c (by simp) (fun k => by unfold space_Condense.f; rw [hb]) ⟨k1, ?_⟩
    rw [quicksetref_SpaceCondensed.f, hk1, hb]
    simp only [tellE, Option.bind_some]
    rw [if_neg (sp_behind_ne hb)]
  | ok us =>
    have hl := behind_length hb
    obtain ⟨k2, hk2⟩ := runs_is 1 us hl
    have hlen := sp_runs_length 1 us (us.length + 1) 0 (-1) []
    simp only [List.length_nil] at hlen
    obtain ⟨k3, hk3⟩ := recs_is (sp_runs 1 us (us.length + 1) 0 (-1) []) (by omega) (sp_runs 1 us (us.length + 1) 0 (-1) []).length 0 [] (by omega) (by omega) (by simp) (by simp)
    have g1 := at_rounds (fun k => quicksetref_spaceAgain.mono a0 l1 k) (show k1 ≤ max k1 (max k2 k3) by omega) hk1
    have g2 := at_rounds (fun k => quicksetref_spaceNow_stretches.mono us 1 k) (show k2 ≤ max k1 (max k2 k3) by omega) hk2
    have g3 := at_rounds (fun k => quicksetref_SpaceCondensed.mono_l k [] (sp_runs 1 us (us.length + 1) 0 (-1) []) ((sp_runs 1 us (us.length + 1) 0 (-1) []).length : Int) 0) (show k3 ≤ max k1 (max k2 k3) by omega) hk3
    rw [hb] at g1
    refine finish a0 l1 ((sp_runs 1 us (us.length + 1) 0 (-1) []).map sp_rec) 0 (by rw [List.length_map]; omega) (fun k => by unfold space_Condense.f; rw [hb]) ⟨max k1 (max k2 k3), ?_⟩
    rw [quicksetref_SpaceCondensed.f, g1]
    simp only [tellE, Option.bind_some]
    rw [if_pos trivial, g2]
    simp only [Option.bind_some]
    exact g3

end Go.Proofs.Ythnchojddoefiaa.Pure
