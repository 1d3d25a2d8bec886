/- SpacePlays: the two answers are one, over plain numbers and lists, for every argument; no conditions. -/
import Derived.Test.YthnchojddoefiaaQSpacePlaysx4
set_option linter.unusedVariables false
set_option linter.unusedSimpArgs false
namespace Go.Proofs.Ythnchojddoefiaa.Pure
open Go.RowKit Go.Proofs.Ythnchojddoefiaa Go.Proofs.Ythnchojddoefiaa.QSpacePlays Go.Proofs.YthnchojddoefiaaW.PrintWords Go.Proofs.YthnchojddoefiaaW.PrintLast Go.Proofs.YthnchojddoefiaaW.PrintMore

theorem rd_set {l : List Int} {i k v : Int} (hi0 : 0 ≤ i) (hi : i < (l.length : Int)) (hk0 : 0 ≤ k) : rd (l.set i.toNat v) k = if k = i then v else rd l k := by
  unfold rd
  rw [List.getD_eq_getElem?_getD, List.getD_eq_getElem?_getD, List.getElem?_set]
  by_cases h : k = i
  · subst h
    rw [if_pos rfl, if_pos rfl, if_pos (by omega)]; rfl
  · rw [if_neg (by omega), if_neg h]
theorem rd_sp_set (c : Int) : ∀ (n : Nat) (us : List Int) (i k : Int), 0 ≤ i → i + n ≤ (us.length : Int) → 0 ≤ k → rd (sp_set c n us i) k = if i ≤ k ∧ k < i + n then c else rd us k
  | 0, us, i, k, _, _, _ => by rw [sp_set, if_neg (by omega)]
  | n + 1, us, i, k, h0, h1, hk => by
    rw [sp_set, rd_sp_set c n _ (i + 1) k (by omega) (by rw [List.length_set]; omega) hk, rd_set h0 (by omega) hk]
    by_cases h : k = i
    · rw [if_neg (by omega), if_pos h, if_pos (by omega)]
    · by_cases h2 : i + 1 ≤ k ∧ k < i + 1 + n
      · rw [if_pos h2, if_pos (by omega)]
      · rw [if_neg h2, if_neg h, if_neg (by omega)]
theorem zc_set : ∀ (us : List Int) (i : Nat) (v : Int), i < us.length → zc (us.set i v) = zc us - (if rd us i = 0 then 1 else 0) + (if v = 0 then 1 else 0)
  | [], i, v, h => by simp at h
  | u :: us, 0, v, h => by
    rw [List.set_cons_zero, zc, zc]
    show _ = _ - (if u = 0 then 1 else 0) + _
    omega
  | u :: us, i + 1, v, h => by
    rw [List.set_cons_succ, zc, zc, zc_set us i v (by simpa using h)]
    have e : rd (u :: us) ((i + 1 : Nat) : Int) = rd us i := by unfold rd; rw [Int.toNat_natCast, Int.toNat_natCast]; rfl
    rw [e]
    omega
theorem zc_sp_set (c d : Int) : ∀ (n : Nat) (us : List Int) (i : Int), 0 ≤ i → i + n ≤ (us.length : Int) → (∀ k, i ≤ k → k < i + n → rd us k = d) → zc (sp_set c n us i) = zc us + n * ((if c = 0 then 1 else 0) - (if d = 0 then 1 else 0))
  | 0, us, i, _, _, _ => by rw [sp_set]; simp
  | n + 1, us, i, h0, h1, hd => by
    rw [sp_set, zc_sp_set c d n _ (i + 1) (by omega) (by rw [List.length_set]; omega) (fun k hk1 hk2 => by rw [rd_set h0 (by omega) (by omega), if_neg (by omega)]; exact hd k (by omega) (by omega)), zc_set us i.toNat c (by omega), show ((i.toNat : Nat) : Int) = i from by omega, hd i (by omega) (by omega)]
    generalize (if c = 0 then (1 : Int) else 0) = p
    generalize (if d = 0 then (1 : Int) else 0) = q
    rw [show ((n + 1 : Nat) : Int) = (n : Int) + 1 from rfl, Int.add_mul, Int.one_mul]
    omega
theorem sp_runs_acc (c : Int) (us : List Int) : ∀ (n : Nat) (i fr : Int) (out : List S79), sp_runs c us n i fr out = out ++ sp_runs c us n i fr []
  | 0, i, fr, out => by rw [sp_runs, sp_runs, List.append_nil]
  | n + 1, i, fr, out => by
    rw [sp_runs, sp_runs]
    split
    · split
      · exact sp_runs_acc c us n _ _ out
      · exact sp_runs_acc c us n _ _ out
    · split
      · rw [sp_runs_acc c us n _ _ (out ++ [(⟨fr, i⟩ : S79)]), sp_runs_acc c us n _ _ ([] ++ [(⟨fr, i⟩ : S79)]), List.append_assoc]; rfl
      · exact sp_runs_acc c us n _ _ out
theorem runs_head (c : Int) (us : List Int) : ∀ (n : Nat) (j fr : Int), 0 ≤ fr → 0 ≤ j → j + (n + 1) = (us.length : Int) + 1 → ∃ e rest, sp_runs c us (n + 1) j fr [] = ⟨fr, e⟩ :: rest ∧ j ≤ e
  | 0, j, fr, h0, hj, h1 => ⟨j, [], by rw [sp_runs, if_neg (by omega), if_pos h0, sp_runs]; rfl, by omega⟩
  | n + 1, j, fr, h0, hj, h1 => by
    rw [sp_runs]
    by_cases hu : j < (us.length : Int) ∧ rd us j = c
    · rw [if_pos hu, if_neg (show ¬ fr < 0 by omega)]
      obtain ⟨e, rest, h2, h3⟩ := runs_head c us n (j + 1) fr h0 (by omega) (by omega)
      exact ⟨e, rest, h2, by omega⟩
    · rw [if_neg hu, if_pos (show fr ≥ 0 from h0), sp_runs_acc]
      exact ⟨j, _, rfl, by omega⟩
theorem scan_first (us : List Int) (c : Int) (hc : 1 ≤ c) : ∀ (n : Nat) (i row fr : Int), 0 ≤ i → i + n = (us.length : Int) → 0 ≤ row → row < c → row ≤ i → fr = (if row = 0 then -1 else i - row) →
    sp_scan us c n i row = (rf_first c (sp_runs 0 us (n + 1) i fr [])).map (fun r => r.f0 + c - 1)
  | 0, i, row, fr, h0, h1, h2, h3, h4, h5 => by
    rw [sp_scan, sp_runs, if_neg (by omega)]
    by_cases hr : row = 0
    · rw [if_pos hr] at h5
      rw [if_neg (by omega), sp_runs]; rfl
    · rw [if_neg hr] at h5
      rw [if_pos (by omega), sp_runs]
      show none = Option.map _ (rf_first c [⟨fr, i⟩])
      rw [rf_first, if_neg (show ¬ i - fr ≥ c by omega)]; rfl
  | n + 1, i, row, fr, h0, h1, h2, h3, h4, h5 => by
    rw [sp_scan, sp_runs]
    by_cases hu : rd us i = 0
    · rw [if_pos hu, if_pos (show i < (us.length : Int) ∧ rd us i = 0 from ⟨by omega, hu⟩)]
      have hf : (if fr < 0 then sp_runs 0 us (n + 1) (i + 1) i [] else sp_runs 0 us (n + 1) (i + 1) fr []) = sp_runs 0 us (n + 1) (i + 1) (i - row) [] := by
        by_cases hr : row = 0
        · rw [if_pos hr] at h5
          rw [if_pos (by omega), show i - row = i from by omega]
        · rw [if_neg hr] at h5
          rw [if_neg (by omega), h5]
      rw [hf]
      by_cases hcc : row + 1 = c
      · rw [if_pos hcc]
        obtain ⟨e, rest, h6, h7⟩ := runs_head 0 us n (i + 1) (i - row) (by omega) (by omega) (by omega)
        rw [h6, rf_first, if_pos (show e - (i - row) ≥ c by omega)]
        show some i = some (i - row + c - 1)
        congr 1
        omega
      · rw [if_neg hcc]
        exact scan_first us c hc n (i + 1) (row + 1) (i - row) (by omega) (by omega) (by omega) (by omega) (by omega) (by rw [if_neg (by omega)]; omega)
    · rw [if_neg hu, if_neg (show ¬ (i < (us.length : Int) ∧ rd us i = 0) from fun h => hu h.2), if_neg (show ¬ (0 : Int) = c by omega), scan_first us c hc n (i + 1) 0 (-1) (by omega) (by omega) (by omega) (by omega) (by omega) rfl]
      by_cases hr : row = 0
      · rw [if_pos hr] at h5
        rw [if_neg (show ¬ fr ≥ 0 by omega), h5]
      · rw [if_neg hr] at h5
        rw [if_pos (show fr ≥ 0 by omega), sp_runs_acc 0 us (n + 1) (i + 1) (-1) ([] ++ [(⟨fr, i⟩ : S79)])]
        show _ = Option.map _ (rf_first c ((⟨fr, i⟩ : S79) :: _))
        rw [rf_first, if_neg (show ¬ i - fr ≥ c by omega)]
        rfl
theorem scan_zero (us : List Int) (c : Int) : ∀ (n : Nat) (i row j : Int), 0 ≤ i → i + n = (us.length : Int) → 0 ≤ row → row ≤ i → (∀ k, i - row ≤ k → k < i → rd us k = 0) → sp_scan us c n i row = some j → j < (us.length : Int) ∧ 0 ≤ j + 1 - c ∧ i ≤ j ∧ ∀ k, j + 1 - c ≤ k → k ≤ j → rd us k = 0
  | 0, i, row, j, _, _, _, _, _, h => by rw [sp_scan] at h; cases h
  | n + 1, i, row, j, h0, h1, h2, h3, hz, h => by
    rw [sp_scan] at h
    by_cases hu : rd us i = 0
    · rw [if_pos hu] at h
      by_cases hcc : row + 1 = c
      · rw [if_pos hcc] at h
        have e := Option.some.inj h
        subst e
        refine ⟨by omega, by omega, by omega, fun k hk1 hk2 => ?_⟩
        by_cases hki : k = i
        · rw [hki]; exact hu
        · exact hz k (by omega) (by omega)
      · rw [if_neg hcc] at h
        have := scan_zero us c n (i + 1) (row + 1) j (by omega) (by omega) (by omega) (by omega) (fun k hk1 hk2 => by
          by_cases hki : k = i
          · rw [hki]; exact hu
          · exact hz k (by omega) (by omega)) h
        exact ⟨this.1, this.2.1, by omega, this.2.2.2⟩
    · rw [if_neg hu] at h
      by_cases hcc : (0 : Int) = c
      · rw [if_pos hcc] at h
        have e := Option.some.inj h
        subst e
        exact ⟨by omega, by omega, by omega, fun k hk1 hk2 => by omega⟩
      · rw [if_neg hcc] at h
        have := scan_zero us c n (i + 1) 0 j (by omega) (by omega) (by omega) (by omega) (fun k hk1 hk2 => by omega) h
        exact ⟨this.1, this.2.1, by omega, this.2.2.2⟩
theorem all_at (c : Int) (us : List Int) : ∀ (n : Nat) (i : Int), sp_all c us n i = true → ∀ k, i ≤ k → k < i + n → rd us k = c
  | 0, i, _, k, h1, h2 => by omega
  | n + 1, i, h, k, h1, h2 => by
    rw [sp_all] at h
    by_cases hu : rd us i = c
    · rw [if_pos hu] at h
      by_cases hk : k = i
      · rw [hk]; exact hu
      · exact all_at c us n (i + 1) h k (by omega) (by omega)
    · rw [if_neg hu] at h; cases h
def c3 : List Int → Int
  | [] => 0
  | u :: us => (if u = 3 then 1 else 0) + c3 us
theorem free_is (us : List Int) : ∀ (n : Nat) (i fr : Int) (vs : List Int) (left : Int) (log : List S140), 0 ≤ i → i + n = (us.length : Int) → fr < i → -1 ≤ fr → vs.length = us.length →
    (∀ k, 0 ≤ k → k < (us.length : Int) → rd (sp_free (sp_runs 3 us (n + 1) i fr []) vs left log).1 k = if (0 ≤ fr ∧ fr ≤ k ∧ k < i) ∨ (i ≤ k ∧ rd us k = 3) then 0 else rd vs k) ∧
    (sp_free (sp_runs 3 us (n + 1) i fr []) vs left log).1.length = us.length ∧
    (sp_free (sp_runs 3 us (n + 1) i fr []) vs left log).2.1 = left + (if 0 ≤ fr then i - fr else 0) + c3 (us.drop i.toNat) ∧
    (sp_free (sp_runs 3 us (n + 1) i fr []) vs left log).2.2 = log ++ (sp_runs 3 us (n + 1) i fr []).map (fun r => (⟨true, r⟩ : S140))
  | 0, i, fr, vs, left, log, h0, h1, h2, h3, h4 => by
    rw [sp_runs, if_neg (by omega), List.drop_eq_nil_of_le (by omega), c3]
    by_cases hf : 0 ≤ fr
    · rw [if_pos hf, if_pos hf, sp_runs]
      show (∀ k, 0 ≤ k → k < _ → rd (sp_free [⟨fr, i⟩] vs left log).1 k = _) ∧ (sp_free [⟨fr, i⟩] vs left log).1.length = _ ∧ (sp_free [⟨fr, i⟩] vs left log).2.1 = _ ∧ (sp_free [⟨fr, i⟩] vs left log).2.2 = _
      rw [sp_free, sp_free]
      refine ⟨fun k hk0 hk1 => ?_, by show (sp_set _ _ _ _).length = _; rw [sp_set_length]; exact h4, by show left + (i - fr) = _; omega, rfl⟩
      show rd (sp_set 0 (i - fr).toNat vs fr) k = _
      rw [rd_sp_set 0 _ vs fr k hf (by omega) hk0]
      by_cases hk : fr ≤ k ∧ k < i
      · rw [if_pos (by omega), if_pos (.inl ⟨hf, hk⟩)]
      · rw [if_neg (by omega), if_neg (by omega)]
    · rw [if_neg hf, if_neg hf, sp_runs, sp_free]
      exact ⟨fun k hk0 hk1 => by rw [if_neg (by omega)], h4, by show left = _; omega, by simp⟩
  | n + 1, i, fr, vs, left, log, h0, h1, h2, h3, h4 => by
    obtain ⟨e1, _⟩ := rd_drop (0 : Int) us i h0 (by omega)
    have e1 : us.drop i.toNat = rd us i :: us.drop (i + 1).toNat := e1
    rw [sp_runs, e1, c3]
    by_cases hu : rd us i = 3
    · rw [if_pos (show i < (us.length : Int) ∧ rd us i = 3 from ⟨by omega, hu⟩), if_pos hu]
      by_cases hf : fr < 0
      · rw [if_pos hf]
        obtain ⟨g1, g2, g3, g4⟩ := free_is us n (i + 1) i vs left log (by omega) (by omega) (by omega) (by omega) h4
        refine ⟨fun k hk0 hk1 => ?_, g2, by rw [g3, if_pos h0, if_neg (by omega)]; omega, g4⟩
        rw [g1 k hk0 hk1]
        by_cases hk : k = i
        · subst hk
          rw [if_pos (.inl ⟨h0, by omega, by omega⟩), if_pos (.inr ⟨by omega, hu⟩)]
        · by_cases hk2 : i + 1 ≤ k ∧ rd us k = 3
          · rw [if_pos (.inr hk2), if_pos (.inr ⟨by omega, hk2.2⟩)]
          · rw [if_neg (by rintro (h | h); omega; exact hk2 h), if_neg (by rintro (h | h); omega; exact hk2 ⟨by omega, h.2⟩)]
      · rw [if_neg hf]
        obtain ⟨g1, g2, g3, g4⟩ := free_is us n (i + 1) fr vs left log (by omega) (by omega) (by omega) (by omega) h4
        refine ⟨fun k hk0 hk1 => ?_, g2, by rw [g3, if_pos (by omega), if_pos (by omega)]; omega, g4⟩
        rw [g1 k hk0 hk1]
        by_cases hk : k = i
        · subst hk
          rw [if_pos (.inl ⟨by omega, by omega, by omega⟩), if_pos (.inr ⟨by omega, hu⟩)]
        · by_cases hk2 : i + 1 ≤ k ∧ rd us k = 3
          · rw [if_pos (.inr hk2), if_pos (.inr ⟨by omega, hk2.2⟩)]
          · by_cases hk3 : fr ≤ k ∧ k < i
            · rw [if_pos (.inl ⟨by omega, hk3.1, by omega⟩), if_pos (.inl ⟨by omega, hk3⟩)]
            · rw [if_neg (by rintro (h | h); omega; exact hk2 h), if_neg (by rintro (h | h); omega; exact hk2 ⟨by omega, h.2⟩)]
    · rw [if_neg (show ¬ (i < (us.length : Int) ∧ rd us i = 3) from fun h => hu h.2), if_neg hu]
      by_cases hf : fr ≥ 0
      · rw [if_pos hf, sp_runs_acc 3 us (n + 1) (i + 1) (-1) ([] ++ [(⟨fr, i⟩ : S79)])]
        obtain ⟨g1, g2, g3, g4⟩ := free_is us n (i + 1) (-1) (sp_set 0 (i - fr).toNat vs fr) (left + (i - fr)) (log ++ [⟨true, ⟨fr, i⟩⟩]) (by omega) (by omega) (by omega) (by omega) (by rw [sp_set_length]; exact h4)
        generalize sp_runs 3 us (n + 1) (i + 1) (-1) [] = l at g1 g2 g3 g4
        show (∀ k, 0 ≤ k → k < _ → rd (sp_free (⟨fr, i⟩ :: l) vs left log).1 k = _) ∧ (sp_free (⟨fr, i⟩ :: l) vs left log).1.length = _ ∧ (sp_free (⟨fr, i⟩ :: l) vs left log).2.1 = _ ∧ (sp_free (⟨fr, i⟩ :: l) vs left log).2.2 = log ++ List.map _ (⟨fr, i⟩ :: l)
        rw [sp_free]
        refine ⟨fun k hk0 hk1 => ?_, g2, by rw [g3, if_neg (by omega), if_pos hf]; show left + (i - fr) + 0 + _ = _; omega, by rw [g4, List.map_cons, List.append_assoc]; rfl⟩
        rw [g1 k hk0 hk1]
        by_cases hk2 : i + 1 ≤ k ∧ rd us k = 3
        · rw [if_pos (.inr hk2), if_pos (.inr ⟨by omega, hk2.2⟩)]
        · rw [if_neg (by rintro (h | h); omega; exact hk2 h)]
          show rd (sp_set 0 (i - fr).toNat vs fr) k = _
          rw [rd_sp_set 0 _ vs fr k hf (by omega) hk0]
          by_cases hk3 : fr ≤ k ∧ k < i
          · rw [if_pos (by omega), if_pos (.inl ⟨hf, hk3⟩)]
          · rw [if_neg (by omega), if_neg (by
              rintro (h | h)
              · omega
              · by_cases hki : k = i
                · exact hu (hki ▸ h.2)
                · exact hk2 ⟨by omega, h.2⟩)]
      · rw [if_neg hf]
        obtain ⟨g1, g2, g3, g4⟩ := free_is us n (i + 1) fr vs left log (by omega) (by omega) (by omega) (by omega) h4
        refine ⟨fun k hk0 hk1 => ?_, g2, by rw [g3, if_neg (by omega), if_neg (by omega)]; omega, g4⟩
        rw [g1 k hk0 hk1]
        by_cases hk2 : i + 1 ≤ k ∧ rd us k = 3
        · rw [if_pos (.inr hk2), if_pos (.inr ⟨by omega, hk2.2⟩)]
        · rw [if_neg (by rintro (h | h); omega; exact hk2 h), if_neg (by
              rintro (h | h)
              · omega
              · by_cases hki : k = i
                · exact hu (hki ▸ h.2)
                · exact hk2 ⟨by omega, h.2⟩)]
theorem ext_rd {a b : List Int} (hl : a.length = b.length) (h : ∀ k : Int, 0 ≤ k → k < (b.length : Int) → rd a k = rd b k) : a = b := by
  apply List.ext_getElem hl
  intro i h1 h2
  have := h i (by omega) (by omega)
  unfold rd at this
  rw [Int.toNat_natCast, List.getD_eq_getElem?_getD, List.getD_eq_getElem?_getD, List.getElem?_eq_getElem h1, List.getElem?_eq_getElem h2] at this
  exact this
theorem rd_map (f : Int → Int) (us : List Int) (k : Int) (h0 : 0 ≤ k) (h1 : k < (us.length : Int)) : rd (us.map f) k = f (rd us k) := by
  unfold rd
  rw [List.getD_eq_getElem?_getD, List.getD_eq_getElem?_getD, List.getElem?_map, List.getElem?_eq_getElem (by omega)]
  rfl
theorem rd_mem (us : List Int) (k : Int) (h0 : 0 ≤ k) (h1 : k < (us.length : Int)) : rd us k ∈ us := (rd_drop (0 : Int) us k h0 h1).2
theorem zc_turn : ∀ us : List Int, okU us → zc (us.map rf_turn) = zc us + c3 us
  | [], _ => rfl
  | u :: us, h => by
    rw [List.map_cons, zc, zc, c3, zc_turn us (fun v hv => h v (List.mem_cons_of_mem _ hv))]
    have hu := h u List.mem_cons_self
    obtain rfl | rfl | rfl | rfl : u = 0 ∨ u = 1 ∨ u = 2 ∨ u = 3 := by omega
    · rw [if_pos (show rf_turn 0 = 0 by decide), if_pos rfl, if_neg (by omega)]; omega
    · rw [if_neg (show ¬ rf_turn 1 = 0 by decide), if_neg (by omega), if_neg (by omega)]; omega
    · rw [if_neg (show ¬ rf_turn 2 = 0 by decide), if_neg (by omega), if_neg (by omega)]; omega
    · rw [if_pos (show rf_turn 3 = 0 by decide), if_neg (by omega), if_pos rfl]; omega
/-- One deed: both do the same. -/
theorem do_is (us : List Int) (log : List S140) (d : S145) (ho : okU us) (hp : 0 < us.length) (hm : us.length ≤ 4096) :
    (sp_do us (zc us) log d).found.f0 = (rf_do us.length us log d).code ∧ (sp_do us (zc us) log d).found.f1 = (rf_do us.length us log d).fr ∧ (sp_do us (zc us) log d).us = (rf_do us.length us log d).us ∧ (sp_do us (zc us) log d).log = (rf_do us.length us log d).log ∧ (sp_do us (zc us) log d).left = zc (rf_do us.length us log d).us := by
  unfold sp_do rf_do
  by_cases k1 : d.f0 = 1
  · rw [if_pos k1, if_pos k1]
    unfold sp_take rf_take
    by_cases hc : d.f2 < 1 ∨ d.f2 > (us.length : Int)
    · rw [if_pos hc, if_pos hc]; exact ⟨rfl, rfl, rfl, rfl, rfl⟩
    · rw [if_neg hc, if_neg hc]
      have h1 := scan_first us d.f2 (by omega) us.length 0 0 (-1) (by omega) (by omega) (by omega) (by omega) (by omega) rfl
      cases hf : rf_first d.f2 (sp_runs 0 us (us.length + 1) 0 (-1) []) with
      | none =>
        rw [hf] at h1
        have h1 : sp_scan us d.f2 us.length 0 0 = none := h1
        rw [h1]
        exact ⟨rfl, rfl, rfl, rfl, rfl⟩
      | some r =>
        rw [hf] at h1
        have h1 : sp_scan us d.f2 us.length 0 0 = some (r.f0 + d.f2 - 1) := h1
        obtain ⟨z1, z2, z3, z4⟩ := scan_zero us d.f2 us.length 0 0 _ (by omega) (by omega) (by omega) (by omega) (fun k hk1 hk2 => by omega) h1
        rw [h1]
        have e : r.f0 + d.f2 - 1 + 1 - d.f2 = r.f0 := by omega
        refine ⟨rfl, e, ?_, ?_, ?_⟩
        · show sp_set 1 d.f2.toNat us (r.f0 + d.f2 - 1 + 1 - d.f2) = _
          rw [e]
        · show log ++ [⟨false, ⟨r.f0 + d.f2 - 1 + 1 - d.f2, r.f0 + d.f2 - 1 + 1⟩⟩] = _
          rw [e, show r.f0 + d.f2 - 1 + 1 = r.f0 + d.f2 from by omega]
        · show zc us - d.f2 = zc (sp_set 1 d.f2.toNat us r.f0)
          rw [zc_sp_set 1 0 d.f2.toNat us r.f0 (by omega) (by omega) (fun k hk1 hk2 => z4 k (by omega) (by omega))]
          rw [if_neg (by omega), if_pos rfl]
          omega
  · rw [if_neg k1, if_neg k1]
    by_cases k2 : d.f0 = 2
    · rw [if_pos k2, if_pos k2]
      unfold sp_give rf_give
      by_cases hc : d.f1 < 0 ∨ d.f1 ≥ (us.length : Int) ∨ d.f2 < 1 ∨ d.f2 > (us.length : Int) - d.f1
      · rw [if_pos (by omega), if_pos hc]; exact ⟨rfl, rfl, rfl, rfl, rfl⟩
      · rw [if_neg (by omega), if_neg hc]
        by_cases ha : sp_all 1 us d.f2.toNat d.f1 = true
        · rw [if_pos ha, if_pos ha]
          refine ⟨rfl, rfl, rfl, rfl, ?_⟩
          show zc us = zc (sp_set 2 d.f2.toNat us d.f1)
          rw [zc_sp_set 2 1 d.f2.toNat us d.f1 (by omega) (by omega) (fun k hk1 hk2 => all_at 1 us _ _ ha k hk1 hk2), if_neg (by omega), if_neg (by omega)]
          omega
        · rw [if_neg ha, if_neg ha]; exact ⟨rfl, rfl, rfl, rfl, rfl⟩
    · rw [if_neg k2, if_neg k2]
      by_cases k3 : d.f0 = 3
      · rw [if_pos k3, if_pos k3]
        obtain ⟨g1, g2, g3, g4⟩ := free_is us us.length 0 (-1) us (zc us) log (by omega) (by omega) (by omega) (by omega) rfl
        have hus : (sp_free (sp_runs 3 us (us.length + 1) 0 (-1) []) us (zc us) log).1.map (fun u => if u = 2 then 3 else u) = us.map rf_turn := by
          refine ext_rd (by rw [List.length_map, List.length_map, g2]) (fun k hk0 hk1 => ?_)
          rw [List.length_map] at hk1
          rw [rd_map _ _ k hk0 (by rw [g2]; exact hk1), rd_map _ us k hk0 hk1, g1 k hk0 hk1]
          have hu := ho _ (rd_mem us k hk0 hk1)
          generalize rd us k = u at hu
          have hx : (((0 : Int) ≤ -1 ∧ -1 ≤ k ∧ k < 0) ∨ (0 ≤ k ∧ u = 3)) = (u = 3) := by
            apply propext
            constructor
            · rintro (h | h)
              · omega
              · exact h.2
            · exact fun h => .inr ⟨hk0, h⟩
          simp only [hx]
          obtain rfl | rfl | rfl | rfl : u = 0 ∨ u = 1 ∨ u = 2 ∨ u = 3 := by omega
          all_goals decide
        unfold sp_commit rf_commit
        refine ⟨rfl, rfl, hus, g4, ?_⟩
        show (sp_free (sp_runs 3 us (us.length + 1) 0 (-1) []) us (zc us) log).2.1 = zc (us.map rf_turn)
        rw [g3, zc_turn us ho, if_neg (by omega)]
        show zc us + 0 + c3 (us.drop 0) = _
        rw [List.drop_zero]
        omega
      · rw [if_neg k3, if_neg k3]; exact ⟨rfl, rfl, rfl, rfl, rfl⟩
theorem play_is : ∀ (l : List S145) (us : List Int) (log : List S140) (out : List S147), okU us → 0 < us.length → us.length ≤ 4096 → sp_play l us (zc us) log out = rf_play us.length l us log out
  | [], us, log, out, _, _, _ => rfl
  | d :: l, us, log, out, ho, hp, hm => by
    obtain ⟨a, b, c, e, f⟩ := do_is us log d ho hp hm
    obtain ⟨x, y, z⟩ := rf_do_bd us.length us log d ho hm
    rw [sp_play, rf_play, a, b, c, e, f]
    have := play_is l (rf_do us.length us log d).us (rf_do us.length us log d).log (out ++ [⟨(rf_do us.length us log d).code, (rf_do us.length us log d).fr, zc (rf_do us.length us log d).us⟩]) x (by omega) (by omega)
    rw [y] at this
    exact this
theorem play_len (size : Int) : ∀ (l : List S145) (us : List Int) (log : List S140) (out : List S147), okU us → us.length ≤ 4096 → (rf_play size l us log out).1.length = out.length + l.length ∧ (rf_play size l us log out).2.length ≤ log.length + 4097 * l.length
  | [], us, log, out, _, _ => by rw [rf_play]; exact ⟨rfl, by show log.length ≤ _; simp⟩
  | d :: l, us, log, out, ho, hm => by
    obtain ⟨x, y, z⟩ := rf_do_bd size us log d ho hm
    rw [rf_play]
    have := play_len size l (rf_do size us log d).us (rf_do size us log d).log (out ++ [⟨(rf_do size us log d).code, (rf_do size us log d).fr, zc (rf_do size us log d).us⟩]) x (by omega)
    refine ⟨by rw [this.1]; simp; omega, by have h2 := this.2; rw [List.length_cons]; omega⟩
theorem zc_replicate : ∀ n : Nat, zc (List.replicate n 0) = n
  | 0 => rfl
  | n + 1 => by rw [List.replicate_succ, zc, zc_replicate n, if_pos rfl]; omega
theorem same_found (l : List S147) (hl : l.length ≤ 100000000) : ∀ (n : Nat) (i : Int), 0 ≤ i → i + n = (l.length : Int) → ∃ k, quicksetlaw_sameFounds.l0 k l l i = some true
  | 0, i, h0, h1 => ⟨1, by rw [quicksetlaw_sameFounds.l0, if_neg (by omega)]⟩
  | n + 1, i, h0, h1 => by
    obtain ⟨k, hk⟩ := same_found l hl n (i + 1) (by omega) (by omega)
    refine ⟨k + 1, ?_⟩
    rw [quicksetlaw_sameFounds.l0, if_pos (by omega), if_pos h0, if_pos (by omega), if_neg (by simp), wrap_id (by omega) (by omega)]
    exact hk
theorem same_rec (l : List S140) (hl : l.length ≤ 100000000) : ∀ (n : Nat) (i : Int), 0 ≤ i → i + n = (l.length : Int) → ∃ k, quicksetlaw_sameRecords.l0 k l l i = some true
  | 0, i, h0, h1 => ⟨1, by rw [quicksetlaw_sameRecords.l0, if_neg (by omega)]⟩
  | n + 1, i, h0, h1 => by
    obtain ⟨k, hk⟩ := same_rec l hl n (i + 1) (by omega) (by omega)
    refine ⟨k + 1, ?_⟩
    rw [quicksetlaw_sameRecords.l0, if_pos (by omega), if_pos h0, if_pos (by omega), if_neg (by simp), wrap_id (by omega) (by omega)]
    exact hk
theorem finish (a0 : Int) (l1 : List S145) (out : List S147) (log : List S140) (e : Int) (h1 : out.length ≤ 100000000) (h2 : log.length ≤ 100000000) (hp : ∀ k, space_Play.f k a0 l1 = some (out, log, e)) (hr : ∀ k, quicksetref_SpacePlayed.f k a0 l1 = some (out, log, e)) : ∃ k, quicksetlaw_SpacePlays.f k a0 l1 = some true := by
  obtain ⟨k1, g1⟩ := same_found out h1 out.length 0 (by omega) (by omega)
  obtain ⟨k2, g2⟩ := same_rec log h2 log.length 0 (by omega) (by omega)
  refine ⟨max k1 k2, ?_⟩
  have g1 := at_rounds (fun k => quicksetlaw_sameFounds.mono_l k out out 0) (show k1 ≤ max k1 k2 by omega) g1
  have g2 := at_rounds (fun k => quicksetlaw_sameRecords.mono_l k log log 0) (show k2 ≤ max k1 k2 by omega) g2
  unfold quicksetlaw_SpacePlays.f quicksetlaw_sameFounds.f quicksetlaw_sameRecords.f
  rw [hp, hr]
  simp only [Option.bind_some]
  rw [if_pos trivial, g1]
  simp only [Option.bind_some]
  rw [if_pos trivial, if_pos trivial, g2]
  simp
theorem SpacePlays (a0 : Int) (w0 : (Lit.int .i64 a0).wf = true) (l1 : List S145) (h1 : l1.length * 24 ≤ 140737488351232) (h2 : ∀ x ∈ l1, ((Lit.int .i64 x.f0).wf = true ∧ ((Lit.int .i64 x.f1).wf = true ∧ (Lit.int .i64 x.f2).wf = true))) : ∃ k, quicksetlaw_SpacePlays.f k a0 l1 = some true := by
  by_cases hs : a0 < 1 ∨ a0 > 4096
  · exact finish a0 l1 [] [] 2 (by simp) (by simp) (fun k => by unfold space_Play.f; rw [if_pos hs]) (fun k => by unfold quicksetref_SpacePlayed.f; rw [if_pos hs])
  · by_cases hl : (l1.length : Int) > 300
    · exact finish a0 l1 [] [] 1 (by simp) (by simp) (fun k => by unfold space_Play.f; rw [if_neg hs, if_pos hl]) (fun k => by unfold quicksetref_SpacePlayed.f; rw [if_neg hs, if_pos hl])
    · have ho : okU (List.replicate a0.toNat 0) := fun u hu => by rw [List.eq_of_mem_replicate hu]; omega
      have hlen : (List.replicate a0.toNat (0 : Int)).length = a0.toNat := List.length_replicate
      have e := play_is l1 (List.replicate a0.toNat 0) [] [] ho (by rw [hlen]; omega) (by rw [hlen]; omega)
      rw [zc_replicate, hlen, show ((a0.toNat : Nat) : Int) = a0 from by omega] at e
      obtain ⟨p, q⟩ := play_len a0 l1 (List.replicate a0.toNat 0) [] [] ho (by rw [hlen]; omega)
      simp only [List.length_nil] at p q
      exact finish a0 l1 (rf_play a0 l1 (List.replicate a0.toNat 0) [] []).1 (rf_play a0 l1 (List.replicate a0.toNat 0) [] []).2 0 (by omega) (by omega) (fun k => by unfold space_Play.f; rw [if_neg hs, if_neg hl, e]) (fun k => by unfold quicksetref_SpacePlayed.f; rw [if_neg hs, if_neg hl])

end Go.Proofs.Ythnchojddoefiaa.Pure
