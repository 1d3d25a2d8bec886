/- StripeLays: the two answers are one, over plain numbers and lists, for every argument; no conditions. -/
import Derived.Test.YtpaenlplpaabjaaPureGeo
import Derived.Test.YtpaenlplpaabjaaPurePar
set_option linter.unusedVariables false
set_option linter.unusedSimpArgs false
namespace Go.Proofs.Ytpaenlplpaabjaa.Pure
open Go.Proofs.Ytpaenlplpaabjaa.QStripeLays Go.RowKit Go.Proofs.YtpaenlplpaabjaaW.PrintWords Go.Proofs.YtpaenlplpaabjaaW.PrintLast Go.Proofs.YtpaenlplpaabjaaW.PrintMore
theorem cut_rows : ∀ (cs : List Nat) (r : List Int), 128 * sum cs ≤ r.length → ∀ x ∈ cutRows cs r, (∃ c ∈ cs, x.length = 128 * c) ∧ ∀ y ∈ x, y ∈ r
  | [], _, _, x, hx => absurd hx (List.not_mem_nil)
  | c :: cs, r, h, x, hx => by
    rw [sum] at h
    rw [cutRows] at hx
    rcases List.mem_cons.1 hx with rfl | hx
    · exact ⟨⟨c, List.mem_cons_self, by rw [List.length_take]; omega⟩, fun y hy => List.mem_of_mem_take hy⟩
    · obtain ⟨⟨c', hc, hl⟩, hy⟩ := cut_rows cs (r.drop (128 * c)) (by rw [List.length_drop]; omega) x hx
      exact ⟨⟨c', List.mem_cons_of_mem _ hc, hl⟩, fun y h2 => List.mem_of_mem_drop (hy y h2)⟩
theorem full_len (l : List Int) (N : Nat) (h : l.length ≤ 128 * N) : (fullOf l N).length = 128 * N := by unfold fullOf; rw [List.length_append, List.length_replicate]; omega
theorem whole_ok (L : List S87) (p : Nat) (l : List Int) (hb : ∀ x ∈ l, 0 ≤ x ∧ x < 256) (hok : okLay L p (longOf L) l.length) (h12 : L.length ≤ 12) (h40 : longOf L ≤ 4096) :
    (∀ r ∈ layRows L p l.length l, r.length ≤ longOf L ∧ ∀ y ∈ r, 0 ≤ y ∧ y < 256) ∧ (layRows L p l.length l).length = L.length - p ∧ p < L.length ∧
    Par.pmayB ((layRows L p l.length l).map (fillRow (longOf L))) = true ∧ ∀ r ∈ (layRows L p l.length l).map (fillRow (longOf L)), r.all Par.elB = true := by
  obtain ⟨hpn, hn0, hn64, hl1, hl4, hlg1, hlg2, hcol, hcnt, hsum⟩ := hok
  have hfl := full_len l ((l.length + 127) / 128) (by omega)
  have hrows := cut_rows (counts L p) (fullOf l ((l.length + 127) / 128)) (by rw [hsum, hfl]; exact Nat.le_refl _)
  have hfb : ∀ y ∈ fullOf l ((l.length + 127) / 128), 0 ≤ y ∧ y < 256 := by
    intro y hy
    unfold fullOf at hy
    rcases List.mem_append.1 hy with h | h
    · exact hb y h
    · have := (List.mem_replicate.1 h).2
      omega
  have h1 : ∀ r ∈ layRows L p l.length l, r.length ≤ longOf L ∧ ∀ y ∈ r, 0 ≤ y ∧ y < 256 := by
    intro r hr
    obtain ⟨⟨c, hc, hl⟩, hy⟩ := hrows r hr
    exact ⟨by rw [hl]; exact (hcnt c hc).2, fun y h2 => hfb y (hy y h2)⟩
  have h2 : (layRows L p l.length l).length = L.length - p := by unfold layRows; rw [cut_len, counts_len]
  have h3 : p < L.length := by
    rcases Nat.lt_or_ge p L.length with h | h
    · exact h
    · have e : counts L p = [] := by unfold counts; rw [List.drop_eq_nil_of_le h]; rfl
      rw [e] at hsum
      have : sum [] = 0 := rfl
      omega
  have h4 : ∀ r ∈ (layRows L p l.length l).map (fillRow (longOf L)), r.length = longOf L ∧ r.all Par.elB = true := by
    intro r hr
    obtain ⟨x, hx, rfl⟩ := List.mem_map.1 hr
    obtain ⟨q1, q2⟩ := h1 x hx
    refine ⟨by unfold fillRow; rw [List.length_append, List.length_replicate]; omega, ?_⟩
    rw [List.all_eq_true]
    intro y hy
    unfold fillRow at hy
    have hy2 : 0 ≤ y ∧ y < 256 := by
      rcases List.mem_append.1 hy with h | h
      · exact q2 y h
      · have := (List.mem_replicate.1 h).2
        omega
    simp only [Par.elB, Bool.and_eq_true, decide_eq_true_eq]
    exact hy2
  refine ⟨h1, h2, h3, ?_, fun r hr => (h4 r hr).2⟩
  have hlen : ((layRows L p l.length l).map (fillRow (longOf L))).length = L.length - p := by rw [List.length_map, h2]
  have h0 : (rd_L1 ((layRows L p l.length l).map (fillRow (longOf L))) 0).length = longOf L := (h4 _ (by
    show List.getD _ ((0 : Nat) : Int).toNat [] ∈ _
    rw [Int.toNat_natCast, List.getD_eq_getElem?_getD, List.getElem?_eq_getElem (by omega)]
    exact List.getElem_mem _)).1
  simp only [Par.pmayB, Par.evenB, Par.evenOne, Bool.and_eq_true, decide_eq_true_eq, List.all_eq_true]
  refine ⟨⟨by omega, by omega⟩, fun r hr => ?_⟩
  rw [h0, (h4 r hr).1]
  exact ⟨rfl, h40⟩
theorem lays_same (d p a : Int) (l : List Int) (hb : ∀ x ∈ l, 0 ≤ x ∧ x < 256) : ∃ k r1 r2, stripe_Lay.f k d p a l = some (r1, r2) ∧ quicksetref_StripeLay.f k d p a l = some (r1, r2) ∧ r1.length < 1000000000000000 ∧ ∀ r ∈ r1, r.length < 1000000000000000 := by
  by_cases hlen : 1 ≤ l.length ∧ l.length ≤ 4096
  · obtain ⟨hl1, hl4⟩ := hlen
    obtain ⟨N, hN⟩ : ∃ N, N = (l.length + 127) / 128 := ⟨_, rfl⟩
    have hsz : stripe_sized.f (l.length : Int) = some true := by unfold stripe_sized.f; rw [if_pos (by omega), decide_eq_true (by omega)]
    have hsec := sector_is l.length hl1 hl4
    rw [← hN] at hsec
    rcases Geo.geo_both d p a (N : Int) with ⟨k, h1, h2⟩ | ⟨hd, hd8, hp, hp3, hpd, hc1, hc32, k, h1, h2⟩
    · refine ⟨k, [], 2, ?_, ?_, by decide, fun r hr => absurd hr (List.not_mem_nil)⟩
      · unfold stripe_Lay.f stripe_shaped.f
        rw [hsz, Par.bsome, if_pos rfl, hsec, Par.bsome, h1, Par.bsome, if_neg (by decide), Par.bsome, if_neg (by decide)]
      · unfold quicksetref_StripeLay.f
        rw [if_pos ⟨hl1, hl4⟩, ← hN, h2, Par.bsome, if_neg (by decide)]
    · rw [Int.toNat_natCast] at h1 h2
      obtain ⟨L, hL⟩ : ∃ L, L = Geo.cols d p a (Geo.nN d.toNat p.toNat N) (fun i => ((Geo.gN (d.toNat - p.toNat) p.toNat N i : Nat) : Int)) := ⟨_, rfl⟩
      rw [← hL] at h1 h2
      obtain ⟨hok, h12, h40, hw⟩ := Geo.cols_ok d p a l.length hd hd8 hp hp3 hpd hl1 hl4 N hN L hL
      obtain ⟨q1, q2, q3, q4, q5⟩ := whole_ok L p.toNat l hb hok h12 h40
      obtain ⟨own, hown⟩ : ∃ own, own = layRows L p.toNat l.length l := ⟨_, rfl⟩
      rw [← hown] at q1 q2 q4 q5
      obtain ⟨ka, e1⟩ := Par.encodes_is (own.map (fillRow (longOf L))) p (by rw [List.length_map]; omega) q5
      obtain ⟨kb, e2⟩ := Par.refenc_is (own.map (fillRow (longOf L))) p (by rw [List.length_map]; omega) q5
      have hen : Par.encB (own.map (fillRow (longOf L))) p = (Par.parity (own.map (fillRow (longOf L))) p.toNat, 0) := by unfold Par.encB; rw [if_pos q4, if_pos ⟨hp, hp3⟩]
      rw [hen] at e1 e2
      obtain ⟨ps, hps⟩ : ∃ ps, ps = Par.parity (own.map (fillRow (longOf L))) p.toNat := ⟨_, rfl⟩
      have hpl : ps.length = p.toNat := by rw [hps]; unfold Par.parity; rw [List.length_map, List.length_range]
      have hpr : ∀ r ∈ ps, r.length < 1000000000000000 := by
        intro r hr
        rw [hps] at hr
        unfold Par.parity at hr
        obtain ⟨j, _, rfl⟩ := List.mem_map.1 hr
        have h0 := Par.pmay_rows q4 q5
        unfold Par.encAt
        rw [List.length_map, List.length_range]
        omega
      rw [← hps] at e1 e2
      have g1 := at_rounds (fun k => geom_Columns.mono d p a (N : Int) k) (show k ≤ max k (max ka kb) by omega) h1
      have g2 := at_rounds (fun k => quicksetref_GeomColumns.mono d p a (N : Int) k) (show k ≤ max k (max ka kb) by omega) h2
      have g3 := at_rounds (fun k => par_Encode.mono (own.map (fillRow (longOf L))) p k) (show ka ≤ max k (max ka kb) by omega) e1
      have g4 := at_rounds (fun k => quicksetref_ParEncode.mono (own.map (fillRow (longOf L))) p k) (show kb ≤ max k (max ka kb) by omega) e2
      refine ⟨max k (max ka kb), ps ++ own, 0, ?_, ?_, by rw [List.length_append]; omega, fun r hr => ?_⟩
      · unfold stripe_Lay.f stripe_shaped.f
        rw [hsz, Par.bsome, if_pos rfl, hsec, Par.bsome, g1, Par.bsome, if_pos rfl, if_pos (show (0 : Int) < ((L, (0 : Int)).1.length : Int) by show (0 : Int) < (L.length : Int); omega), Par.bsome, if_pos rfl]
        rw [if_pos (show 0 ≤ p ∧ 0 ≤ wrap64 ((rd_T87 L 0).f2 * 128) ∧ okLay L p.toNat (wrap64 ((rd_T87 L 0).f2 * 128)).toNat l.length from ⟨by omega, by rw [hw]; omega, by rw [hw, Int.toNat_natCast]; exact hok⟩)]
        rw [hw, Int.toNat_natCast, ← hown, g3, Par.bsome, if_pos (show (ps, (0 : Int)).1.length ≤ L.length by show ps.length ≤ L.length; omega)]
        have e : (List.replicate p.toNat ([] : List Int) ++ own).drop ps.length = own := by rw [hpl]; exact List.drop_left' (List.length_replicate)
        show some (ps ++ (List.replicate p.toNat ([] : List Int) ++ own).drop ps.length, (0 : Int)) = _
        rw [e]
      · unfold quicksetref_StripeLay.f
        rw [if_pos ⟨hl1, hl4⟩, ← hN, g2, Par.bsome, if_pos rfl, if_pos ⟨by omega, hok⟩, ← hown, g4, Par.bsome, if_pos (show (ps, (0 : Int)).1.length ≤ 64 by show ps.length ≤ 64; omega)]
      · rcases List.mem_append.1 hr with h | h
        · exact hpr r h
        · have := (q1 r h).1
          omega
  · refine ⟨0, [], 1, ?_, ?_, by decide, fun r hr => absurd hr (List.not_mem_nil)⟩
    · have hsz : stripe_sized.f (l.length : Int) = some false := by
        unfold stripe_sized.f
        by_cases h : (l.length : Int) ≥ 1
        · rw [if_pos h, decide_eq_false (by omega)]
        · rw [if_neg h]
      unfold stripe_Lay.f stripe_shaped.f
      rw [hsz, Par.bsome, if_neg (by decide), Par.bsome, if_neg (by decide)]
    · unfold quicksetref_StripeLay.f
      rw [if_neg hlen]
end Go.Proofs.Ytpaenlplpaabjaa.Pure
