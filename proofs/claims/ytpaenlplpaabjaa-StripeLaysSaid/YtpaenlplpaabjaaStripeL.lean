/- Package stripe's Lay, walked; no conditions. -/
import Derived.Test.YtpaenlplpaabjaaStripeK
import Derived.Deep.WholeRow
set_option linter.unusedVariables false
set_option linter.unusedSimpArgs false
namespace Go.Proofs.Ytpaenlplpaabjaa.QStripeLays
open Go.RowKit Go.Proofs.YtpaenlplpaabjaaW.PrintWords Go.Proofs.YtpaenlplpaabjaaW.PrintLast Go.Proofs.YtpaenlplpaabjaaW.PrintMore
open Go.Proofs.Ytpaenlplpaabjaa.Sep Go.Proofs.Ytpaenlplpaabjaa.MatB
/-! ### A block in columns, over plain lists -/
def counts (cols : List S87) (p : Nat) : List Nat := (cols.drop p).map (fun c => c.f2.toNat)
def sum : List Nat → Nat
  | [] => 0
  | c :: l => c + sum l
def cutRows : List Nat → List Int → List (List Int)
  | [], _ => []
  | c :: l, r => r.take (128 * c) :: cutRows l (r.drop (128 * c))
def fillRow (long : Nat) (r : List Int) : List Int := r ++ List.replicate (long - r.length) 0
def fullOf (l : List Int) (N : Nat) : List Int := l ++ List.replicate (128 * N - l.length) 0
def okLay (cols : List S87) (p long len : Nat) : Prop :=
  p ≤ cols.length ∧ 0 < cols.length ∧ cols.length ≤ 64 ∧ 1 ≤ len ∧ len ≤ 4096 ∧ 0 < long ∧ long ≤ 8192 ∧ (∀ c ∈ cols, 0 ≤ c.f2 ∧ c.f2 ≤ 64) ∧ (∀ c ∈ counts cols p, 0 < c ∧ 128 * c ≤ long) ∧ sum (counts cols p) = (len + 127) / 128
instance (cols : List S87) (p long len : Nat) : Decidable (okLay cols p long len) := by unfold okLay; infer_instance
theorem cut_low {P : Program} (t e : TypeId) {i : TypeInfo} (ht : P.underlying t = some (.slice e)) (hi : P.info? e = some i) (hsz : i.size = 1) (g o n c s : Nat) (hs : s ≤ n) (hnc : n ≤ c) :
    ∃ A : Option Addr, (s < n → A = some ⟨g, o + s, none⟩) ∧ ∀ W : World, (Instr.slice t (.slice (some ⟨g, o, none⟩) n c) (some (.int .i64 (s : Int))) none none).run P W = .ok (.slice A (n - s) (c - s)) W := by
  have h := cut_from (P := P) t e .i64 ht hi 1 hsz (some ⟨g, o, none⟩) n c (s : Int) (Int.natCast_nonneg _) (by omega)
  rw [Int.toNat_natCast] at h
  refine ⟨_, fun hlt => ?_, h⟩
  rw [if_neg (by omega), Nat.mul_one]
  exact congrArg some (add_at g o s)
theorem infoB1 : (Try.prog.info? 45).map (fun i => (i.zero, i.size, i.bytes)) = some (some (.slice none 0 0), 1, 24) := by kernel_rfl
theorem sector_is (n : Nat) (h1 : 1 ≤ n) (h2 : n ≤ 4096) : stripe_sectors.f (n : Int) = some (((n + 127) / 128 : Nat) : Int) := by
  unfold stripe_sectors.f
  congr 1
  have e1 : wrap64 ((n : Int) + 128) = (n : Int) + 128 := by unfold wrap64; omega
  have e2 : wrap64 ((n : Int) + 128 - 1) = (n : Int) + 127 := by unfold wrap64; omega
  rw [e1, e2, Int.tdiv_eq_ediv_of_nonneg (by omega)]
  unfold wrap64
  omega
def layRows (cols : List S87) (p len : Nat) (l : List Int) : List (List Int) := cutRows (counts cols p) (fullOf l ((len + 127) / 128))
def stripe_Lay.f (k : Nat) (a0 a1 a2 : Int) (l : List Int) : Option (List (List Int) × Int) :=
  (stripe_shaped.f k a0 a1 a2 (l.length : Int)).bind fun s => if s.2.2.2 = 0 then (if (0 ≤ a1 ∧ 0 ≤ s.2.2.1 ∧ okLay s.1 a1.toNat s.2.2.1.toNat l.length) then (par_Encode.f k ((layRows s.1 a1.toNat l.length l).map (fillRow s.2.2.1.toNat)) a1).bind fun pe =>
    (if pe.1.length ≤ s.1.length then some (pe.1 ++ (List.replicate a1.toNat [] ++ layRows s.1 a1.toNat l.length l).drop pe.1.length, 0) else none) else none) else some ([], s.2.2.2)
theorem cut_len : ∀ (cs : List Nat) (r : List Int), (cutRows cs r).length = cs.length
  | [], _ => rfl
  | c :: cs, r => by rw [cutRows, List.length_cons, List.length_cons, cut_len cs]
theorem sum_take_succ : ∀ (cs : List Nat) (i : Nat), i < cs.length → sum (cs.take (i + 1)) = sum (cs.take i) + cs.getD i 0
  | [], i, h => absurd h (Nat.not_lt_zero _)
  | c :: cs, 0, _ => by simp [sum]
  | c :: cs, i + 1, h => by
    have ih := sum_take_succ cs i (by simpa using h)
    rw [List.take_succ_cons, List.take_succ_cons, sum, sum, ih, List.getD_cons_succ]
    omega
theorem sum_take_le : ∀ (cs : List Nat) (i : Nat), sum (cs.take i) ≤ sum cs
  | [], i => by simp [sum]
  | c :: cs, 0 => by simp [sum]
  | c :: cs, i + 1 => by
    rw [List.take_succ_cons, sum, sum]
    have := sum_take_le cs i
    omega
theorem cut_get : ∀ (cs : List Nat) (r : List Int) (i : Nat), i < cs.length → (cutRows cs r)[i]? = some ((r.drop (128 * sum (cs.take i))).take (128 * cs.getD i 0))
  | [], _, i, h => absurd h (Nat.not_lt_zero _)
  | c :: cs, r, 0, _ => by simp [cutRows, sum]
  | c :: cs, r, i + 1, h => by
    have ih := cut_get cs (r.drop (128 * c)) i (by simpa using h)
    rw [cutRows, List.getElem?_cons_succ, ih, List.take_succ_cons, sum, List.drop_drop, List.getD_cons_succ, Nat.mul_add]
theorem counts_len (cols : List S87) (p : Nat) : (counts cols p).length = cols.length - p := by unfold counts; rw [List.length_map, List.length_drop]
theorem counts_get (cols : List S87) (p i : Nat) (h : p + i < cols.length) : (counts cols p).getD i 0 = (rd_T87 cols ((p + i : Nat) : Int)).f2.toNat := by
  unfold counts rd_T87
  rw [Int.toNat_natCast, List.getD_eq_getElem?_getD, List.getElem?_map, List.getElem?_drop, List.getD_eq_getElem?_getD, List.getElem?_eq_getElem h]
  rfl
theorem counts_mem (cols : List S87) (p i : Nat) (h : p + i < cols.length) : (counts cols p).getD i 0 ∈ counts cols p := by
  have hl : i < (counts cols p).length := by rw [counts_len]; omega
  rw [List.getD_eq_getElem?_getD, List.getElem?_eq_getElem hl]
  exact List.getElem_mem _
theorem col_mem (cols : List S87) (i : Nat) (h : i < cols.length) : rd_T87 cols (i : Int) ∈ cols := by
  unfold rd_T87
  rw [Int.toNat_natCast, List.getD_eq_getElem?_getD, List.getElem?_eq_getElem h]
  exact List.getElem_mem _
theorem size_is (cols : List S87) (a b : Int) (p i : Nat) (h : p + i < cols.length) (hc : 0 ≤ (rd_T87 cols ((p + i : Nat) : Int)).f2 ∧ (rd_T87 cols ((p + i : Nat) : Int)).f2 ≤ 64) (sz : Nat) (hs : sz = 128 * (rd_T87 cols ((p + i : Nat) : Int)).f2.toNat) : stripe_block_size.f cols a b ((p + i : Nat) : Int) = some (sz : Int) := by
  unfold stripe_block_size.f
  rw [if_pos (by omega), if_pos (by omega)]
  congr 1
  unfold wrap64
  omega
theorem C_part {kk : IntKind} {w : World} {g : Nat} {xs : List Int} {o s : Nat} (h : Kd.C (Kd.int kk) w (some ⟨g, 0, none⟩) xs.length xs) (ho : o + s ≤ xs.length) (hs : 0 < s) : Kd.C (Kd.int kk) w (some ⟨g, o, none⟩) s ((xs.drop o).take s) := by
  have h1 := Kd.C_drop (c := xs.length) h (m := o) (by omega) (Nat.le_refl _)
  rw [if_neg (by omega)] at h1
  have h2 := Kd.C_take (m := s) h1 (by rw [List.length_drop]; omega)
  have e : ((xs.drop o).take s).length = s := by rw [List.length_take, List.length_drop]; omega
  rw [e] at h2
  have e2 : (some ⟨g, 0, none⟩ : Option Addr).map (·.add (o * (Kd.int kk).sz)) = some ⟨g, o, none⟩ := by
    have hs1 : (Kd.int kk).sz = 1 := rfl
    rw [hs1, Nat.mul_one]
    exact congrArg some ((add_at g 0 o).trans (by rw [Nat.zero_add]))
  rw [e2] at h2
  exact h2
def outL (p n : Nat) (own : List (List Int)) (i : Nat) : List (List Int) := List.replicate p [] ++ own.take i ++ List.replicate (n - p - i) []
theorem outL_len (p n : Nat) (own : List (List Int)) (i : Nat) (ho : own.length = n - p) (hi : i ≤ n - p) (hp : p ≤ n) : (outL p n own i).length = n := by
  unfold outL
  simp only [List.length_append, List.length_replicate, List.length_take]
  omega
theorem outL_set (p n : Nat) (own : List (List Int)) (i : Nat) (x : List Int) (ho : own.length = n - p) (hi : p + i < n) (hx : own[i]? = some x) : (outL p n own i).set (p + i) x = outL p n own (i + 1) := by
  unfold outL
  have hl : (List.replicate p ([] : List Int) ++ own.take i).length = p + i := by simp only [List.length_append, List.length_replicate, List.length_take]; omega
  rw [List.set_append_right _ _ (by rw [hl]; exact Nat.le_refl _), hl, Nat.sub_self, show n - p - i = (n - p - (i + 1)) + 1 from by omega, List.replicate_succ, List.set_cons_zero]
  have hlt : i < own.length := by omega
  rw [List.take_succ_eq_append_getElem hlt]
  have e : own[i] = x := by rw [List.getElem?_eq_getElem hlt] at hx; exact Option.some.inj hx
  rw [e]
  simp
theorem outL_at (p n : Nat) (own : List (List Int)) (i c : Nat) (x : List Int) (hc : c = p + i) (ho : own.length = n - p) (hi : p + i < n) (hx : own[i]? = some x) : rd_L1 (outL p n own (i + 1)) (c : Int) = x := by
  rw [← outL_set p n own i x ho hi hx, ← hc]
  unfold rd_L1
  rw [Int.toNat_natCast, List.getD_eq_getElem?_getD, List.getElem?_set_self (by unfold outL; simp only [List.length_append, List.length_replicate, List.length_take]; omega)]
  rfl
theorem map_next (own : List (List Int)) (i : Nat) (f : List Int → List Int) (x : List Int) (hx : own[i]? = some x) : (own.take i).map f ++ [f x] = (own.take (i + 1)).map f := by
  obtain ⟨hlt, e⟩ := List.getElem?_eq_some_iff.1 hx
  rw [List.take_succ_eq_append_getElem hlt, List.map_append, e]
  rfl
theorem fill_of {w0 W : World} {l : List Asn} {g n co c c1 : Nat} {A : Option Addr} {l0 : List (List Int)} {x : List Int} (h : SL w0 W l) (k : Nat) (hk : l[k]? = some (rowA (Kd.slice 5 (Kd.int .u8)) 45 (.slice (some ⟨g, 0, none⟩) n co) l0)) (hcell : W.cell? ⟨g, c, none⟩ = some (.slice A x.length c1)) (hlt : c < l0.length) (hx : rd_L1 l0 (c : Int) = x)
    (v0 : Value) (h0 : v0.oneCell' = true) (par : Int) (long : Nat) (hl : x.length ≤ long) (h1 : 0 < long) (h2 : long ≤ 1048576) :
    Calls Try.prog 67 #[.agg #[v0, .int .i64 par, .int .i64 (long : Int)], .slice A x.length c1] W fun e w' => ∃ v : Value, e = .returned v ∧ Kd.R (Kd.int .u8) 5 w' W.heap.size (fun _ => True) v (fillRow long x) ∧ Below W.heap.size W w' := by
  obtain ⟨ad, A2, c2, e1, hx1, _, hC⟩ := at_L1 (h.C k hk) (c : Int) (Int.natCast_nonneg _) (by omega)
  injection e1 with e1
  subst e1
  rw [Int.toNat_natCast, hx] at hx1
  have e2 : (⟨g, 0, none⟩ : Addr).add c = ⟨g, c, none⟩ := (add_at g 0 c).trans (by rw [Nat.zero_add])
  rw [e2, hcell] at hx1
  injection hx1 with hx1
  injection hx1 with e3 _ _
  subst e3
  rw [hx] at hC
  exact fill_calls v0 h0 par long A x.length c1 x W rfl hC hl h1 h2
set_option maxHeartbeats 4000000 in
set_option maxRecDepth 100000 in
theorem stripe_Lay.calls (k : Nat) (a0 a1 a2 : Int) (A0 : Option Addr) (c0 : Nat) (l0 : List Int) (r1 : List (List Int)) (r2 : Int) (w : World) (hr0 : Kd.C (Kd.int .u8) w A0 l0.length l0) (hc0 : l0.length ≤ c0) (h : stripe_Lay.f k a0 a1 a2 l0 = some (r1, r2)) :
    Calls Try.prog 29 #[.int .i64 a0, .int .i64 a1, .int .i64 a2, .slice A0 l0.length c0] w fun e w' => ∃ v0_ : Value, e = .returned (.tuple #[v0_, .int .i64 r2]) ∧ Kd.R (Kd.slice 5 (Kd.int .u8)) 45 w' w.heap.size (fun _ => True) v0_ r1 ∧ Below w.heap.size w w' := by
  have HC := Aside0.mk hr0
  have HS := Aside0.mk (SL.start w)
  have HB := Aside0.mk (Below.refl w.heap.size w)
  unfold stripe_Lay.f at h
  obtain ⟨⟨cols, pr, long0, code⟩, hsh, h⟩ := Option.bind_eq_some_iff.mp h
  replace h : (if code = 0 then (if (0 ≤ a1 ∧ 0 ≤ long0 ∧ okLay cols a1.toNat long0.toNat l0.length) then (par_Encode.f k ((layRows cols a1.toNat l0.length l0).map (fillRow long0.toNat)) a1).bind fun pe =>
    (if pe.1.length ≤ cols.length then some (pe.1 ++ (List.replicate a1.toNat [] ++ layRows cols a1.toNat l0.length l0).drop pe.1.length, (0 : Int)) else none) else none) else some (([] : List (List Int)), code)) = some (r1, r2) := h
  have HSH := Aside0.mk (fun (W : World) => stripe_shaped.calls k a0 a1 a2 (l0.length : Int) cols pr long0 code W hsh)
  have hu := Try.underlying81
  clear hsh
  by_cases hcode : code = 0
  · rw [if_pos hcode] at h
    subst hcode
    have hne0 : ((0 : Int) != 0) = false := rfl
    by_cases hg : 0 ≤ a1 ∧ 0 ≤ long0 ∧ okLay cols a1.toNat long0.toNat l0.length
    · rw [if_pos hg] at h
      obtain ⟨⟨ps, pcode⟩, hpe, h⟩ := Option.bind_eq_some_iff.mp h
      replace h : (if ps.length ≤ cols.length then some (ps ++ (List.replicate a1.toNat [] ++ layRows cols a1.toNat l0.length l0).drop ps.length, (0 : Int)) else none) = some (r1, r2) := h
      by_cases hpl : ps.length ≤ cols.length
      · rw [if_pos hpl] at h
        replace h := Option.some.inj h
        simp only [Prod.mk.injEq] at h
        obtain ⟨rfl, rfl⟩ := h
        obtain ⟨hp0, hlg0, hok⟩ := hg
        obtain ⟨p, rfl⟩ := Int.eq_ofNat_of_zero_le hp0
        obtain ⟨long, rfl⟩ := Int.eq_ofNat_of_zero_le hlg0
        simp only [Int.ofNat_eq_natCast, Int.toNat_natCast] at hok hpe HSH ⊢
        obtain ⟨hpn, hn0, hn64, hl1, hl4, hlg1, hlg2, hcol, hcnt, hsum⟩ := hok
        have HPE := Aside0.mk hpe
        have HPL := Aside0.mk hpl
        have HCOL := Aside0.mk hcol
        have HCNT := Aside0.mk hcnt
        have HSUM := Aside0.mk hsum
        have HPN := Aside0.mk hpn
        have HN64 := Aside0.mk hn64
        have HN0 := Aside0.mk hn0
        have HLG1 := Aside0.mk hlg1
        have HLG2 := Aside0.mk hlg2
        have HL1 := Aside0.mk hl1
        have HL4 := Aside0.mk hl4
        clear hp0 hlg0 hpe hpl hcol hcnt hsum hpn hn64 hn0 hlg1 hlg2 hl1 hl4 hr0 hc0
        go_enter Try.func29, Try.ntmps29
        go_upto_region 2 with (go_at_call 63; (with_reducible refine (HSH.out _).mono ?_); rintro e w1 ⟨vc, rfl, hR_, hb_⟩; obtain ⟨Ac, cc, e1_⟩ := Kd.R_slice hR_; subst e1_; have HR := Aside0.mk hR_; have HBW := Aside0.mk hb_; clear hR_ hb_)
        have HS := Aside0.mk ((Sep.SL.newRow HS.out HBW.out HR.out).allocBlk #[.slice Ac cols.length cc, .int .i64 pr, .int .i64 (long : Int)] 81)
        clear HR HBW HB
        generalize w1.heap.size = gb at HS ⊢
        generalize World.alloc _ _ = w2 at HS ⊢
        obtain ⟨N, hN⟩ : ∃ N, N = (l0.length + 127) / 128 := ⟨_, rfl⟩
        obtain ⟨NN, hNN⟩ : ∃ NN, NN = 128 * N := ⟨_, rfl⟩
        have HN := Aside0.mk hN
        have HNN := Aside0.mk hNN
        have hNN0 : 0 < NN := by have := HL1.out; omega
        have hNN4 : NN ≤ 8192 := by have := HL4.out; omega
        have hwm : wrap64 ((N : Int) * 128) = (NN : Int) := by rw [hNN]; unfold wrap64; omega
        have HSEC := Aside0.mk (fun (W : World) => stripe_sectors.calls (l0.length : Int) (N : Int) W (by rw [hN]; exact sector_is _ HL1.out HL4.out))
        clear hN hNN
        go_upto_region 5 with (first | (go_at_call 64; (with_reducible refine (HSEC.out _).mono ?_); rintro e w3 ⟨rfl, ⟨nd, rfl⟩⟩) | (rw [hwm]; ((with_reducible refine gate_dst (N := 34) rfl ?_); (with_reducible apply Sep.make_row (d := (Kd.int .u8)) (t := 45) (e := 5) (n := (NN : Int)) (z0 := 0)); (case hSL => exact (by repeat (first | (with_reducible first | exact HS.out | apply Sep.SL.drewN | apply Sep.SL.drew | apply Sep.SL.alloc | apply below_drew1) | exact HS.out))); (case hgd => exact rfl); (case hd => exact rfl); (case ho => exact rfl); (case hx => exact rfl); (case hy => exact rfl); (case ht => exact Try.underlying45); (case hinfo => exact info5); (case hz => exact rfl); (case hs0 => decide); (case hb0 => omega); (case hzero => exact (fun _ _ => rfl)); (case h0 => omega); (case hl => omega); intro v1_ w1_ hs_; have n1_ := Aside0.mk hs_; clear HS hs_; have HS := n1_; clear n1_; obtain ⟨gr, cr, e1_⟩ := Sep.SL.form HS.out 0 rfl (by rw [List.length_replicate, Int.toNat_natCast]; exact hNN0); rw [Int.toNat_natCast] at e1_ HS; rw [List.length_replicate] at e1_; subst e1_)))
        have HSRC := Aside0.mk (fun W (hb : Below w.heap.size w W) => src_bytes rfl HC.out hb)
        have HLN : Aside0 (l0.length ≤ NN) := ⟨by have := HNN.out; have := HN.out; omega⟩
        go_upto_region 6 with (((with_reducible refine gate_builtin (b := .copy) (xs := #[.tmp 35, .tmp 36]) rfl ?_); ((with_reducible apply copy_ints (kk := .u8) (d := .tmp 35) (s := .tmp 36) (dT := 45) (sT := 45) (elem := 5) (p := 0) (ys := l0) (k := 0)); (case hSL => exact (by repeat (first | (with_reducible first | exact HS.out | apply Sep.SL.drewN | apply Sep.SL.drew | apply Sep.SL.alloc | apply below_drew1) | exact HS.out))); (case hk => exact rfl); (case hgd => exact rfl); (case ho => exact rfl); (case hu => exact Try.underlying45); (case hsz => kernel_rfl); (case hd => exact rfl); (case hs => exact rfl); (case hn => exact (Nat.min_eq_left HLN.out).symm); (case hp => exact (by rw [List.length_replicate, Nat.zero_add]; exact HLN.out)); (case hpos => exact (fun h_ => ⟨rfl, HSRC.out _ HS.out.below h_⟩)); intro w1_ hs_; have n1_ := Aside0.mk hs_; clear HS hs_; have HS := n1_; clear n1_)))
        have hbs := HS.out
        rw [cat_fill l0 NN HLN.out] at hbs
        obtain ⟨full, hfull⟩ : ∃ full, full = fullOf l0 N := ⟨_, rfl⟩
        have hfl : l0 ++ List.replicate (NN - l0.length) 0 = full := by rw [hfull, fullOf, HNN.out]
        rw [hfl] at hbs
        have hfn : full.length = NN := by rw [← hfl, List.length_append, List.length_replicate]; have := HLN.out; omega
        have HFN := Aside0.mk hfn
        obtain ⟨own, hown⟩ : ∃ own, own = layRows cols p l0.length l0 := ⟨_, rfl⟩
        have hown2 : own = cutRows (counts cols p) full := by rw [hown, layRows, ← HN.out, hfull]
        have HOWN := Aside0.mk hown2
        rw [← hown] at HPE
        have HOWN0 := Aside0.mk hown
        have HOL : Aside0 (own.length = cols.length - p) := ⟨by rw [hown2, cut_len, counts_len]⟩
        have HS : Aside0 (SL w _ [rowA (Kd.int .u8) 5 (.slice (some ⟨gr, 0, none⟩) NN cr) full, blkA gb #[.slice Ac cols.length cc, .int .i64 pr, .int .i64 (long : Int)] 81, rowA k87 87 (.slice Ac cols.length cc) cols]) := ⟨hbs⟩
        clear hbs hfull hfl hfn hown hown2 hwm HSEC HSRC HLN
        generalize w1_ = w4 at HS ⊢
        obtain ⟨hz, hzf, hzl⟩ := HS.out.c0 1 rfl
        have hn64 := HN64.out
        go_upto_region 7 with ((with_reducible refine gate_dst (N := 41) rfl ?_); (with_reducible apply Sep.make_row (d := Kd.slice 5 (Kd.int .u8)) (t := 38) (e := 45) (n := (cols.length : Int)) (z0 := [])); (case hSL => exact (by repeat (first | (with_reducible first | exact HS.out | apply Sep.SL.drewN | apply Sep.SL.drew | apply Sep.SL.alloc | apply below_drew1) | exact HS.out))); (case hgd => exact rfl); (case hd => exact rfl); (case ho => exact rfl); (case hx => exact rfl); (case hy => exact rfl); (case ht => exact Try.underlying38); (case hinfo => exact infoB1); (case hz => exact rfl); (case hs0 => decide); (case hb0 => decide); (case hzero => exact (fun _ _ => ⟨_, rfl, Kd.R_nil _ _ _ _ _⟩)); (case h0 => exact Int.natCast_nonneg _); (case hl => rw [Int.toNat_natCast]; omega); intro v1_ w1_ hs_; have n1_ := Aside0.mk hs_; clear HS hs_; have HS := n1_; clear n1_; obtain ⟨go, co, e1_⟩ := Sep.SL.form HS.out 0 rfl (by rw [List.length_replicate, Int.toNat_natCast]; exact HN0.out); rw [Int.toNat_natCast] at e1_ HS; rw [List.length_replicate] at e1_; subst e1_)
        clear hz hzf hzl hn64
        have HS := Aside0.mk (sA_nil HS.out (Kd.slice 5 (Kd.int .u8)) 45).swap
        --LOOP
        have hst : SL w w1_ [rowA (Kd.slice 5 (Kd.int .u8)) 45 (.slice (some ⟨go, 0, none⟩) cols.length co) (outL p cols.length own 0), sA (Kd.slice 5 (Kd.int .u8)) 45 (.slice none 0 0) ((own.take 0).map (fillRow long)), rowA (Kd.int .u8) 5 (.slice (some ⟨gr, 0, none⟩) NN cr) full, blkA gb #[.slice Ac cols.length cc, .int .i64 pr, .int .i64 (long : Int)] 81, rowA k87 87 (.slice Ac cols.length cc) cols] := by
          have h_ := HS.out
          have e_ : List.replicate cols.length ([] : List Int) = outL p cols.length own 0 := by unfold outL; rw [List.take_zero, List.append_nil, List.replicate_append_replicate]; congr 1; have := HPN.out; omega
          rw [← e_]
          exact h_
        have HS := Aside0.mk hst
        clear hst
        clear hNN0 hne0
        go_upto_region 9 with (fail)
        go_loopg [12, 14, 15] (cols.length - p) (fun kq v12 v14 v15 wr => ∃ (i o : Nat) (Ar : Option Addr), v12 = .slice Ar (NN - o) (cr - o) ∧ v15 = .int .i64 ((p + i : Nat) : Int) ∧ p + i + kq = cols.length ∧ Aside0 (o = 128 * sum ((counts cols p).take i)) ∧ Aside0 (kq ≠ 0 → Ar = some ⟨gr, o, none⟩) ∧ Aside0 (SL w wr [rowA (Kd.slice 5 (Kd.int .u8)) 45 (.slice (some ⟨go, 0, none⟩) cols.length co) (outL p cols.length own i), sA (Kd.slice 5 (Kd.int .u8)) 45 v14 ((own.take i).map (fillRow long)), rowA (Kd.int .u8) 5 (.slice (some ⟨gr, 0, none⟩) NN cr) full, blkA gb #[.slice Ac cols.length cc, .int .i64 pr, .int .i64 (long : Int)] 81, rowA k87 87 (.slice Ac cols.length cc) cols]))
        case atStart => exact ⟨0, 0, some ⟨gr, 0, none⟩, rfl, rfl, by have := HPN.out; omega, ⟨by rw [List.take_zero]; rfl⟩, ⟨fun _ => rfl⟩, HS⟩
        case round =>
          clear HS
          obtain ⟨i, o, Ar, rfl, rfl, hik, HO, HAR, HS⟩ := hrel
          cases gk with
          | zero =>
            have hic : p + i = cols.length := by omega
            have HIC := Aside0.mk hic
            have hit : decide (((p + i : Nat) : Int) < (cols.length : Int)) = false := decide_eq_false (by omega)
            have hit2 : decide (p + i < cols.length) = false := decide_eq_false (by omega)
            clear hik hic
            obtain ⟨c, hc⟩ : ∃ c, c = p + i := ⟨_, rfl⟩
            rw [← hc] at hit hit2 ⊢
            clear hc
            have hown_ : own.take i = own := List.take_of_length_le (by have := HOL.out; have := HIC.out; omega)
            have hou_ : outL p cols.length own i = List.replicate p [] ++ own := by unfold outL; rw [hown_, show cols.length - p - i = 0 from by have := HIC.out; omega, List.replicate_zero, List.append_nil]
            have hs3 := HS.out
            rw [hown_, hou_] at hs3
            have HS := Aside0.mk hs3
            clear hs3 hown_ hou_
            obtain ⟨wh, hwh⟩ : ∃ wh, wh = own.map (fillRow long) := ⟨_, rfl⟩
            rw [← hwh] at HS HPE
            clear hwh
            obtain ⟨Aw, cw, ew⟩ := sA_slice HS.out 1 rfl
            subst ew
            have hcw := (Kd.R_reads' (sA_row HS.out 1 rfl)).2.1
            have HPC := Aside0.mk (fun (W : World) (hC : Kd.C (Kd.slice 5 (Kd.int .u8)) W Aw wh.length wh) => par_Encode.calls k Aw cw wh (p : Int) ps pcode W hC hcw HPE.out)
            clear hcw
            go_upto_region 14 with (go_at_call 24; (with_reducible refine (HPC.out _ ?hC_).mono ?_); (case hC_ => exact (Kd.R_reads' (sA_row HS.out 1 rfl)).2.2); rintro e w5 ⟨vp, rfl, hS_, hb_⟩; have HNP := Aside0.mk (SL.new (A := sA (Kd.slice 5 (Kd.int .u8)) 45 vp ps) (S := fun _ => True) HS.out hb_ hS_); clear HS hS_ hb_; obtain ⟨Ap, cp, ep⟩ := sA_slice HNP.out 0 rfl; subst ep)
            have HQ : Aside0 (SL w w5 [rowA (Kd.slice 5 (Kd.int .u8)) 45 (.slice (some ⟨go, 0, none⟩) cols.length co) (List.replicate p [] ++ own), rowA (Kd.slice 5 (Kd.int .u8)) 45 (.slice Ap ps.length cp) ps]) := by
              have h1_ := HNP.out.imp (A' := rowA (Kd.slice 5 (Kd.int .u8)) 45 (.slice Ap ps.length cp) ps) 0 rfl (fun S hA => Kd.S_R hA)
              exact ⟨(Sep.SL.front (Sep.SL.front (Sep.SL.drop (Sep.SL.front (Sep.SL.drop (Sep.SL.front (Sep.SL.drop (Sep.SL.front (Sep.SL.drop (Sep.SL.front h1_ 5 rfl)) 4 rfl)) 3 rfl)) 2 rfl)) 0 rfl) 1 rfl)⟩
            clear HNP
            go_wp2_with ((with_reducible refine gate_builtin (b := .copy) (xs := #[.tmp 78, .tmp 79]) rfl ?_); (with_reducible apply copy_rows (d := Kd.int .u8) (ds := .tmp 78) (ss := .tmp 79) (dT := 38)); (case hgd => exact rfl); (case ho => exact rfl); (case hu => exact Try.underlying38); (case hsz => kernel_rfl); (case hSL => exact HQ.out); (case hd => exact rfl); (case hs => exact rfl); (case hl => rw [List.length_append, List.length_replicate]; have := HOL.out; have := HPL.out; have := HPN.out; omega); intro w6 hs_; have HF := Aside0.mk hs_; clear HQ hs_)
            go_ret2
            exact ⟨_, rfl, by rw [← HOWN0.out]; exact HF.out.row 0 rfl, HF.out.below⟩
          | succ g1 =>
            have hic : p + i < cols.length := by omega
            have HIK : Aside0 (p + (i + 1) + g1 = cols.length) := ⟨by omega⟩
            clear hik
            obtain rfl := HAR.out (Nat.succ_ne_zero _)
            clear HAR
            have hcl : i < (counts cols p).length := by rw [counts_len]; omega
            obtain ⟨cnt, hcnt⟩ : ∃ cnt, cnt = (counts cols p).getD i 0 := ⟨_, rfl⟩
            have hcp := HCNT.out _ (counts_mem cols p i hic)
            rw [← hcnt] at hcp
            have hsu := sum_take_succ (counts cols p) i hcl
            have hsl := sum_take_le (counts cols p) (i + 1)
            rw [hsu, ← hcnt, HSUM.out, ← HN.out] at hsl
            rw [← hcnt] at hsu
            obtain ⟨sz, hsz⟩ : ∃ sz, sz = 128 * cnt := ⟨_, rfl⟩
            have hsz0 : 0 < sz := by omega
            have hszl : sz ≤ long := by omega
            have hoz : o + sz ≤ NN := by have := HNN.out; have := HO.out; omega
            have HO2 : Aside0 (o + sz = 128 * sum ((counts cols p).take (i + 1))) := ⟨by rw [hsu, Nat.mul_add, ← HO.out, hsz]⟩
            obtain ⟨x, hx⟩ : ∃ x, x = (full.drop o).take sz := ⟨_, rfl⟩
            have hox : own[i]? = some x := by rw [HOWN.out, cut_get _ _ _ hcl, ← hcnt, ← HO.out, ← hsz, ← hx]
            have hxl : x.length = sz := by rw [hx, List.length_take, List.length_drop, HFN.out]; omega
            have hcr := (Kd.R_reads' (HS.out.row 2 rfl)).2.1
            have hcc := (Kd.R_reads' (HS.out.row 4 rfl)).2.1
            have HSZ := Aside0.mk (fun (W : World) (hC : Kd.C k87 W Ac cols.length cols) => stripe_block_size.calls Ac cc cols pr (long : Int) ((p + i : Nat) : Int) (sz : Int) W hC hcc (size_is cols pr (long : Int) p i hic (HCOL.out _ (col_mem cols (p + i) hic)) sz (by rw [hsz, hcnt, counts_get cols p i hic])))
            obtain ⟨i0, hi, hz0, hz1, hz2⟩ := info_parts infoU
            have hcutH := fun (W : World) => cut_to (P := Try.prog) 45 5 .i64 Try.underlying45 hi (some ⟨gr, o, none⟩) (NN - o) (cr - o) (sz : Int) (Int.natCast_nonneg _) (by omega) (by omega) W
            obtain ⟨Ar2, hAr2, hcutL⟩ := cut_low (P := Try.prog) 45 5 Try.underlying45 hi hz1 gr o (NN - o) (cr - o) sz (by omega) (by omega)
            rw [Int.toNat_natCast] at hcutH
            rw [Nat.sub_sub, Nat.sub_sub] at hcutL
            have HAR2 : Aside0 (g1 ≠ 0 → Ar2 = some ⟨gr, o + sz, none⟩) := ⟨fun hg_ => hAr2 (by have hc2_ := HCNT.out _ (counts_mem cols p (i + 1) (by have := HIK.out; omega)); have hl2_ := sum_take_le (counts cols p) (i + 1 + 1); rw [sum_take_succ (counts cols p) (i + 1) (by rw [counts_len]; have := HIK.out; omega), HSUM.out, ← HN.out] at hl2_; have := HO2.out; have := HNN.out; omega)⟩
            have HCL := Aside0.mk (fun (W : World) (hC : Kd.C (Kd.int .u8) W (some ⟨gr, 0, none⟩) full.length full) => clone_calls ⟨gr, o, none⟩ sz (cr - o) x W hxl (by rw [hx]; exact C_part hC (by rw [HFN.out]; exact hoz) hsz0) (by have := HLG2.out; omega))
            have hwi : wrap64 (((p + i : Nat) : Int) + 1) = ((p + (i + 1) : Nat) : Int) := by have := HN64.out; unfold wrap64; omega
            have HWI := Aside0.mk hwi
            have HXL := Aside0.mk hxl
            have HOX := Aside0.mk hox
            have HIC := Aside0.mk hic
            have HSZ0 := Aside0.mk hsz0
            have HSZL := Aside0.mk hszl
            have hit : decide (((p + i : Nat) : Int) < (cols.length : Int)) = true := decide_eq_true (Int.ofNat_lt.2 hic)
            have hit2 : decide (p + i < cols.length) = true := decide_eq_true hic
            obtain ⟨c, hc⟩ : ∃ c, c = p + i := ⟨_, rfl⟩
            have HCI := Aside0.mk hc
            rw [← hc] at hit hit2 hic HSZ ⊢
            have hb0_ : ((0 : Int) ≤ (c : Int)) = True := eq_true (Int.natCast_nonneg c)
            have hb1_ : ((c : Int) < (cols.length : Int)) = True := eq_true (Int.ofNat_lt.2 hic)
            have hb2_ : (c < cols.length) = True := eq_true hic
            have hHSB : Aside0 ((Try.prog.info? 81).map (·.size) = some 3) := ⟨by kernel_rfl⟩
            clear hcl hcnt hcp hsu hsl hsz hsz0 hszl hoz hx hox hxl hcr hcc hi hz0 hz1 hz2 hAr2 hwi hc hic
            go_upto_region 11 with (fail)
            clear hit hit2
            (refine start_ (n := 16) (S := (fun w_ => SL w w_ [rowA (Kd.slice 5 (Kd.int .u8)) 45 (.slice (some ⟨go, 0, none⟩) cols.length co) (outL p cols.length own i), sA (Kd.slice 5 (Kd.int .u8)) 45 u14 ((own.take i).map (fillRow long)), rowA (Kd.int .u8) 5 (.slice (some ⟨gr, 0, none⟩) NN cr) full, blkA gb #[.slice Ac cols.length cc, .int .i64 pr, .int .i64 (long : Int)] 81, rowA k87 87 (.slice Ac cols.length cc) cols])) (ds := [14]) #[false, false, false, false, false, false, false, false, false, false, false, false, false, false, false, false] (by kernel_rfl) rfl rfl (by repeat (first | (with_reducible first | exact HS.out | apply Sep.SL.drewN | apply Sep.SL.drew | apply Sep.SL.alloc | apply below_drew1) | exact HS.out)) (fun hHeld => ?_); clear HS; have HS := Aside0.mk hHeld; clear hHeld; generalize World.drew _ = wr_ at HS ⊢)
            (refine pure_ (i := 0) (N := some 49) (v := ?_) (a' := ?_) #[true, false, false, false, false, false, false, false, false, false, false, false, false, false, false, false] rfl rfl (by kernel_rfl) (fun _ _ _ h => h) (Or.inl ⟨by rfl, ?_⟩) ?_ ?_; rotate_left; (intro w_; go_simp; with_reducible rfl); rotate_left; (simp only [Act.put, List.setIfInBounds_toArray, List.set_cons_zero, List.set_cons_succ, i64_w, i32_w]; rfl))
            (refine pure_ (i := 1) (N := some 50) (v := ?_) (a' := ?_) #[true, true, false, false, false, false, false, false, false, false, false, false, false, false, false, false] rfl rfl (by kernel_rfl) (fun _ _ _ h => h) (Or.inl ⟨by rfl, ?_⟩) ?_ ?_; rotate_left; (intro w_; go_simp; with_reducible rfl); rotate_left; (simp only [Act.put, List.setIfInBounds_toArray, List.set_cons_zero, List.set_cons_succ, i64_w, i32_w]; rfl))
            (refine pure_ (i := 2) (N := some 51) (v := ?_) (a' := ?_) #[true, true, true, false, false, false, false, false, false, false, false, false, false, false, false, false] rfl rfl (by kernel_rfl) (fun _ _ _ h => h) (Or.inl ⟨by rfl, ?_⟩) ?_ ?_; rotate_left; (intro w_; go_simp; with_reducible rfl); rotate_left; (simp only [Act.put, List.setIfInBounds_toArray, List.set_cons_zero, List.set_cons_succ, i64_w, i32_w]; rfl))
            (refine take_ (i := 3) (N := some 52) (v := .agg #[.slice Ac cols.length cc, .int .i64 pr, .int .i64 (long : Int)]) (a' := ?_) #[true, true, true, true, false, false, false, false, false, false, false, false, false, false, false, false] rfl rfl (by kernel_rfl) (fun _ _ _ h => h) (yields_row (by rfl) 81 (.tmp 10) rfl gb rfl 81 #[.slice Ac cols.length cc, .int .i64 pr, .int .i64 (long : Int)] (0, 0) _ (fun w_ hS_ => Sep.SL.blk hS_ 3 rfl) hu rfl hHSB.out) HS.out ?_ ?_; rotate_left; (simp only [Act.put, List.setIfInBounds_toArray, List.set_cons_zero, List.set_cons_succ, i64_w, i32_w]; rfl))
            (refine pure_ (i := 4) (N := some 53) (v := ?_) (a' := ?_) #[true, true, true, true, true, false, false, false, false, false, false, false, false, false, false, false] rfl rfl (by kernel_rfl) (fun _ _ _ h => h) (Or.inl ⟨by rfl, ?_⟩) ?_ ?_; rotate_left; (intro w_; go_simp; with_reducible rfl); rotate_left; (simp only [Act.put, List.setIfInBounds_toArray, List.set_cons_zero, List.set_cons_succ, i64_w, i32_w]; rfl))
            (refine pure_ (i := 8) (N := some 57) (v := ?_) (a' := ?_) #[true, true, true, true, true, false, false, false, true, false, false, false, false, false, false, false] rfl rfl (by kernel_rfl) (fun _ _ _ h => h) (Or.inl ⟨by rfl, ?_⟩) ?_ ?_; rotate_left; (intro w_; go_simp; with_reducible rfl); rotate_left; (simp only [Act.put, List.setIfInBounds_toArray, List.set_cons_zero, List.set_cons_succ, i64_w, i32_w]; rfl))
            (refine take_ (i := 9) (N := some 58) (v := .agg #[.slice Ac cols.length cc, .int .i64 pr, .int .i64 (long : Int)]) (a' := ?_) #[true, true, true, true, true, false, false, false, true, true, false, false, false, false, false, false] rfl rfl (by kernel_rfl) (fun _ _ _ h => h) (yields_row (by rfl) 81 (.tmp 10) rfl gb rfl 81 #[.slice Ac cols.length cc, .int .i64 pr, .int .i64 (long : Int)] (0, 0) _ (fun w_ hS_ => Sep.SL.blk hS_ 3 rfl) hu rfl hHSB.out) HS.out ?_ ?_; rotate_left; (simp only [Act.put, List.setIfInBounds_toArray, List.set_cons_zero, List.set_cons_succ, i64_w, i32_w]; rfl))
            (refine pure_ (i := 10) (N := some 59) (v := ?_) (a' := ?_) #[true, true, true, true, true, false, false, false, true, true, true, false, false, false, false, false] rfl rfl (by kernel_rfl) (fun _ _ _ h => h) (Or.inl ⟨by rfl, ?_⟩) ?_ ?_; rotate_left; (intro w_; go_simp; with_reducible rfl); rotate_left; (simp only [Act.put, List.setIfInBounds_toArray, List.set_cons_zero, List.set_cons_succ, i64_w, i32_w]; rfl))
            (refine one_ (i := 5) (N := some 54) #[true, true, true, true, true, true, false, false, true, true, true, false, false, false, false, false] rfl rfl (by kernel_rfl) (by decide) (fun K hK => ?_); refine goes_ Try.func66 (by kernel_rfl) rfl #[.agg #[.slice Ac cols.length cc, .int .i64 pr, .int .i64 (long : Int)], .int .i64 (c : Int)] (by rfl) rfl rfl (by simp only [List.map_toArray, List.map_cons, List.map_nil]; rfl) ?_; refine (HSZ.out _ (HS.out.C 4 rfl)).mono ?_; (rintro e w5 ⟨rfl, hb_⟩; have n1_ := Aside0.mk (HS.out.ext hb_); clear HS hb_; have HS := n1_; clear n1_); refine ⟨(.int .i64 (sz : Int)), rfl, ?_⟩; refine hK.out _ _ HS.out (fun hHeld => ?_); clear hK K hHeld; refine norm_ (a' := ?_) ?_ ?_; rotate_left; (show Act.put _ (some 54) _ = _; simp only [Act.put, List.setIfInBounds_toArray, List.set_cons_zero, List.set_cons_succ, i64_w, i32_w]; rfl))
            (refine pure_ (i := 6) (N := some 55) (v := ?_) (a' := ?_) #[true, true, true, true, true, true, true, false, true, true, true, false, false, false, false, false] rfl rfl (by kernel_rfl) (fun _ _ _ h => h) (Or.inl ⟨by rfl, ?_⟩) ?_ ?_; rotate_left; (intro w_; go_simp; with_reducible rfl); rotate_left; (simp only [Act.put, List.setIfInBounds_toArray, List.set_cons_zero, List.set_cons_succ, i64_w, i32_w]; rfl))
            (refine one_ (i := 7) (N := some 56) #[true, true, true, true, true, true, true, true, true, true, true, false, false, false, false, false] rfl rfl (by kernel_rfl) (by decide) (fun K hK => ?_); refine goes_ Try.func65 (by kernel_rfl) rfl #[.slice (some ⟨gr, o, none⟩) sz (cr - o)] (by rfl) rfl rfl (by simp only [List.map_toArray, List.map_cons, List.map_nil]; rfl) ?_; refine (HCL.out _ (by rw [HFN.out]; exact HFN.out ▸ HS.out.C 2 rfl)).mono ?_; (rintro e w6 ⟨vn, rfl, hr_, hb_⟩; obtain ⟨An, cn, e1_⟩ := Kd.R_slice hr_; subst e1_; have HN2 := Aside0.mk (HS.out.newRow hb_ hr_); clear HS hb_ hr_; have HS := Aside0.mk HN2.out.drop); refine ⟨(.slice An x.length cn), rfl, ?_⟩; refine hK.out _ _ HS.out (fun hHeld => ?_); clear hK K hHeld; refine norm_ (a' := ?_) ?_ ?_; rotate_left; (show Act.put _ (some 56) _ = _; simp only [Act.put, List.setIfInBounds_toArray, List.set_cons_zero, List.set_cons_succ, i64_w, i32_w]; rfl))
            (refine one_ (i := 11) (N := some 60) #[true, true, true, true, true, true, true, true, true, true, true, true, false, false, false, false] rfl rfl (by kernel_rfl) (by decide) (fun K hK => ?_); refine goes_ Try.func66 (by kernel_rfl) rfl #[.agg #[.slice Ac cols.length cc, .int .i64 pr, .int .i64 (long : Int)], .int .i64 (c : Int)] (by rfl) rfl rfl (by simp only [List.map_toArray, List.map_cons, List.map_nil]; rfl) ?_; refine (HSZ.out _ (HS.out.C 4 rfl)).mono ?_; (rintro e w7 ⟨rfl, hb_⟩; have n1_ := Aside0.mk (HS.out.ext hb_); have n2_ := Aside0.mk (HN2.out.ext hb_); clear HS HN2 hb_; have HS := n1_; have HN2 := n2_; clear n1_ n2_); refine ⟨(.int .i64 (sz : Int)), rfl, ?_⟩; refine hK.out _ _ HS.out (fun hHeld => ?_); clear hK K hHeld; refine norm_ (a' := ?_) ?_ ?_; rotate_left; (show Act.put _ (some 60) _ = _; simp only [Act.put, List.setIfInBounds_toArray, List.set_cons_zero, List.set_cons_succ, i64_w, i32_w]; rfl))
            (refine pure_ (i := 12) (N := some 61) (v := ?_) (a' := ?_) #[true, true, true, true, true, true, true, true, true, true, true, true, true, false, false, false] rfl rfl (by kernel_rfl) (fun _ _ _ h => h) (Or.inl ⟨by rfl, ?_⟩) ?_ ?_; rotate_left; (intro w_; go_simp; with_reducible rfl); rotate_left; (simp only [Act.put, List.setIfInBounds_toArray, List.set_cons_zero, List.set_cons_succ, i64_w, i32_w]; rfl))
            (refine pure_ (i := 13) (N := some 62) (v := ?_) (a' := ?_) #[true, true, true, true, true, true, true, true, true, true, true, true, true, true, false, false] rfl rfl (by kernel_rfl) (fun _ _ _ h => h) (Or.inl ⟨by rfl, ?_⟩) ?_ ?_; rotate_left; (intro w_; go_simp; with_reducible rfl); rotate_left; (simp only [Act.put, List.setIfInBounds_toArray, List.set_cons_zero, List.set_cons_succ, i64_w, i32_w]; rfl))
            have hlo := outL_len p cols.length own i HOL.out (by have := HIC.out; omega) HPN.out
            obtain ⟨uc_, hy1_, hy2_⟩ := rows_cell HN2.out 1 rfl c (by rw [hlo]; have := HIC.out; have := HCI.out; omega)
            clear hlo
            
            (refine last_ (i := 14) (N := none) #[true, true, true, true, true, true, true, true, true, true, true, true, true, true, true, false] rfl rfl (by kernel_rfl) (by decide) (fun K hK => ?_); (go_simp); refine hK.out _ _ ?_; clear hK K)
            (refine pure_ (i := 15) (N := some 12) (v := ?_) (a' := ?_) #[true, true, true, true, true, true, true, true, true, true, true, true, true, true, true, true] rfl rfl (by kernel_rfl) (fun _ _ _ h => h) (Or.inl ⟨by rfl, ?_⟩) ?_ ?_; rotate_left; (intro w_; go_simp; with_reducible rfl); rotate_left; (simp only [Act.put, List.setIfInBounds_toArray, List.set_cons_zero, List.set_cons_succ, i64_w, i32_w]; rfl))
            refine done_ (by kernel_rfl) ?_
            have hset : (outL p cols.length own i).set c x = outL p cols.length own (i + 1) := by rw [HCI.out]; exact outL_set p cols.length own i x HOL.out HIC.out HOX.out
            have hps := SL.rowStore HN2.out.swap c (by rw [outL_len p cols.length own i HOL.out (by have := HIC.out; omega) HPN.out]; have := HIC.out; have := HCI.out; omega)
            rw [hset] at hps
            have hcx := World.cell?_setCell_same' w7 ⟨go, c, none⟩ (.slice An x.length cn) (by rw [hy1_]; rfl)
            have HSF := Aside0.mk hps
            have HCX := Aside0.mk hcx
            clear hps hcx hset hy1_ hy2_ HN2 HS
            generalize World.setCell _ _ _ = w8 at HSF HCX ⊢
            have hfi := fun (W : World) (hS : SL w W [rowA (Kd.slice 5 (Kd.int .u8)) 45 (.slice (some ⟨go, 0, none⟩) cols.length co) (outL p cols.length own (i + 1)), rowA (Kd.int .u8) 5 (.slice (some ⟨gr, 0, none⟩) NN cr) full, blkA gb #[.slice Ac cols.length cc, .int .i64 pr, .int .i64 (long : Int)] 81, rowA k87 87 (.slice Ac cols.length cc) cols] ∧ W.cell? ⟨go, c, none⟩ = some (.slice An x.length cn)) => fill_of (c := c) (l0 := outL p cols.length own (i + 1)) hS.1 0 rfl hS.2 (by rw [outL_len p cols.length own (i + 1) HOL.out (by have := HIC.out; omega) HPN.out]; have := HIC.out; have := HCI.out; omega) (outL_at p cols.length own i c x HCI.out HOL.out HIC.out HOX.out) (.slice Ac cols.length cc) rfl pr long (by rw [HXL.out]; exact HSZL.out) HLG1.out (by have := HLG2.out; omega)
            have HFI := Aside0.mk hfi
            clear hfi
            go_upto_region 12 with (fail)
            (refine start_ (n := 10) (S := (fun w_ => SL w w_ [rowA (Kd.slice 5 (Kd.int .u8)) 45 (.slice (some ⟨go, 0, none⟩) cols.length co) (outL p cols.length own (i + 1)), rowA (Kd.int .u8) 5 (.slice (some ⟨gr, 0, none⟩) NN cr) full, blkA gb #[.slice Ac cols.length cc, .int .i64 pr, .int .i64 (long : Int)] 81, rowA k87 87 (.slice Ac cols.length cc) cols] ∧ w_.cell? ⟨go, c, none⟩ = some (.slice An x.length cn))) (ds := [8]) #[false, false, false, false, false, false, false, false, false, false] (by kernel_rfl) rfl rfl ⟨(HSF.out.drew.front 1 rfl).drop, HCX.out⟩ (fun hHeld => ?_); have HS := Aside0.mk hHeld; clear hHeld; have HSG := Aside0.mk HSF.out.drew; clear HSF; have HSF := HSG; clear HSG; generalize World.drew _ = wr_ at HS HSF ⊢)
            (refine pure_ (i := 0) (N := some 63) (v := ?_) (a' := ?_) #[true, false, false, false, false, false, false, false, false, false] rfl rfl (by kernel_rfl) (fun _ _ _ h => h) (Or.inl ⟨by rfl, ?_⟩) ?_ ?_; rotate_left; (intro w_; go_simp; with_reducible rfl); rotate_left; (simp only [Act.put, List.setIfInBounds_toArray, List.set_cons_zero, List.set_cons_succ, i64_w, i32_w]; rfl))
            (refine take_ (i := 1) (N := some 64) (v := .agg #[.slice Ac cols.length cc, .int .i64 pr, .int .i64 (long : Int)]) (a' := ?_) #[true, true, false, false, false, false, false, false, false, false] rfl rfl (by kernel_rfl) (fun _ _ _ h => h) (yields_row (by rfl) 81 (.tmp 10) rfl gb rfl 81 #[.slice Ac cols.length cc, .int .i64 pr, .int .i64 (long : Int)] (0, 0) _ (fun w_ hS_ => Sep.SL.blk hS_.1 2 rfl) hu rfl hHSB.out) HS.out ?_ ?_; rotate_left; (simp only [Act.put, List.setIfInBounds_toArray, List.set_cons_zero, List.set_cons_succ, i64_w, i32_w]; rfl))
            (refine pure_ (i := 2) (N := some 65) (v := ?_) (a' := ?_) #[true, true, true, false, false, false, false, false, false, false] rfl rfl (by kernel_rfl) (fun _ _ _ h => h) (Or.inl ⟨by rfl, ?_⟩) ?_ ?_; rotate_left; (intro w_; go_simp; with_reducible rfl); rotate_left; (simp only [Act.put, List.setIfInBounds_toArray, List.set_cons_zero, List.set_cons_succ, i64_w, i32_w]; rfl))
            (refine pure_ (i := 3) (N := some 66) (v := ?_) (a' := ?_) #[true, true, true, true, false, false, false, false, false, false] rfl rfl (by kernel_rfl) (fun _ _ _ h => h) (Or.inl ⟨by rfl, ?_⟩) ?_ ?_; rotate_left; (intro w_; go_simp; with_reducible rfl); rotate_left; (simp only [Act.put, List.setIfInBounds_toArray, List.set_cons_zero, List.set_cons_succ, i64_w, i32_w]; rfl))
            (refine pure_ (i := 4) (N := some 67) (v := ?_) (a' := ?_) #[true, true, true, true, true, false, false, false, false, false] rfl rfl (by kernel_rfl) (fun _ _ _ h => h) (Or.inl ⟨by rfl, ?_⟩) ?_ ?_; rotate_left; (intro w_; go_simp; with_reducible rfl); rotate_left; (simp only [Act.put, List.setIfInBounds_toArray, List.set_cons_zero, List.set_cons_succ, i64_w, i32_w]; rfl))
            (refine take_ (i := 5) (N := some 68) (v := (.slice An x.length cn)) (a' := ?_) #[true, true, true, true, true, true, false, false, false, false] rfl rfl (by kernel_rfl) (fun _ _ _ h => h) (Or.inl ⟨by rfl, ?_⟩) HS.out ?_ ?_; (intro w_ hS_; (have hx_ := hS_.2; go_simp)); rotate_left; (simp only [Act.put, List.setIfInBounds_toArray, List.set_cons_zero, List.set_cons_succ, i64_w, i32_w]; rfl))
            (refine one_ (i := 6) (N := some 69) #[true, true, true, true, true, true, true, false, false, false] rfl rfl (by kernel_rfl) (by decide) (fun K hK => ?_); refine goes_ Try.func67 (by kernel_rfl) rfl #[.agg #[.slice Ac cols.length cc, .int .i64 pr, .int .i64 (long : Int)], .slice An x.length cn] (by rfl) rfl rfl (by simp only [List.map_toArray, List.map_cons, List.map_nil]; rfl) ?_; refine (HFI.out _ HS.out).mono ?_; (rintro e w9 ⟨vf, rfl, hr_, hb_⟩; obtain ⟨Af, cf, e1_⟩ := Kd.R_slice hr_; subst e1_; have HN3 := Aside0.mk (HSF.out.newRow hb_ hr_); have HS2_ : Aside0 (_ ∧ _) := Aside0.mk (And.intro (HS.out.1.ext hb_) ((hb_.cell (World.block_lt_of_cell? _ _ HS.out.2)).trans HS.out.2)); clear HS HSF hb_ hr_; have HS := HS2_; clear HS2_); refine ⟨(.slice Af (fillRow long x).length cf), rfl, ?_⟩; refine hK.out _ _ HS.out (fun hHeld => ?_); clear hK K hHeld; refine norm_ (a' := ?_) ?_ ?_; rotate_left; (show Act.put _ (some 69) _ = _; simp only [Act.put, List.setIfInBounds_toArray, List.set_cons_zero, List.set_cons_succ, i64_w, i32_w]; rfl))
            refine one_ (i := 7) (N := some 70) #[true, true, true, true, true, true, true, true, false, false] rfl rfl (by kernel_rfl) (by decide) (fun K hK => ?_)
            go_simp
            refine hK.out _ _ ⟨HS.out.1.alloc _, (World.cell?_alloc_lt _ _ _ (World.block_lt_of_cell? _ _ HS.out.2)).trans HS.out.2⟩ (fun hHeld => ?_)
            clear hK K hHeld HS
            refine last_ (i := 8) (N := some 71) #[true, true, true, true, true, true, true, true, true, false] rfl rfl (by kernel_rfl) (by decide) (fun K hK => ?_)
            (with_reducible apply append_srow_step (d := Kd.int .u8) (e' := 5) (t := 38) (e := 45) (s := .tmp 63) (x := .tmp 70) (p := fillRow long x)); (case hSL => exact HN3.out.front 2 rfl); (case hgd => exact rfl); (case ho => exact rfl); (case ht => exact Try.underlying38); (case hinfo => exact infoB1); (case hz => exact rfl); (case hb0 => exact Nat.succ_pos 23); (case hs => exact rfl); (case hx => exact rfl); (case hl => rw [List.length_map, List.length_take]; have := HN64.out; have := HIC.out; omega)
            intro v1_ w1_ hs_
            have HN4 := Aside0.mk hs_
            clear hs_ HN3
            refine hK.out _ _ ?_
            clear hK K
            (refine pure_ (i := 9) (N := some 14) (v := ?_) (a' := ?_) #[true, true, true, true, true, true, true, true, true, true] rfl rfl (by kernel_rfl) (fun _ _ _ h => h) (Or.inl ⟨by rfl, ?_⟩) ?_ ?_; rotate_left; (intro w_; go_simp; with_reducible rfl); rotate_left; (simp only [Act.put, List.setIfInBounds_toArray, List.set_cons_zero, List.set_cons_succ, i64_w, i32_w]; rfl))
            refine done_ (by kernel_rfl) ?_
            have hmp : (own.take i).map (fillRow long) ++ [fillRow long x] = (own.take (i + 1)).map (fillRow long) := map_next own i (fillRow long) x HOX.out
            have hn4 := HN4.out.swap
            rw [hmp] at hn4
            have HS := Aside0.mk hn4
            clear HN4 hmp hn4
            have hwc : wrap64 ((c : Int) + 1) = ((p + (i + 1) : Nat) : Int) := by rw [HCI.out]; exact HWI.out
            have HWC := Aside0.mk hwc
            clear hwc hb0_ hb1_ hb2_ hcutH hcutL
            go_wp2_with (fail)
            go_roundg g1
            case measure => exact Nat.lt_succ_self _
            case rel => exact ⟨i + 1, o + sz, Ar2, rfl, congrArg (Value.int .i64) HWC.out, HIK.out, HO2, HAR2, HS⟩
        --POOL
      · rw [if_neg hpl] at h; cases h
    · rw [if_neg hg] at h; cases h
  · rw [if_neg hcode] at h
    replace h := Option.some.inj h
    simp only [Prod.mk.injEq] at h
    obtain ⟨rfl, rfl⟩ := h
    have hne0 : ((code : Int) != 0) = true := bne_iff_ne.2 hcode
    have hne1 : (code == 0) = false := beq_eq_false_iff_ne.2 hcode
    clear hcode hr0
    go_enter Try.func29, Try.ntmps29
    go_upto_region 2 with (go_at_call 63; (with_reducible refine (HSH.out _).mono ?_); rintro e w1 ⟨vc, rfl, hR_, hb_⟩; obtain ⟨Ac, cc, e1_⟩ := Kd.R_slice hR_; subst e1_; have HBW := Aside0.mk hb_; clear hR_ hb_)
    have HF := Aside0.mk (below_alloc HBW.out (.cells #[.slice Ac cols.length cc, .int .i64 pr, .int .i64 long0] 81))
    generalize World.alloc _ _ = w2 at HF ⊢
    go_wp2_with (fail)
    go_ret2
    exact ⟨_, rfl, Kd.R_nil _ _ _ _ _, HF.out⟩
end Go.Proofs.Ytpaenlplpaabjaa.QStripeLays
