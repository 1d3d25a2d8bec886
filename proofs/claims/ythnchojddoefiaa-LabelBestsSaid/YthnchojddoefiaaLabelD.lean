/- The function number of package label's reader, walked; no conditions. -/
import Derived.Test.YthnchojddoefiaaLabelW
import Derived.Laws.BitsLemmas
import Derived.Laws.Rows
import Derived.Laws.Tables
import Derived.Deep.WholeRow
set_option linter.unusedVariables false
set_option linter.unusedSimpArgs false
namespace Go.Proofs.Ythnchojddoefiaa.QLabelBests
open Go.RowKit Go.Proofs.YthnchojddoefiaaW.PrintWords Go.Proofs.YthnchojddoefiaaW.PrintLast Go.Proofs.YthnchojddoefiaaW.PrintMore
open Go.Proofs.Ythnchojddoefiaa.Sep Go.Proofs.Ythnchojddoefiaa.Flet
def numB : List Int → Int
  | [] => 0
  | x :: l => x + 256 * numB l
theorem or_low (m x : Int) (hm : m % 256 = 0) (h0 : -9223372036854775808 ≤ m) (h1 : m ≤ 9223372036854775807) (hx : 0 ≤ x) (hx1 : x < 256) : Go.bits .or .i64 m x = m + x := by
  show IntKind.i64.wrap ((BitVec.ofInt 64 m ||| BitVec.ofInt 64 x).toNat : Int) = _
  rw [BitVec.toNat_or, BitVec.toNat_ofInt, BitVec.toNat_ofInt]
  have hX : (x % ((2 ^ 64 : Nat) : Int)).toNat = x.toNat := by rw [Int.emod_eq_of_lt hx (by omega)]
  obtain ⟨q, hq⟩ : ∃ q : Nat, (m % ((2 ^ 64 : Nat) : Int)).toNat = 2 ^ 8 * q := ⟨(m % ((2 ^ 64 : Nat) : Int)).toNat / 256, by omega⟩
  rw [hX, hq, ← Nat.two_pow_add_eq_or_of_lt (show x.toNat < 2 ^ 8 by omega), ← hq, IntKind.wrap_i64]
  omega
theorem or_step (N x : Int) (hx : 0 ≤ x) (hx1 : x < 256) : Go.bits .or .i64 (wrap64 (wrap64 N * 256)) x = wrap64 (x + 256 * N) := by
  rw [← i64_w (wrap64 N * 256), or_low _ _ (by rw [IntKind.wrap_i64]; omega) (by rw [IntKind.wrap_i64]; omega) (by rw [IntKind.wrap_i64]; omega) hx hx1, IntKind.wrap_i64]
  unfold wrap64
  omega
set_option maxHeartbeats 1000000 in
set_option maxRecDepth 100000 in
theorem number_calls {w0 w : World} {F : List Asn} (h : SL w0 w F) (kr gr n c size : Nat) (A : Option Addr) (xs : List Int) (hk : F[kr]? = some (blkA gr #[.slice A n c] 96)) (hR : ReadsInt w0 .u8 A n xs) (hb : ∀ x ∈ xs, 0 ≤ x ∧ x ≤ 255) (hs : size ≤ n) (hs0 : 0 < size) (hs8 : size ≤ 8) (hnc : n ≤ c) :
    Calls Try.prog 56 #[.pointer (some ⟨gr, 0, none⟩), .int .i64 (size : Int)] w fun e w' => e = .returned (.int .i64 (wrap64 (numB (xs.take size)))) ∧ ∃ A' : Option Addr, SL w0 w' (F.set kr (blkA gr #[.slice A' (n - size) (c - size)] 96)) ∧ ReadsInt w0 .u8 A' (n - size) (xs.drop size) := by
  have hkl : kr < F.length := (List.getElem?_eq_some_iff.1 hk).1
  have HS := Aside0.mk (h.imp (A' := blkA gr #[.slice A n c] 96) kr hk (fun S h => h))
  have HKL := Aside0.mk hkl
  have HR := Aside0.mk hR
  have HB := Aside0.mk hb
  obtain ⟨i0, hi, hz0, hz1, hz2⟩ := info_parts infoB
  obtain ⟨A1, hcut, hA1⟩ := print_cut (P := Try.prog) 96 5 .i64 Try.underlying96 hi hz1 A n c size hs
  have hcut' : ∀ W : World, (Instr.slice 96 (.slice A n c) (some (.int .i64 (size : Int))) none none).run Try.prog W = .ok (.slice A1 (n - size) (c - size)) W := hcut
  have HA1 := Aside0.mk (hA1 w0 .u8 xs hnc hR)
  clear h hk hkl hR hb hi hz0 hz1 hz2 hcut hA1
  have hw0_ : wrap64 ((size : Int) - 1) = (size : Int) - 1 := by unfold wrap64; omega
  have hur := Try.underlying96
  go_enter Try.func56, Try.ntmps56
  go_upto_region 3 with (fail)
  go_loopg [5, 6] size (fun kq v5 v6 wr => ∃ i : Int, v6 = .int .i64 i ∧ i + 1 = (kq : Int) ∧ v5 = .int .i64 (wrap64 (numB ((xs.take size).drop kq))) ∧ kq ≤ size ∧ Aside0 (SL w0 wr (F.set kr (blkA gr #[.slice A n c] 96))))
  case atStart => exact ⟨_, rfl, by omega, by rw [List.drop_eq_nil_of_le (by rw [List.length_take]; omega)]; show _ = Value.int .i64 (wrap64 0); rw [show wrap64 0 = 0 from by unfold wrap64; omega], Nat.le_refl _, by repeat (first | exact HS | exact Aside0.mk (by repeat (first | (with_reducible first | exact HS.out | apply Sep.SL.drewN | apply Sep.SL.drew | apply Sep.SL.alloc) | exact HS.out)))⟩
  case round =>
    clear HS
    obtain ⟨i, rfl, hik, rfl, hkq, HS⟩ := hrel
    have hz := HS.out.c0 kr (List.getElem?_set_self HKL.out)
    cases gk with
    | zero =>
      have hi1 : i = -1 := by omega
      subst hi1
      clear hik
      have HP := Aside0.mk (HS.out.put kr (List.getElem?_set_self HKL.out) 0 (.slice A1 (n - size) (c - size)))
      go_wp2_with (fail)
      go_ret
      have h1 := HP.out
      rw [List.set_set] at h1
      exact ⟨rfl, A1, h1, HA1.out⟩
    | succ g1 =>
      have hi1 : i = (g1 : Int) := by omega
      subst hi1
      clear hik
      have hit : decide ((g1 : Int) ≥ 0) = true := decide_eq_true (by omega)
      obtain ⟨ad, rfl, hx⟩ := HR.out.at_ (g1 : Int) (by omega) (by omega)
      have hx := (HS.out.1.cell (World.block_lt_of_cell? w0 _ hx)).trans hx
      rw [Int.toNat_natCast] at hx
      have hlen : xs.length = n := HR.out.1
      have hdr : (xs.take size).drop g1 = rd xs (g1 : Int) :: (xs.take size).drop (g1 + 1) := by
        rw [List.drop_eq_getElem_cons (by rw [List.length_take]; omega), List.getElem_take]
        congr 1
        show _ = xs.getD ((g1 : Nat) : Int).toNat 0
        rw [Int.toNat_natCast, List.getD_eq_getElem?_getD, List.getElem?_eq_getElem (by omega)]
        rfl
      have hby : 0 ≤ rd xs (g1 : Int) ∧ rd xs (g1 : Int) ≤ 255 := by
        refine HB.out _ ?_
        show xs.getD ((g1 : Nat) : Int).toNat 0 ∈ xs
        rw [Int.toNat_natCast, List.getD_eq_getElem?_getD, List.getElem?_eq_getElem (by omega)]
        exact List.getElem_mem _
      have hor := or_step (numB ((xs.take size).drop (g1 + 1))) (rd xs (g1 : Int)) hby.1 (by omega)
      have hnx : wrap64 (numB ((xs.take size).drop g1)) = wrap64 (rd xs (g1 : Int) + 256 * numB ((xs.take size).drop (g1 + 1))) := by rw [hdr]; rfl
      rw [← hnx] at hor
      have hwx : IntKind.i64.wrap (rd xs (g1 : Int)) = rd xs (g1 : Int) := by rw [IntKind.wrap_i64]; omega
      have hlt_ : ((g1 : Int) < (n : Int)) = True := eq_true (by omega)
      have hlt2_ : (g1 < n) = True := eq_true (by omega)
      have hg0_ : ((0 : Int) ≤ (g1 : Int)) = True := eq_true (by omega)
      have hw1_ : wrap64 ((g1 : Int) - 1) = (g1 : Int) - 1 := by have := hlt_; unfold wrap64; omega
      clear hdr hby hnx hlen
      generalize rd xs (g1 : Int) = x at hx hor hwx
      generalize wrap64 (numB ((xs.take size).drop (g1 + 1))) = m at hor ⊢
      generalize hm2 : wrap64 (numB ((xs.take size).drop g1)) = m2 at hor
      have HM2 := Aside0.mk hm2
      clear hm2
      go_wp2_with (fail)
      go_roundg g1
      case measure => omega
      case rel => exact ⟨(g1 : Int) - 1, rfl, by omega, by rw [HM2.out], by omega, Aside0.mk (by repeat (first | (with_reducible first | exact HS.out | apply Sep.SL.drewN | apply Sep.SL.drew | apply Sep.SL.alloc) | exact HS.out))⟩
def dec4 (l : List Int) (i : Nat) : Int := wrap64 (numB ((l.drop (4 * i)).take 4))
def dec8 (l : List Int) (o : Nat) : Int := wrap64 (numB ((l.drop o).take 8))
theorem number4 {w0 w : World} {F : List Asn} (h : SL w0 w F) (kr gr c : Nat) (A : Option Addr) (l : List Int) (i n p n' c' : Nat) (hn : n = 128 - 4 * i) (hp : p = c - 4 * i) (hk : F[kr]? = some (blkA gr #[.slice A n p] 96)) (hR : ReadsInt w0 .u8 A n (l.drop (4 * i))) (hb : ∀ x ∈ l, 0 ≤ x ∧ x ≤ 255) (hi : i < 9) (hc : 128 ≤ c) (hn' : n' = 128 - 4 * (i + 1)) (hc' : c' = c - 4 * (i + 1)) :
    Calls Try.prog 56 #[.pointer (some ⟨gr, 0, none⟩), .int .i64 4] w fun e w' => e = .returned (.int .i64 (dec4 l i)) ∧ ∃ A' : Option Addr, SL w0 w' (F.set kr (blkA gr #[.slice A' n' c'] 96)) ∧ ReadsInt w0 .u8 A' n' (l.drop (4 * (i + 1))) := by
  have h1 := number_calls h kr gr n p 4 A (l.drop (4 * i)) hk hR (fun x hx => hb x (List.mem_of_mem_drop hx)) (by omega) (by decide) (by decide) (by omega)
  rw [List.drop_drop, show 4 * i + 4 = 4 * (i + 1) from by omega, show n - 4 = n' from by omega, show p - 4 = c' from by omega] at h1
  exact h1
theorem number8 {w0 w : World} {F : List Asn} (h : SL w0 w F) (kr gr c : Nat) (A : Option Addr) (l : List Int) (o n p n' c' : Nat) (hn : n = 128 - o) (hp : p = c - o) (hk : F[kr]? = some (blkA gr #[.slice A n p] 96)) (hR : ReadsInt w0 .u8 A n (l.drop o)) (hb : ∀ x ∈ l, 0 ≤ x ∧ x ≤ 255) (ho : o + 8 ≤ 128) (hc : 128 ≤ c) (hn' : n' = 128 - (o + 8)) (hc' : c' = c - (o + 8)) :
    Calls Try.prog 56 #[.pointer (some ⟨gr, 0, none⟩), .int .i64 8] w fun e w' => e = .returned (.int .i64 (dec8 l o)) ∧ ∃ A' : Option Addr, SL w0 w' (F.set kr (blkA gr #[.slice A' n' c'] 96)) ∧ ReadsInt w0 .u8 A' n' (l.drop (o + 8)) := by
  have h1 := number_calls h kr gr n p 8 A (l.drop o) hk hR (fun x hx => hb x (List.mem_of_mem_drop hx)) (by omega) (by decide) (by decide) (by omega)
  rw [List.drop_drop, show n - 8 = n' from by omega, show p - 8 = c' from by omega] at h1
  exact h1
def badR (e : Int) : Int × Int × Int × Int × Int × Int × Int × Int × Int × Int × Int × Int × Int × Int := (0, 0, 0, 0, 0, 0, 0, 0, 0, 0, 0, 0, 0, e)
theorem sl_setRow {w0 w : World} {F : List Asn} {g t : Nat} {cs : Array Value} (h : SL w0 w F) (k : Nat) (hk : F[k]? = some (blkA g cs t)) (cs' : Array Value) : SL w0 (w.setRow g cs') (F.set k (blkA g cs' t)) :=
  h.upd k hk (fun S hS hA => ⟨Wrote.setRow hA.1 _, .inl hA.1, hA.2.1, setRow_heap w g _ _ t _ hA.2.2⟩)
theorem results_cell_tmp {P : Program} {fn : Func} {p q : Tmp} {ty : TypeId} (h : fn.results = #[.cell p ty, .tmp q]) (tmps : Array Value) (w : World) (g : Nat) (t : TypeId) (cs : Array Value) (fr : Nat × Nat) (d : TypeDesc)
    (hp : tmps.getD p undef = .pointer (some ⟨g, 0, none⟩)) (hg : w.heap[g]? = some (.cells cs t fr)) (v : Value) (hv : tmps.getD q undef = v)
    (hu : P.underlying ty = some d) (hd : (match d with | .struct _ | .array _ _ => true | _ => false) = true) (hi : (P.info? ty).map (·.size) = some cs.size) :
    (results fn tmps).run P w = .ok (.tuple #[.agg cs, v]) w := by
  have hp' : tmps[p]?.getD undef = .pointer (some ⟨g, 0, none⟩) := by simpa using hp
  have hv' : tmps[q]?.getD undef = v := by simpa using hv
  simp [results, h, hp', hv', asAddr, run_loadVar_row w g t ty cs fr d hg hu hd hi]
def puts (g : Nat) : List Value → Nat → World → World
  | [], _, w => w
  | v :: vs, i, w => puts g vs (i + 1) (w.setCell ⟨g, i, none⟩ v)
theorem set_app (cs : List Value) (v : Value) (vs : List Value) : ∀ (ps : List Value), (ps ++ cs).length = ps.length + (vs.length + 1) → ∃ cs', (ps ++ cs).set ps.length v = (ps ++ [v]) ++ cs' ∧ ((ps ++ [v]) ++ cs').length = (ps ++ [v]).length + vs.length
  | ps, h => by
    cases cs with
    | nil => simp at h
    | cons c cs =>
      refine ⟨cs, ?_, ?_⟩
      · rw [List.set_append_right _ _ (Nat.le_refl _), Nat.sub_self, List.set_cons_zero, List.append_assoc]; rfl
      · simp only [List.length_append, List.length_cons, List.length_nil] at h ⊢; omega
theorem SL.puts_go {w0 : World} {g t : Nat} : ∀ (vs ps cs : List Value) (w : World) (F : List Asn) (k : Nat), SL w0 w F → F[k]? = some (blkA g (ps ++ cs).toArray t) → (ps ++ cs).length = ps.length + vs.length → SL w0 (puts g vs ps.length w) (F.set k (blkA g (ps ++ vs).toArray t))
  | [], ps, cs, w, F, k, h, hk, hn => by
    have hc : cs = [] := by
      apply List.eq_nil_of_length_eq_zero
      simp only [List.length_append, List.length_nil] at hn; omega
    subst hc
    have hkl : k < F.length := (List.getElem?_eq_some_iff.1 hk).1
    have e : F.set k (blkA g (ps ++ []).toArray t) = F := by
      rw [← (List.getElem?_eq_some_iff.1 hk).2, List.set_getElem_self]
    rw [e]
    exact h
  | v :: vs, ps, cs, w, F, k, h, hk, hn => by
    obtain ⟨cs', e, hn'⟩ := set_app cs v vs ps (by rw [hn]; rfl)
    have hkl : k < F.length := (List.getElem?_eq_some_iff.1 hk).1
    have h2 := h.put k hk ps.length v
    rw [List.setIfInBounds_toArray, e] at h2
    have h3 := SL.puts_go vs (ps ++ [v]) cs' _ _ k h2 (by rw [List.getElem?_set_self hkl]) hn'
    rw [List.set_set, List.append_assoc, List.length_append] at h3
    exact h3
theorem SL.putAll {w0 w : World} {F : List Asn} {g t : Nat} {cs : List Value} (h : SL w0 w F) (k : Nat) (hk : F[k]? = some (blkA g cs.toArray t)) (vs : List Value) (hn : cs.length = vs.length) : SL w0 (puts g vs 0 w) (F.set k (blkA g vs.toArray t)) := by
  have := SL.puts_go (ps := []) vs cs w F k h hk (by rw [List.nil_append, hn]; simp)
  exact this

theorem yields_row {P : Program} {ops : Array Oper} {S : World → Prop} {o : Oper} {a : Act} (hwt : Region.wanted o (yielded ops a.tmps) = true) (ty : TypeId) (x : Operand) (ho : o.op = .load ty x) (g : Nat) (hx : a.eval x = .pointer (some ⟨g, 0, none⟩)) (t : TypeId) (cs : Array Value) (fr : Nat × Nat) (d : TypeDesc)
    (hg : ∀ w, S w → w.heap[g]? = some (.cells cs t fr)) (hu : P.underlying ty = some d) (hd : (match d with | .struct _ | .array _ _ => true | _ => false) = true) (hi : (P.info? ty).map (·.size) = some cs.size) : YieldsIf P ops S o (.agg cs) a := by
  refine Or.inl ⟨hwt, fun w hS => ?_⟩
  unfold execOp
  simp only [ho, hx, Instr.loadAt, Instr.sureAddr, Sem.run_bind, Sem.run_pure, Result.andThen_ok, run_loadVar_row w g t ty cs fr d (hg w hS) hu hd hi]
end Go.Proofs.Ythnchojddoefiaa.QLabelBests
