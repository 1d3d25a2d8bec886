/- The law StripeLays, walked: it answers true; the bounds of its arguments are hypotheses that hold of all that Go can hand over. -/
import Derived.Test.YtpaenlplpaabjaaPureStripe
set_option linter.unusedVariables false
set_option linter.unusedSimpArgs false
namespace Go.Proofs.Ytpaenlplpaabjaa.Lays
open Go.Proofs.Ytpaenlplpaabjaa.QStripeLays Go.RowKit Go.Proofs.YtpaenlplpaabjaaW.PrintWords Go.Proofs.YtpaenlplpaabjaaW.PrintLast Go.Proofs.YtpaenlplpaabjaaW.PrintMore
open Go.RowKit Go.Proofs.YtpaenlplpaabjaaW.PrintWords Go.Proofs.YtpaenlplpaabjaaW.PrintLast Go.Proofs.YtpaenlplpaabjaaW.PrintMore
def quicksetlaw_octets.f (_k : Nat) (l0 : List Int) : Option (List Int) := if l0.length ≤ 140737488351232 then some l0 else none
theorem quicksetlaw_octets.mono : ∀ a0 k, LeO (quicksetlaw_octets.f k a0) (quicksetlaw_octets.f (k + 1) a0) := fun _ _ => LeO.refl _
theorem info_oct : (Try.prog.info? 5).map (fun i => (i.zero, i.size, i.bytes)) = some (some (.int .u8 0), 1, 1) := by kernel_rfl
theorem quicksetlaw_octets.calls (k : Nat) (A0 : Option Addr) (c0 : Nat) (l0 : List Int) (r : List Int) (w : World) (hr0 : Kd.C (Kd.int .u8) w A0 l0.length l0) (hc0 : l0.length ≤ c0) (h : quicksetlaw_octets.f k l0 = some r) :
    Calls Try.prog 30 #[.slice A0 l0.length c0] w fun e w' => ∃ v0_ : Value, e = .returned (v0_) ∧ Kd.R (Kd.int .u8) 5 w' w.heap.size (fun _ => True) v0_ r ∧ Below w.heap.size w w' := by
  unfold quicksetlaw_octets.f at h
  by_cases hl : l0.length ≤ 140737488351232
  · rw [if_pos hl] at h
    obtain rfl := Option.some.inj h
    have HC := Aside0.mk hr0
    clear h hr0
    go_enter Try.func30, Try.ntmps30
    go_wp2_with ((with_reducible refine gate_builtin (b := .append) (xs := #[.const (.slice none 0 0), .tmp 3]) rfl ?_); at_builtin; (with_reducible apply Kd.R_append_rows (Kd.int .u8) (Rr := (Kd.int .u8).K w) (w0 := w) (base := w.heap.size) (s := .const (.slice none 0 0)) (x := .tmp 3) (t := 45) (e := 5) (v := .slice none 0 0) (xs := []) (ys := l0) (m := l0.length) (ok := fun _ => True) (okp := fun _ => True)); (case hgd => exact rfl); (case ho => exact rfl); (case ht => exact Try.underlying45); (case hinfo => exact info_oct); (case hz => exact rfl); (case hs0 => decide); (case hb0 => omega); (case hs => exact rfl); (case hx => exact rfl); (case HO => exact Kd.R_nil _ _ _ _ _); (case HR => exact HC.out); (case hKM => exact fun _ _ h_ => h_); (case hokp => exact fun _ _ => ⟨trivial, by simp [Value.ownBlock]⟩); (case hfresh => exact fun _ _ => trivial); (case HB => exact Below.refl _ _); (case hbase => exact Nat.le_refl _); (case hl => simp; omega); intro v1_ w1_ ho_ hb_ hg_ hat_; have HO_ := Aside0.mk ho_; have HB_ := Aside0.mk hb_; clear ho_ hb_ hg_ hat_)
    go_ret
    exact ⟨_, rfl, by have h1 := HO_.out; rw [List.nil_append] at h1; exact h1, HB_.out⟩
  · rw [if_neg hl] at h; cases h
theorem u8_wf {y : Int} (h : (Lit.int .u8 y).wf = true) : 0 ≤ y ∧ y < 256 := by
  simp only [Lit.wf, IntKind.min, IntKind.max, IntKind.signed, IntKind.bits, Bool.and_eq_true, decide_eq_true_eq] at h
  simp at h
  omega
set_option maxHeartbeats 2000000 in
set_option maxRecDepth 100000 in
theorem stripeLays_calls (a0 a1 a2 : Int) (A : Option Addr) (c : Nat) (l : List Int) (w : World) (hC : Kd.C (Kd.int .u8) w A l.length l) (hl : l.length ≤ c) (_ : (Lit.int .i64 a0).wf = true) (_ : (Lit.int .i64 a1).wf = true) (_ : (Lit.int .i64 a2).wf = true) (h1 : l.length * 1 ≤ 140737488351232) (h2 : ∀ y ∈ l, (Lit.int .u8 y).wf = true) :
    Calls Try.prog 10 #[.int .i64 a0, .int .i64 a1, .int .i64 a2, .slice A l.length c] w fun e w' => e = .returned (.bool true) ∧ Below w.heap.size w w' := by
  obtain ⟨k, r1, r2, e1, e2, g1, g2⟩ := Pure.lays_same a0 a1 a2 l (fun x hx => u8_wf (h2 x hx))
  obtain ⟨ks, e3⟩ := Par.same_lists r1 g1 g2
  have HOC := Aside0.mk (quicksetlaw_octets.calls 0 A c l l w hC hl (by unfold quicksetlaw_octets.f; rw [if_pos (by omega)]))
  have HLA := Aside0.mk (fun (A0 : Option Addr) (c0 : Nat) (W : World) (h : Kd.C (Kd.int .u8) W A0 l.length l) (hc : l.length ≤ c0) => stripe_Lay.calls k a0 a1 a2 A0 c0 l r1 r2 W h hc e1)
  have HSL := Aside0.mk (fun (W : World) (h : Kd.C (Kd.int .u8) W A l.length l) => quicksetref_StripeLay.calls k a0 a1 a2 A c l r1 r2 W h hl e2)
  have HSA := Aside0.mk (fun (A0 A1 : Option Addr) (c0 c1 : Nat) (W : World) (h : Kd.C (Kd.slice 5 (Kd.int .u8)) W A0 r1.length r1) (h' : Kd.C (Kd.slice 5 (Kd.int .u8)) W A1 r1.length r1) (hc : r1.length ≤ c0) (hc' : r1.length ≤ c1) => quicksetlaw_sameLists.calls ks A0 c0 r1 A1 c1 r1 true W h hc h' hc' e3)
  have HC := Aside0.mk hC
  have HB := Aside0.mk (Below.refl w.heap.size w)
  obtain ⟨len, hlen⟩ : ∃ len, len = l.length := ⟨_, rfl⟩
  have HLEN := Aside0.mk hlen
  rw [← hlen] at HOC HLA HSL ⊢
  clear e1 e2 e3 g1 g2 h1 h2 hC hl hlen
  go_enter Try.func10, Try.ntmps10
  go_upto_region 2 with (first | (go_at_call 30; (with_reducible refine HOC.out.mono ?_); rintro e w1 ⟨vo, rfl, hR_, hb_⟩; obtain ⟨Ao, co, eo, hco, hCo⟩ := Kd.R_reads hR_; rw [← HLEN.out] at eo hco; subst eo; have HB := Aside0.mk hb_; have HCO := Aside0.mk hCo; have HCC := Aside0.mk hco; clear hR_ hb_ hco hCo) | (go_at_call 29; (with_reducible refine (HLA.out Ao co _ ?hA_ HCC.out).mono ?_); (case hA_ => exact HLEN.out ▸ HCO.out); rintro e w2 ⟨vx, rfl, hR_, hb_⟩; obtain ⟨Ax, cx, ex, hcx, hCx⟩ := Kd.R_reads hR_; subst ex; have HB2 := Aside0.mk (HB.out.trans (hb_.mono HB.out.size)); clear HB; have HB := HB2; clear HB2; have HX := Aside0.mk hCx; have HXC := Aside0.mk hcx; clear hR_ hb_ hCx hcx))
  go_upto_region 3 with (go_at_call 31; (with_reducible refine (HSL.out _ ?hA_).mono ?_); (case hA_ => exact HLEN.out ▸ Kd.C_below HC.out HB.out); rintro e w3 ⟨vy, rfl, hR_, hb_⟩; obtain ⟨Ay, cy, ey, hcy, hCy⟩ := Kd.R_reads hR_; subst ey; have HX2 := Aside0.mk (Kd.C_below HX.out hb_); have HB2 := Aside0.mk (HB.out.trans (hb_.mono HB.out.size)); clear HB HX; have HB := HB2; have HX := HX2; clear HB2 HX2; have HY := Aside0.mk hCy; have HYC := Aside0.mk hcy; clear hR_ hb_ hCy hcy)
  have HSB := Aside0.mk (HSA.out Ax Ay cx cy w3 HX.out HY.out HXC.out HYC.out)
  clear HOC HLA HSL HSA
  go_wp2_with (go_at_call 26; (with_reducible refine HSB.out.mono ?_); rintro e w4 ⟨rfl, ⟨nd, rfl⟩⟩)
  go_ret
  exact ⟨rfl, pw_below_drewN HB.out nd⟩
end Go.Proofs.Ytpaenlplpaabjaa.Lays
