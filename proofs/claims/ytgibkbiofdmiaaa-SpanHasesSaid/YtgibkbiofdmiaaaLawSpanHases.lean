/- The row of the law SpanHases: its arguments are opened as the kinds of its contract; no conditions. -/
import Derived.Test.YtgibkbiofdmiaaaRows
import Derived.Test.YtgibkbiofdmiaaaQSpanHasesx4
import Derived.Test.YtgibkbiofdmiaaaPureSpanHases
import Derived.Test.YtgibkbiofdmiaaaOpen
import Derived.WalkKit
import Derived.Lib.SmallJoins
import Derived.ProofKit
import Derived.OpenShut
import Derived.ShutString
import Derived.ChangeOld
import Derived.Below
import Derived.SizedLaws
namespace Go.Proofs.Ytgibkbiofdmiaaa.spanHases
open Go.ChangeShapes Go.WideShapes Go.ChangeAt Go.RowKit
open Go.ChangeMaps (open_string shut_string)
open Go.Proofs.Ytgibkbiofdmiaaa Go.Proofs.Ytgibkbiofdmiaaa.Opn Go.Proofs.Ytgibkbiofdmiaaa.QSpanHases Go.Proofs.YtgibkbiofdmiaaaW.PrintLast Go.Proofs.YtgibkbiofdmiaaaW.PrintWords
set_option linter.unusedVariables false
set_option linter.unusedSimpArgs false
theorem own : ownKnob Try.prog.godebug = none := by kernel_rfl
theorem laidOut : laidOutB Try.prog = true := by kernel_rfl
def G63 (b : S63) : Prop := (fun a => ((Lit.int .i64 a.1).wf = true ∧ (Lit.int .i64 a.2).wf = true)) ((b.f0, b.f1))
theorem o63 : Opens Try.prog 63 k63 G63 :=
  opens_struct (P := Try.prog) (T := 63) (d := (Kd.pair (Kd.int .i64) (Kd.int .i64))) (f := fun x : S63 => (x.f0, x.f1)) (G := fun a => ((Lit.int .i64 a.1).wf = true ∧ (Lit.int .i64 a.2).wf = true)) Try.underlying63 (by kernel_rfl) (fun a => ⟨⟨a.1, a.2⟩, rfl⟩) (opensFs_cons rfl (opens_int Try.underlying3 (by kernel_rfl)) (opensFs_one rfl (opens_int Try.underlying3 (by kernel_rfl))))
theorem hB63 : Try.prog.bytesOf 63 = 16 := by kernel_rfl
set_option maxRecDepth 100000 in
theorem lifted (os : Os) (started : os.Started) (H : Type) (enc : TypeId × Value → H) :
    ReturnsInHanded {} Try.checked os 14 .any (Rows.spanHasesSpec.pre6 enc Try.prog Try.f14 Rows.spanHasesRow.domain false) (Rows.spanHasesSpec.post enc Try.prog Try.f14 false true false false) := by
  refine returnsInHanded_of_change_sized (C := Try.checked) own started (by kernel_rfl) Try.func14
    (ChangeSpec.witness6 (enc := enc) (C := Try.checked) false ⟨#[], #[.slice none 0 0, .int .i64 0], []⟩ 8 (by kernel_rfl) (by kernel_rfl) (by kernel_rfl) (by kernel_rfl)) ?_
  intro W base args ds gs before hval0 hW hcnd hsz0 _
  have hsz : (DataW.weightsEach Try.prog (Try.f14.params.toList ++ Rows.spanHasesSpec.plain.varTypes Try.prog) (ds ++ gs)).all (· ≤ reachBytes) = true := hsz0
  have hval : ∀ (j : Nat) t v, Try.f14.params[j]? = some t → args[j]? = some v → Value.okWide Try.prog W .any base t v := hval0
  have hW' := hW
  obtain ⟨p, q, hA0, hV, rfl, hfz, hnd⟩ := hW
  have hA : DataW.TrodAll enc Try.prog W 0 (fun _ => true) true Try.f14.params.toList args.toList ds p := hA0
  rw [Try.params14] at hA hval hsz
  obtain ⟨v0, vs0, d0, ds0, p0, q0, hargs, rfl, rfl, h0, r0⟩ := trodAll_cons hA
  obtain ⟨v1, vs1, d1, ds1, p1, q1, rfl, rfl, rfl, h1, r1⟩ := trodAll_cons r0
  obtain ⟨rfl, rfl, rfl⟩ := trodAll_nil r1
  obtain rfl : args = #[v0, v1] := by cases args; simp_all
  obtain ⟨rfl, rfl⟩ := trodVars_none hV
  have k0 := h0
  have lt0 : ∀ x ∈ p0, x.block < W.heap.size := by obtain ⟨m, hm⟩ := k0; exact DataW.trod_lt m _ _ _ hm
  obtain ⟨a0, len0, cap0, rfl⟩ := okWide_slice Try.underlying38 (hval 0 38 v0 rfl rfl)
  obtain ⟨l0, hK0, hG0⟩ := Opens.arg (opens_slice Try.underlying38 (by kernel_rfl) o63) hsz (j := 0) rfl rfl h0
  obtain ⟨A0, c0, hcs0, hl0, hC0⟩ := hK0
  simp only [Value.cells, List.cons.injEq, Value.slice.injEq, and_true] at hcs0
  obtain ⟨rfl, rfl, rfl⟩ := hcs0
  have hg0 := hG0
  simp only [G63, hB63] at hg0
  have k1 := h1
  obtain ⟨a1, rfl, rfl, rfl, w1⟩ := open_int Try.underlying3 (hval 1 3 v1 rfl rfl) h1
  obtain ⟨rk, hk⟩ := Pure.SpanHases l0 hg0.1 hg0.2 a1 w1
  clear hA0 hval0 hsz0 hsz
  refine (QSpanHases.quicksetlaw_SpanHases.calls rk a0 cap0 l0 a1 true W hC0 hl0  hk).mono fun e W' ⟨he, bel⟩ => ?_
  subst he
  first | (replace bel := Drawn0.below bel) | skip
  exact ⟨_, rfl, _, _, _, [], _, [], hW', trodAll_mk1 (shut_bool Try.underlying4 _), (trodAll_cons_mk (Below.trod laidOut (by kernel_rfl) (of_decide_eq_true (by kernel_rfl)) k0 bel lt0) (trodAll_cons_mk (shut_int Try.underlying3 w1) trodAll_mk0)), rfl, bel.frame _, fun h => by cases h⟩
theorem over : Rows.spanHasesRow.holds Try.pinned (OpenSpec.ofChange Rows.spanHasesSpec) :=
  OpenClaim.holds_of_wide 14 Try.f14 rfl rfl rfl rfl rfl rfl rfl ⟨rfl, rfl, rfl, rfl, rfl⟩ rfl rfl rfl rfl rfl (by kernel_rfl) Try.func14 (by kernel_rfl)
    (of_decide_eq_true (by kernel_rfl)) (by unfold Func.isWrapper; first | (rw [if_pos (by decide +kernel)]; kernel_rfl) | (rw [if_neg (by decide +kernel)]; exact ⟨rfl, rfl⟩))
    (fun os started H enc _ => lifted os started H enc)
theorem proved : Rows.SpanHasesSaid := over
end Go.Proofs.Ytgibkbiofdmiaaa.spanHases
namespace Go.Proofs.Ytgibkbiofdmiaaa
/-- The row, under a short name, for the claim. -/
theorem spanHases_holds : Rows.SpanHasesSaid := spanHases.proved
end Go.Proofs.Ytgibkbiofdmiaaa
