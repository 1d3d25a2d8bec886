/- The row of the law SpanCuts: its arguments are opened as the kinds of its contract; no conditions. -/
import Derived.Test.YthnchojddoefiaaRows
import Derived.Test.YthnchojddoefiaaQSpanAddsx7
import Derived.Test.YthnchojddoefiaaPureSpanAdds
import Derived.Test.YthnchojddoefiaaOpen
import Derived.WalkKit
import Derived.Lib.SmallJoins
import Derived.ProofKit
import Derived.OpenShut
import Derived.ShutString
import Derived.ChangeOld
import Derived.Below
import Derived.SizedLaws
namespace Go.Proofs.Ythnchojddoefiaa.spanCuts
open Go.ChangeShapes Go.WideShapes Go.ChangeAt Go.RowKit
open Go.ChangeMaps (open_string shut_string)
open Go.Proofs.Ythnchojddoefiaa Go.Proofs.Ythnchojddoefiaa.Opn Go.Proofs.Ythnchojddoefiaa.QSpanAdds Go.Proofs.YthnchojddoefiaaW.PrintLast Go.Proofs.YthnchojddoefiaaW.PrintWords
set_option linter.unusedVariables false
set_option linter.unusedSimpArgs false
theorem own : ownKnob Try.prog.godebug = none := by kernel_rfl
theorem laidOut : laidOutB Try.prog = true := by kernel_rfl
def G79 (b : S79) : Prop := (fun a => ((Lit.int .i64 a.1).wf = true ∧ (Lit.int .i64 a.2).wf = true)) ((b.f0, b.f1))
set_option maxRecDepth 100000 in
theorem o79 : Opens Try.prog 79 k79 G79 :=
  opens_struct (P := Try.prog) (T := 79) (d := (Kd.pair (Kd.int .i64) (Kd.int .i64))) (f := fun x : S79 => (x.f0, x.f1)) (G := fun a => ((Lit.int .i64 a.1).wf = true ∧ (Lit.int .i64 a.2).wf = true)) Try.underlying79 (by kernel_rfl) (fun a => ⟨⟨a.1, a.2⟩, rfl⟩) (opensFs_cons rfl (opens_int Try.underlying3 (by kernel_rfl)) (opensFs_one rfl (opens_int Try.underlying3 (by kernel_rfl))))
theorem hB79 : Try.prog.bytesOf 79 = 16 := by kernel_rfl
set_option maxRecDepth 100000 in
theorem lifted (os : Os) (started : os.Started) (H : Type) (enc : TypeId × Value → H) :
    ReturnsInHanded {} Try.checked os 13 .any (Rows.spanCutsSpec.pre6 enc Try.prog Try.f13 Rows.spanCutsRow.domain false) (Rows.spanCutsSpec.post enc Try.prog Try.f13 false true false false) := by
  refine returnsInHanded_of_change_sized (C := Try.checked) own started (by kernel_rfl) Try.func13
    (ChangeSpec.witness6 (enc := enc) (C := Try.checked) false ⟨#[], #[.slice none 0 0, .agg #[.int .i64 0, .int .i64 0]], []⟩ 8 (by kernel_rfl) (by kernel_rfl) (by kernel_rfl) (by kernel_rfl)) ?_
  intro W base args ds gs before hval0 hW hcnd hsz0 _
  have hsz : (DataW.weightsEach Try.prog (Try.f13.params.toList ++ Rows.spanCutsSpec.plain.varTypes Try.prog) (ds ++ gs)).all (· ≤ reachBytes) = true := hsz0
  have hval : ∀ (j : Nat) t v, Try.f13.params[j]? = some t → args[j]? = some v → Value.okWide Try.prog W .any base t v := hval0
  have hW' := hW
  obtain ⟨p, q, hA0, hV, rfl, hfz, hnd⟩ := hW
  have hA : DataW.TrodAll enc Try.prog W 0 (fun _ => true) true Try.f13.params.toList args.toList ds p := hA0
  rw [Try.params13] at hA hval hsz
  obtain ⟨v0, vs0, d0, ds0, p0, q0, hargs, rfl, rfl, h0, r0⟩ := trodAll_cons hA
  obtain ⟨v1, vs1, d1, ds1, p1, q1, rfl, rfl, rfl, h1, r1⟩ := trodAll_cons r0
  obtain ⟨rfl, rfl, rfl⟩ := trodAll_nil r1
  obtain rfl : args = #[v0, v1] := by cases args; simp_all
  obtain ⟨rfl, rfl⟩ := trodVars_none hV
  have k0 := h0
  have lt0 : ∀ x ∈ p0, x.block < W.heap.size := by obtain ⟨m, hm⟩ := k0; exact DataW.trod_lt m _ _ _ hm
  obtain ⟨a0, len0, cap0, rfl⟩ := okWide_slice Try.underlying64 (hval 0 64 v0 rfl rfl)
  obtain ⟨l0, hK0, hG0⟩ := Opens.arg (opens_slice Try.underlying64 (by kernel_rfl) o79) hsz (j := 0) rfl rfl h0
  obtain ⟨A0, c0, hcs0, hl0, hC0⟩ := hK0
  simp only [Value.cells, List.cons.injEq, Value.slice.injEq, and_true] at hcs0
  obtain ⟨rfl, rfl, rfl⟩ := hcs0
  have hg0 := hG0
  simp only [G79, hB79] at hg0
  have k1 := h1
  have lt1 : ∀ x ∈ p1, x.block < W.heap.size := by obtain ⟨m, hm⟩ := k1; exact DataW.trod_lt m _ _ _ hm
  obtain ⟨m1, rfl, _⟩ := okWide_struct Try.underlying79 (hval 1 79 v1 rfl rfl)
  obtain ⟨x1, hK1, hG1⟩ := Opens.arg o79 hsz (j := 1) rfl rfl h1
  have hm1 : ∃ cs, m1.toList = cs ∧ k79.K W x1 cs := ⟨_, rfl, hK1⟩
  obtain ⟨cs1, hm1, ⟨_, _, rfl, rfl, rfl⟩⟩ := hm1
  obtain rfl : m1 = #[.int .i64 x1.f0, .int .i64 x1.f1] := by cases m1; simpa using hm1
  have hg1 := hG1
  simp only [G79] at hg1
  obtain ⟨rk, hk⟩ := Pure.SpanCuts l0 hg0.1 hg0.2 x1.f0 hg1.1 x1.f1 hg1.2
  clear hA0 hval0 hsz0 hsz
  refine (QSpanAdds.quicksetlaw_SpanCuts.calls rk a0 cap0 l0 x1.f0 x1.f1 true W hC0 hl0  hk).mono fun e W' ⟨he, bel⟩ => ?_
  subst he
  first | (replace bel := Drawn0.below bel) | skip
  exact ⟨_, rfl, _, _, _, [], _, [], hW', trodAll_mk1 (shut_bool Try.underlying4 _), (trodAll_cons_mk (Below.trod laidOut (by kernel_rfl) (of_decide_eq_true (by kernel_rfl)) k0 bel lt0) (trodAll_cons_mk (Below.trod laidOut (by kernel_rfl) (of_decide_eq_true (by kernel_rfl)) k1 bel lt1) trodAll_mk0)), rfl, bel.frame _, fun h => by cases h⟩
theorem over : Rows.spanCutsRow.holds Try.pinned (OpenSpec.ofChange Rows.spanCutsSpec) :=
  OpenClaim.holds_of_wide 13 Try.f13 rfl rfl rfl rfl rfl rfl rfl ⟨rfl, rfl, rfl, rfl, rfl⟩ rfl rfl rfl rfl rfl (by kernel_rfl) Try.func13 (by kernel_rfl)
    (of_decide_eq_true (by kernel_rfl)) (by unfold Func.isWrapper; first | (rw [if_pos (by decide +kernel)]; kernel_rfl) | (rw [if_neg (by decide +kernel)]; exact ⟨rfl, rfl⟩))
    (fun os started H enc _ => lifted os started H enc)
theorem proved : Rows.SpanCutsSaid := over
end Go.Proofs.Ythnchojddoefiaa.spanCuts
namespace Go.Proofs.Ythnchojddoefiaa
/-- The row, under a short name, for the claim. -/
theorem spanCuts_holds : Rows.SpanCutsSaid := spanCuts.proved
end Go.Proofs.Ythnchojddoefiaa
