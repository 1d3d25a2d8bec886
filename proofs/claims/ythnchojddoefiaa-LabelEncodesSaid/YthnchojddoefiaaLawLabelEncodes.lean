/- The row of the law LabelEncodes: its arguments are opened as the kinds of its contract; no conditions. -/
import Derived.Test.YthnchojddoefiaaRows
import Derived.Test.YthnchojddoefiaaQLabelEncodesx4
import Derived.Test.YthnchojddoefiaaPureLabelEncodes
import Derived.Test.YthnchojddoefiaaOpen
import Derived.WalkKit
import Derived.Lib.SmallJoins
import Derived.ProofKit
import Derived.OpenShut
import Derived.ShutString
import Derived.ChangeOld
import Derived.Below
import Derived.SizedLaws
namespace Go.Proofs.Ythnchojddoefiaa.labelEncodes
open Go.ChangeShapes Go.WideShapes Go.ChangeAt Go.RowKit
open Go.ChangeMaps (open_string shut_string)
open Go.Proofs.Ythnchojddoefiaa Go.Proofs.Ythnchojddoefiaa.Opn Go.Proofs.Ythnchojddoefiaa.QLabelEncodes Go.Proofs.YthnchojddoefiaaW.PrintLast Go.Proofs.YthnchojddoefiaaW.PrintWords
set_option linter.unusedVariables false
set_option linter.unusedSimpArgs false
theorem own : ownKnob Try.prog.godebug = none := by kernel_rfl
theorem laidOut : laidOutB Try.prog = true := by kernel_rfl
structure S23 where
  f0 : Int
  f1 : Int
  f2 : Int
  f3 : Int
def k23 : Kd S23 := Kd.iso (Kd.pair (Kd.int .i64) (Kd.pair (Kd.int .i64) (Kd.pair (Kd.int .i64) (Kd.int .i64)))) (fun x : S23 => (x.f0, x.f1, x.f2, x.f3))
def G23 (b : S23) : Prop := (fun a => ((Lit.int .i64 a.1).wf = true ∧ ((Lit.int .i64 a.2.1).wf = true ∧ ((Lit.int .i64 a.2.2.1).wf = true ∧ (Lit.int .i64 a.2.2.2).wf = true)))) ((b.f0, b.f1, b.f2, b.f3))
set_option maxRecDepth 100000 in
theorem o23 : Opens Try.prog 23 k23 G23 :=
  opens_struct (P := Try.prog) (T := 23) (d := (Kd.pair (Kd.int .i64) (Kd.pair (Kd.int .i64) (Kd.pair (Kd.int .i64) (Kd.int .i64))))) (f := fun x : S23 => (x.f0, x.f1, x.f2, x.f3)) (G := fun a => ((Lit.int .i64 a.1).wf = true ∧ ((Lit.int .i64 a.2.1).wf = true ∧ ((Lit.int .i64 a.2.2.1).wf = true ∧ (Lit.int .i64 a.2.2.2).wf = true)))) Try.underlying23 (by kernel_rfl) (fun a => ⟨⟨a.1, a.2.1, a.2.2.1, a.2.2.2⟩, rfl⟩) (opensFs_cons rfl (opens_int Try.underlying3 (by kernel_rfl)) (opensFs_cons rfl (opens_int Try.underlying3 (by kernel_rfl)) (opensFs_cons rfl (opens_int Try.underlying3 (by kernel_rfl)) (opensFs_one rfl (opens_int Try.underlying3 (by kernel_rfl))))))
structure S25 where
  f0 : Int
  f1 : Int
  f2 : Int
  f3 : Int
  f4 : S23
def k25 : Kd S25 := Kd.iso (Kd.pair (Kd.int .i64) (Kd.pair (Kd.int .i64) (Kd.pair (Kd.int .i64) (Kd.pair (Kd.int .i64) k23)))) (fun x : S25 => (x.f0, x.f1, x.f2, x.f3, x.f4))
def G25 (b : S25) : Prop := (fun a => ((Lit.int .i64 a.1).wf = true ∧ ((Lit.int .i64 a.2.1).wf = true ∧ ((Lit.int .i64 a.2.2.1).wf = true ∧ ((Lit.int .i64 a.2.2.2.1).wf = true ∧ G23 a.2.2.2.2))))) ((b.f0, b.f1, b.f2, b.f3, b.f4))
set_option maxRecDepth 100000 in
theorem o25 : Opens Try.prog 25 k25 G25 :=
  opens_struct (P := Try.prog) (T := 25) (d := (Kd.pair (Kd.int .i64) (Kd.pair (Kd.int .i64) (Kd.pair (Kd.int .i64) (Kd.pair (Kd.int .i64) k23))))) (f := fun x : S25 => (x.f0, x.f1, x.f2, x.f3, x.f4)) (G := fun a => ((Lit.int .i64 a.1).wf = true ∧ ((Lit.int .i64 a.2.1).wf = true ∧ ((Lit.int .i64 a.2.2.1).wf = true ∧ ((Lit.int .i64 a.2.2.2.1).wf = true ∧ G23 a.2.2.2.2))))) Try.underlying25 (by kernel_rfl) (fun a => ⟨⟨a.1, a.2.1, a.2.2.1, a.2.2.2.1, a.2.2.2.2⟩, rfl⟩) (opensFs_cons rfl (opens_int Try.underlying3 (by kernel_rfl)) (opensFs_cons rfl (opens_int Try.underlying3 (by kernel_rfl)) (opensFs_cons rfl (opens_int Try.underlying3 (by kernel_rfl)) (opensFs_cons rfl (opens_int Try.underlying3 (by kernel_rfl)) (opensFs_one rfl o23)))))
structure S27 where
  f0 : Int
  f1 : Int
  f2 : Int
  f3 : Int
  f4 : Int
  f5 : S25
def k27 : Kd S27 := Kd.iso (Kd.pair (Kd.int .i64) (Kd.pair (Kd.int .i64) (Kd.pair (Kd.int .i64) (Kd.pair (Kd.int .i64) (Kd.pair (Kd.int .i64) k25))))) (fun x : S27 => (x.f0, x.f1, x.f2, x.f3, x.f4, x.f5))
def G27 (b : S27) : Prop := (fun a => ((Lit.int .i64 a.1).wf = true ∧ ((Lit.int .i64 a.2.1).wf = true ∧ ((Lit.int .i64 a.2.2.1).wf = true ∧ ((Lit.int .i64 a.2.2.2.1).wf = true ∧ ((Lit.int .i64 a.2.2.2.2.1).wf = true ∧ G25 a.2.2.2.2.2)))))) ((b.f0, b.f1, b.f2, b.f3, b.f4, b.f5))
set_option maxRecDepth 100000 in
theorem o27 : Opens Try.prog 27 k27 G27 :=
  opens_struct (P := Try.prog) (T := 27) (d := (Kd.pair (Kd.int .i64) (Kd.pair (Kd.int .i64) (Kd.pair (Kd.int .i64) (Kd.pair (Kd.int .i64) (Kd.pair (Kd.int .i64) k25)))))) (f := fun x : S27 => (x.f0, x.f1, x.f2, x.f3, x.f4, x.f5)) (G := fun a => ((Lit.int .i64 a.1).wf = true ∧ ((Lit.int .i64 a.2.1).wf = true ∧ ((Lit.int .i64 a.2.2.1).wf = true ∧ ((Lit.int .i64 a.2.2.2.1).wf = true ∧ ((Lit.int .i64 a.2.2.2.2.1).wf = true ∧ G25 a.2.2.2.2.2)))))) Try.underlying27 (by kernel_rfl) (fun a => ⟨⟨a.1, a.2.1, a.2.2.1, a.2.2.2.1, a.2.2.2.2.1, a.2.2.2.2.2⟩, rfl⟩) (opensFs_cons rfl (opens_int Try.underlying3 (by kernel_rfl)) (opensFs_cons rfl (opens_int Try.underlying3 (by kernel_rfl)) (opensFs_cons rfl (opens_int Try.underlying3 (by kernel_rfl)) (opensFs_cons rfl (opens_int Try.underlying3 (by kernel_rfl)) (opensFs_cons rfl (opens_int Try.underlying3 (by kernel_rfl)) (opensFs_one rfl o25))))))
set_option maxRecDepth 100000 in
theorem lifted (os : Os) (started : os.Started) (H : Type) (enc : TypeId × Value → H) :
    ReturnsInHanded {} Try.checked os 3 .any (Rows.labelEncodesSpec.pre6 enc Try.prog Try.f3 Rows.labelEncodesRow.domain false) (Rows.labelEncodesSpec.post enc Try.prog Try.f3 false true false false) := by
  refine returnsInHanded_of_change_sized (C := Try.checked) own started (by kernel_rfl) Try.func3
    (ChangeSpec.witness6 (enc := enc) (C := Try.checked) false ⟨#[], #[.agg #[.int .i64 0, .int .i64 0, .int .i64 0, .int .i64 0, .int .i64 0, .int .i64 0, .int .i64 0, .int .i64 0, .int .i64 0, .int .i64 0, .int .i64 0, .int .i64 0, .int .i64 0]], []⟩ 8 (by kernel_rfl) (by kernel_rfl) (by kernel_rfl) (by kernel_rfl)) ?_
  intro W base args ds gs before hval0 hW hcnd hsz0 _
  have hsz : (DataW.weightsEach Try.prog (Try.f3.params.toList ++ Rows.labelEncodesSpec.plain.varTypes Try.prog) (ds ++ gs)).all (· ≤ reachBytes) = true := hsz0
  have hval : ∀ (j : Nat) t v, Try.f3.params[j]? = some t → args[j]? = some v → Value.okWide Try.prog W .any base t v := hval0
  have hW' := hW
  obtain ⟨p, q, hA0, hV, rfl, hfz, hnd⟩ := hW
  have hA : DataW.TrodAll enc Try.prog W 0 (fun _ => true) true Try.f3.params.toList args.toList ds p := hA0
  rw [Try.params3] at hA hval hsz
  obtain ⟨v0, vs0, d0, ds0, p0, q0, hargs, rfl, rfl, h0, r0⟩ := trodAll_cons hA
  obtain ⟨rfl, rfl, rfl⟩ := trodAll_nil r0
  obtain rfl : args = #[v0] := by cases args; simp_all
  obtain ⟨rfl, rfl⟩ := trodVars_none hV
  have k0 := h0
  have lt0 : ∀ x ∈ p0, x.block < W.heap.size := by obtain ⟨m, hm⟩ := k0; exact DataW.trod_lt m _ _ _ hm
  obtain ⟨m0, rfl, _⟩ := okWide_struct Try.underlying27 (hval 0 27 v0 rfl rfl)
  obtain ⟨x0, hK0, hG0⟩ := Opens.arg o27 hsz (j := 0) rfl rfl h0
  have hm0 : ∃ cs, m0.toList = cs ∧ k27.K W x0 cs := ⟨_, rfl, hK0⟩
  obtain ⟨cs0, hm0, ⟨_, _, rfl, rfl, ⟨_, _, rfl, rfl, ⟨_, _, rfl, rfl, ⟨_, _, rfl, rfl, ⟨_, _, rfl, rfl, ⟨_, _, rfl, rfl, ⟨_, _, rfl, rfl, ⟨_, _, rfl, rfl, ⟨_, _, rfl, rfl, ⟨_, _, rfl, rfl, ⟨_, _, rfl, rfl, ⟨_, _, rfl, rfl, rfl⟩⟩⟩⟩⟩⟩⟩⟩⟩⟩⟩⟩⟩ := hm0
  obtain rfl : m0 = #[.int .i64 x0.f0, .int .i64 x0.f1, .int .i64 x0.f2, .int .i64 x0.f3, .int .i64 x0.f4, .int .i64 x0.f5.f0, .int .i64 x0.f5.f1, .int .i64 x0.f5.f2, .int .i64 x0.f5.f3, .int .i64 x0.f5.f4.f0, .int .i64 x0.f5.f4.f1, .int .i64 x0.f5.f4.f2, .int .i64 x0.f5.f4.f3] := by cases m0; simpa using hm0
  have hg0 := hG0
  simp only [G23, G25, G27] at hg0
  obtain ⟨rk, hk⟩ := Pure.LabelEncodes x0.f0 hg0.1 x0.f1 hg0.2.1 x0.f2 hg0.2.2.1 x0.f3 hg0.2.2.2.1 x0.f4 hg0.2.2.2.2.1 x0.f5.f0 hg0.2.2.2.2.2.1 x0.f5.f1 hg0.2.2.2.2.2.2.1 x0.f5.f2 hg0.2.2.2.2.2.2.2.1 x0.f5.f3 hg0.2.2.2.2.2.2.2.2.1 x0.f5.f4.f0 hg0.2.2.2.2.2.2.2.2.2.1 x0.f5.f4.f1 hg0.2.2.2.2.2.2.2.2.2.2.1 x0.f5.f4.f2 hg0.2.2.2.2.2.2.2.2.2.2.2.1 x0.f5.f4.f3 hg0.2.2.2.2.2.2.2.2.2.2.2.2
  clear hA0 hval0 hsz0 hsz
  refine (QLabelEncodes.quicksetlaw_LabelEncodes.calls rk x0.f0 x0.f1 x0.f2 x0.f3 x0.f4 x0.f5.f0 x0.f5.f1 x0.f5.f2 x0.f5.f3 x0.f5.f4.f0 x0.f5.f4.f1 x0.f5.f4.f2 x0.f5.f4.f3 true W  hk).mono fun e W' ⟨he, bel⟩ => ?_
  subst he
  first | (replace bel := Drawn0.below bel) | skip
  exact ⟨_, rfl, _, _, _, [], _, [], hW', trodAll_mk1 (shut_bool Try.underlying4 _), (trodAll_cons_mk (Below.trod laidOut (by kernel_rfl) (of_decide_eq_true (by kernel_rfl)) k0 bel lt0) trodAll_mk0), rfl, bel.frame _, fun h => by cases h⟩
theorem over : Rows.labelEncodesRow.holds Try.pinned (OpenSpec.ofChange Rows.labelEncodesSpec) :=
  OpenClaim.holds_of_wide 3 Try.f3 rfl rfl rfl rfl rfl rfl rfl ⟨rfl, rfl, rfl, rfl, rfl⟩ rfl rfl rfl rfl rfl (by kernel_rfl) Try.func3 (by kernel_rfl)
    (of_decide_eq_true (by kernel_rfl)) (by unfold Func.isWrapper; first | (rw [if_pos (by decide +kernel)]; kernel_rfl) | (rw [if_neg (by decide +kernel)]; exact ⟨rfl, rfl⟩))
    (fun os started H enc _ => lifted os started H enc)
theorem proved : Rows.LabelEncodesSaid := over
end Go.Proofs.Ythnchojddoefiaa.labelEncodes
namespace Go.Proofs.Ythnchojddoefiaa
/-- The row, under a short name, for the claim. -/
theorem labelEncodes_holds : Rows.LabelEncodesSaid := labelEncodes.proved
end Go.Proofs.Ythnchojddoefiaa
