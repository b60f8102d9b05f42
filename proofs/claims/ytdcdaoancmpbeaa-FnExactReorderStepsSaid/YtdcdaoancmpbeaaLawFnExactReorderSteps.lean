-- Written by wip/mine.py (a program of this repo) for this claim.
import Derived.Test.YtdcdaoancmpbeaaRows
import Derived.Test.YtdcdaoancmpbeaaMFnExactReorderStepsx14
import Derived.Test.YtdcdaoancmpbeaaPureFnExactReorderSteps
import Derived.Test.YtdcdaoancmpbeaaQ
import Derived.WalkKit
import Derived.ProofKit
import Derived.OpenShut
import Derived.ShutString
import Derived.ChangeOld
import Derived.Below
import Derived.SizedLaws
import Derived.Lib.SmallJoins
namespace Go.Proofs.Ytdcdaoancmpbeaa.fnExactReorderSteps
open Go.ChangeShapes Go.WideShapes Go.ChangeAt Go.RowKit
open Go.ChangeMaps (open_string shut_string)
set_option linter.unusedVariables false
theorem own : ownKnob Try.prog.godebug = none := by kernel_rfl
theorem laidOut : laidOutB Try.prog = true := by kernel_rfl
set_option maxRecDepth 100000 in
set_option maxHeartbeats 2000000 in
theorem lifted (os : Os) (started : os.Started) (H : Type) (enc : TypeId × Value → H) :
    ReturnsInHanded {} Try.checked os 7 .any (Rows.fnExactReorderStepsSpec.pre6 enc Try.prog Try.f7 Rows.fnExactReorderStepsRow.domain false) (Rows.fnExactReorderStepsSpec.post enc Try.prog Try.f7 false true false false) := by
  refine returnsInHanded_of_change_sized (C := Try.checked) own started (by kernel_rfl) Try.func7
    (ChangeSpec.witness6 (enc := enc) (C := Try.checked) false ⟨#[], #[.agg #[.int .i64 0, .slice none 0 0, .slice none 0 0], .slice none 0 0], []⟩ 8 (by kernel_rfl) (by kernel_rfl) (by kernel_rfl) (by kernel_rfl)) ?_
  intro W base args ds gs before hval0 hW hcnd hsz0 _
  have hval : ∀ (j : Nat) t v, Try.f7.params[j]? = some t → args[j]? = some v → Value.okWide Try.prog W .any base t v := hval0
  have hW' := hW
  obtain ⟨p, q, hA0, hV, rfl, hfz, hnd⟩ := hW
  have hA : DataW.TrodAll enc Try.prog W 0 (fun _ => true) true Try.f7.params.toList args.toList ds p := hA0
  rw [Try.params7] at hA hval
  obtain ⟨v0, vs0, d0, ds0, p0, q0, hargs, rfl, rfl, h0, r0⟩ := trodAll_cons hA
  obtain ⟨v1, vs1, d1, ds1, p1, q1, rfl, rfl, rfl, h1, r1⟩ := trodAll_cons r0
  obtain ⟨rfl, rfl, rfl⟩ := trodAll_nil r1
  obtain rfl : args = #[v0, v1] := by cases args; simp_all
  obtain ⟨rfl, rfl⟩ := trodVars_none hV
  have k0 := h0
  have lt0 : ∀ x ∈ p0, x.block < W.heap.size := by obtain ⟨m, hm⟩ := k0; exact DataW.trod_lt m _ _ _ hm
  obtain ⟨e00, e01, e02, y00, y01, y02, m0, rfl, _, _, t00, t01, t02⟩ := Go.Joins.open_agg3 Try.underlying25 (by kernel_rfl) (by kernel_rfl) (hval 0 25 v0 rfl rfl) h0
  obtain ⟨a0_0, q00, _, w0⟩ := DataW.trod_int Try.underlying3 t00
  obtain ⟨A0_1, c0_1, l0_1, q01, b01, m01, C01, W01⟩ := Go.Proofs.YtdcdaoancmpbeaaQ.pairs_C MFnExactReorderSteps.k93 (fun x y => ⟨x, y⟩) (fun s => (Lit.int .i64 s.f0).wf = true ∧ (Lit.int .i64 s.f1).wf = true) rfl (fun w x y => MFnExactReorderSteps.k93_mk w ⟨x, y⟩) (fun _ _ h1 h2 => ⟨h1, h2⟩) Try.underlying22 Try.underlying93 (by kernel_rfl) rfl rfl (by kernel_rfl) (by kernel_rfl) Try.underlying3 Try.underlying3 t01
  obtain ⟨A0_2, c0_2, l0_2, q02, b02, m02, C02, W02⟩ := Go.Proofs.YtdcdaoancmpbeaaQ.ints_C Try.underlying23 Try.underlying3 (by kernel_rfl) t02
  simp at q00 q01 q02
  subst q00 q01 q02
  have k1 := h1
  have lt1 : ∀ x ∈ p1, x.block < W.heap.size := by obtain ⟨m, hm⟩ := k1; exact DataW.trod_lt m _ _ _ hm
  obtain ⟨x1, y1, z1, rfl⟩ := okWide_slice Try.underlying23 (hval 1 23 v1 rfl rfl)
  obtain ⟨fu1, hf1⟩ := h1
  obtain ⟨A1, c1, l1, q1, b1, m1, C1, W1⟩ := Go.Proofs.YtdcdaoancmpbeaaQ.ints_C Try.underlying23 Try.underlying3 (by kernel_rfl) hf1
  simp [Value.cells] at q1
  obtain ⟨qa1, qb1, qc1⟩ := q1
  have qa1 := qa1.symm
  have qb1 := qb1.symm
  have qc1 := qc1.symm
  subst qa1 qb1 qc1
  clear hA0 hval0 hsz0
  obtain ⟨k, h⟩ := Pure.FnExactReorderSteps a0_0 l0_1 l0_2 l1 w0 W01 m01 W02 m02 W1 m1
  refine (MFnExactReorderSteps.laws_FnExactReorderSteps.calls k a0_0 A0_1 c0_1 l0_1 A0_2 c0_2 l0_2 A1 c1 l1 true W C01 b01 C02 b02 C1 b1 h).mono fun e W' ⟨he, bel⟩ => ?_
  subst he
  exact ⟨_, rfl, _, _, _, [], _, [], hW', trodAll_mk1 (shut_bool Try.underlying4 _), (trodAll_cons_mk (Below.trod laidOut (by kernel_rfl) (of_decide_eq_true (by kernel_rfl)) k0 bel lt0) (trodAll_cons_mk (Below.trod laidOut (by kernel_rfl) (of_decide_eq_true (by kernel_rfl)) k1 bel lt1) trodAll_mk0)), rfl, bel.frame _, fun h => by cases h⟩
theorem over : Rows.fnExactReorderStepsRow.holds Try.pinned (OpenSpec.ofChange Rows.fnExactReorderStepsSpec) :=
  OpenClaim.holds_of_wide 7 Try.f7 rfl rfl rfl rfl rfl rfl rfl ⟨rfl, rfl, rfl, rfl, rfl⟩ rfl rfl rfl rfl rfl (by kernel_rfl) Try.func7 (by kernel_rfl)
    (of_decide_eq_true (by kernel_rfl)) (by unfold Func.isWrapper; first | (rw [if_pos (by decide +kernel)]; kernel_rfl) | (rw [if_neg (by decide +kernel)]; exact ⟨rfl, rfl⟩))
    (fun os started H enc _ => lifted os started H enc)
theorem proved : Rows.FnExactReorderStepsSaid := over
#print axioms proved
end Go.Proofs.Ytdcdaoancmpbeaa.fnExactReorderSteps
namespace Go.Proofs.Ytdcdaoancmpbeaa
/-- The row, under a short name, for the claim. -/
theorem fnExactReorderSteps_holds : Rows.FnExactReorderStepsSaid := fnExactReorderSteps.proved
end Go.Proofs.Ytdcdaoancmpbeaa
