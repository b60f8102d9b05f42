-- Written by wip/mine.py (a program of this repo) for this claim.
import Derived.Test.YtopkiccdfmjjjaaRows
import Derived.Test.YtopkiccdfmjjjaaMFnExactOutputExponentsx8
import Derived.Test.YtopkiccdfmjjjaaPureFnExactOutputExponents
import Derived.Test.YtopkiccdfmjjjaaQ
import Derived.WalkKit
import Derived.ProofKit
import Derived.OpenShut
import Derived.ShutString
import Derived.ChangeOld
import Derived.Below
import Derived.SizedLaws
import Derived.Lib.SmallJoins
namespace Go.Proofs.Ytopkiccdfmjjjaa.fnExactOutputExponents
open Go.ChangeShapes Go.WideShapes Go.ChangeAt Go.RowKit
open Go.ChangeMaps (open_string shut_string)
set_option linter.unusedVariables false
theorem own : ownKnob Try.prog.godebug = none := by kernel_rfl
theorem laidOut : laidOutB Try.prog = true := by kernel_rfl
set_option maxRecDepth 100000 in
set_option maxHeartbeats 2000000 in
theorem lifted (os : Os) (started : os.Started) (H : Type) (enc : TypeId × Value → H) :
    ReturnsInHanded {} Try.checked os 11 .any (Rows.fnExactOutputExponentsSpec.pre6 enc Try.prog Try.f11 Rows.fnExactOutputExponentsRow.domain false) (Rows.fnExactOutputExponentsSpec.post enc Try.prog Try.f11 false true false false) := by
  refine returnsInHanded_of_change_sized (C := Try.checked) own started (by kernel_rfl) Try.func11
    (ChangeSpec.witness6 (enc := enc) (C := Try.checked) false ⟨#[], #[.agg #[.int .i64 0, .slice none 0 0, .slice none 0 0]], []⟩ 8 (by kernel_rfl) (by kernel_rfl) (by kernel_rfl) (by kernel_rfl)) ?_
  intro W base args ds gs before hval0 hW hcnd hsz0 _
  have hval : ∀ (j : Nat) t v, Try.f11.params[j]? = some t → args[j]? = some v → Value.okWide Try.prog W .any base t v := hval0
  have hW' := hW
  obtain ⟨p, q, hA0, hV, rfl, hfz, hnd⟩ := hW
  have hA : DataW.TrodAll enc Try.prog W 0 (fun _ => true) true Try.f11.params.toList args.toList ds p := hA0
  rw [Try.params11] at hA hval
  obtain ⟨v0, vs0, d0, ds0, p0, q0, hargs, rfl, rfl, h0, r0⟩ := trodAll_cons hA
  obtain ⟨rfl, rfl, rfl⟩ := trodAll_nil r0
  obtain rfl : args = #[v0] := by cases args; simp_all
  obtain ⟨rfl, rfl⟩ := trodVars_none hV
  have k0 := h0
  have lt0 : ∀ x ∈ p0, x.block < W.heap.size := by obtain ⟨m, hm⟩ := k0; exact DataW.trod_lt m _ _ _ hm
  obtain ⟨e00, e01, e02, y00, y01, y02, m0, rfl, _, _, t00, t01, t02⟩ := Go.Joins.open_agg3 Try.underlying25 (by kernel_rfl) (by kernel_rfl) (hval 0 25 v0 rfl rfl) h0
  obtain ⟨a0_0, q00, _, w0⟩ := DataW.trod_int Try.underlying3 t00
  obtain ⟨A0_1, c0_1, l0_1, q01, b01, m01, C01, W01⟩ := Go.Proofs.YtopkiccdfmjjjaaQ.pairs_C MFnExactOutputExponents.k92 (fun x y => ⟨x, y⟩) (fun s => (Lit.int .i64 s.f0).wf = true ∧ (Lit.int .i64 s.f1).wf = true) rfl (fun w x y => MFnExactOutputExponents.k92_mk w ⟨x, y⟩) (fun _ _ h1 h2 => ⟨h1, h2⟩) Try.underlying22 Try.underlying92 (by kernel_rfl) rfl rfl (by kernel_rfl) (by kernel_rfl) Try.underlying3 Try.underlying3 t01
  obtain ⟨A0_2, c0_2, l0_2, q02, b02, m02, C02, W02⟩ := Go.Proofs.YtopkiccdfmjjjaaQ.ints_C Try.underlying23 Try.underlying3 (by kernel_rfl) t02
  simp at q00 q01 q02
  subst q00 q01 q02
  clear hA0 hval0 hsz0
  obtain ⟨k, h⟩ := Pure.FnExactOutputExponents a0_0 l0_1 l0_2 w0 W01 m01 W02 m02
  refine (MFnExactOutputExponents.laws_FnExactOutputExponents.calls k a0_0 A0_1 c0_1 l0_1 A0_2 c0_2 l0_2 true W C01 b01 C02 b02 h).mono fun e W' ⟨he, bel⟩ => ?_
  subst he
  exact ⟨_, rfl, _, _, _, [], _, [], hW', trodAll_mk1 (shut_bool Try.underlying4 _), (trodAll_cons_mk (Below.trod laidOut (by kernel_rfl) (of_decide_eq_true (by kernel_rfl)) k0 bel lt0) trodAll_mk0), rfl, bel.frame _, fun h => by cases h⟩
theorem over : Rows.fnExactOutputExponentsRow.holds Try.pinned (OpenSpec.ofChange Rows.fnExactOutputExponentsSpec) :=
  OpenClaim.holds_of_wide 11 Try.f11 rfl rfl rfl rfl rfl rfl rfl ⟨rfl, rfl, rfl, rfl, rfl⟩ rfl rfl rfl rfl rfl (by kernel_rfl) Try.func11 (by kernel_rfl)
    (of_decide_eq_true (by kernel_rfl)) (by unfold Func.isWrapper; first | (rw [if_pos (by decide +kernel)]; kernel_rfl) | (rw [if_neg (by decide +kernel)]; exact ⟨rfl, rfl⟩))
    (fun os started H enc _ => lifted os started H enc)
theorem proved : Rows.FnExactOutputExponentsSaid := over
#print axioms proved
end Go.Proofs.Ytopkiccdfmjjjaa.fnExactOutputExponents
namespace Go.Proofs.Ytopkiccdfmjjjaa
/-- The row, under a short name, for the claim. -/
theorem fnExactOutputExponents_holds : Rows.FnExactOutputExponentsSaid := fnExactOutputExponents.proved
end Go.Proofs.Ytopkiccdfmjjjaa
