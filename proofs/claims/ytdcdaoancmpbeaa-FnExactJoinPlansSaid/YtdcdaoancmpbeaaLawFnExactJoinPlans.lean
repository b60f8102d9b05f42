-- Written by wip/mine.py (a program of this repo) for this claim.
import Derived.Test.YtdcdaoancmpbeaaRows
import Derived.Test.YtdcdaoancmpbeaaMFnExactJoinPlansx13
import Derived.Test.YtdcdaoancmpbeaaPureFnExactJoinPlans
import Derived.Test.YtdcdaoancmpbeaaQ
import Derived.WalkKit
import Derived.ProofKit
import Derived.OpenShut
import Derived.ShutString
import Derived.ChangeOld
import Derived.Below
import Derived.SizedLaws
import Derived.Lib.SmallJoins
namespace Go.Proofs.Ytdcdaoancmpbeaa.fnExactJoinPlans
open Go.ChangeShapes Go.WideShapes Go.ChangeAt Go.RowKit
open Go.ChangeMaps (open_string shut_string)
set_option linter.unusedVariables false
theorem own : ownKnob Try.prog.godebug = none := by kernel_rfl
theorem laidOut : laidOutB Try.prog = true := by kernel_rfl
set_option maxRecDepth 100000 in
set_option maxHeartbeats 2000000 in
theorem lifted (os : Os) (started : os.Started) (H : Type) (enc : TypeId × Value → H) :
    ReturnsInHanded {} Try.checked os 3 .any (Rows.fnExactJoinPlansSpec.pre6 enc Try.prog Try.f3 Rows.fnExactJoinPlansRow.domain false) (Rows.fnExactJoinPlansSpec.post enc Try.prog Try.f3 false true false false) := by
  refine returnsInHanded_of_change_sized (C := Try.checked) own started (by kernel_rfl) Try.func3
    (ChangeSpec.witness6 (enc := enc) (C := Try.checked) false ⟨#[], #[.agg #[.int .i64 0, .slice none 0 0, .slice none 0 0], .agg #[.int .i64 0, .slice none 0 0, .slice none 0 0]], []⟩ 8 (by kernel_rfl) (by kernel_rfl) (by kernel_rfl) (by kernel_rfl)) ?_
  intro W base args ds gs before hval0 hW hcnd hsz0 _
  have hval : ∀ (j : Nat) t v, Try.f3.params[j]? = some t → args[j]? = some v → Value.okWide Try.prog W .any base t v := hval0
  have hW' := hW
  obtain ⟨p, q, hA0, hV, rfl, hfz, hnd⟩ := hW
  have hA : DataW.TrodAll enc Try.prog W 0 (fun _ => true) true Try.f3.params.toList args.toList ds p := hA0
  rw [Try.params3] at hA hval
  obtain ⟨v0, vs0, d0, ds0, p0, q0, hargs, rfl, rfl, h0, r0⟩ := trodAll_cons hA
  obtain ⟨v1, vs1, d1, ds1, p1, q1, rfl, rfl, rfl, h1, r1⟩ := trodAll_cons r0
  obtain ⟨rfl, rfl, rfl⟩ := trodAll_nil r1
  obtain rfl : args = #[v0, v1] := by cases args; simp_all
  obtain ⟨rfl, rfl⟩ := trodVars_none hV
  have k0 := h0
  have lt0 : ∀ x ∈ p0, x.block < W.heap.size := by obtain ⟨m, hm⟩ := k0; exact DataW.trod_lt m _ _ _ hm
  obtain ⟨e00, e01, e02, y00, y01, y02, m0, rfl, _, _, t00, t01, t02⟩ := Go.Joins.open_agg3 Try.underlying25 (by kernel_rfl) (by kernel_rfl) (hval 0 25 v0 rfl rfl) h0
  obtain ⟨a0_0, q00, _, w0⟩ := DataW.trod_int Try.underlying3 t00
  obtain ⟨A0_1, c0_1, l0_1, q01, b01, m01, C01, W01⟩ := Go.Proofs.YtdcdaoancmpbeaaQ.pairs_C MFnExactJoinPlans.k93 (fun x y => ⟨x, y⟩) (fun s => (Lit.int .i64 s.f0).wf = true ∧ (Lit.int .i64 s.f1).wf = true) rfl (fun w x y => MFnExactJoinPlans.k93_mk w ⟨x, y⟩) (fun _ _ h1 h2 => ⟨h1, h2⟩) Try.underlying22 Try.underlying93 (by kernel_rfl) rfl rfl (by kernel_rfl) (by kernel_rfl) Try.underlying3 Try.underlying3 t01
  obtain ⟨A0_2, c0_2, l0_2, q02, b02, m02, C02, W02⟩ := Go.Proofs.YtdcdaoancmpbeaaQ.ints_C Try.underlying23 Try.underlying3 (by kernel_rfl) t02
  simp at q00 q01 q02
  subst q00 q01 q02
  have k1 := h1
  have lt1 : ∀ x ∈ p1, x.block < W.heap.size := by obtain ⟨m, hm⟩ := k1; exact DataW.trod_lt m _ _ _ hm
  obtain ⟨e10, e11, e12, y10, y11, y12, m1, rfl, _, _, t10, t11, t12⟩ := Go.Joins.open_agg3 Try.underlying25 (by kernel_rfl) (by kernel_rfl) (hval 1 25 v1 rfl rfl) h1
  obtain ⟨a1_0, q10, _, w1⟩ := DataW.trod_int Try.underlying3 t10
  obtain ⟨A1_1, c1_1, l1_1, q11, b11, m11, C11, W11⟩ := Go.Proofs.YtdcdaoancmpbeaaQ.pairs_C MFnExactJoinPlans.k93 (fun x y => ⟨x, y⟩) (fun s => (Lit.int .i64 s.f0).wf = true ∧ (Lit.int .i64 s.f1).wf = true) rfl (fun w x y => MFnExactJoinPlans.k93_mk w ⟨x, y⟩) (fun _ _ h1 h2 => ⟨h1, h2⟩) Try.underlying22 Try.underlying93 (by kernel_rfl) rfl rfl (by kernel_rfl) (by kernel_rfl) Try.underlying3 Try.underlying3 t11
  obtain ⟨A1_2, c1_2, l1_2, q12, b12, m12, C12, W12⟩ := Go.Proofs.YtdcdaoancmpbeaaQ.ints_C Try.underlying23 Try.underlying3 (by kernel_rfl) t12
  simp at q10 q11 q12
  subst q10 q11 q12
  clear hA0 hval0 hsz0
  obtain ⟨k, h⟩ := Pure.FnExactJoinPlans a0_0 l0_1 l0_2 a1_0 l1_1 l1_2 w0 W01 m01 W02 m02 w1 W11 m11 W12 m12
  refine (MFnExactJoinPlans.laws_FnExactJoinPlans.calls k a0_0 A0_1 c0_1 l0_1 A0_2 c0_2 l0_2 a1_0 A1_1 c1_1 l1_1 A1_2 c1_2 l1_2 true W C01 b01 C02 b02 C11 b11 C12 b12 h).mono fun e W' ⟨he, bel⟩ => ?_
  subst he
  exact ⟨_, rfl, _, _, _, [], _, [], hW', trodAll_mk1 (shut_bool Try.underlying4 _), (trodAll_cons_mk (Below.trod laidOut (by kernel_rfl) (of_decide_eq_true (by kernel_rfl)) k0 bel lt0) (trodAll_cons_mk (Below.trod laidOut (by kernel_rfl) (of_decide_eq_true (by kernel_rfl)) k1 bel lt1) trodAll_mk0)), rfl, bel.frame _, fun h => by cases h⟩
theorem over : Rows.fnExactJoinPlansRow.holds Try.pinned (OpenSpec.ofChange Rows.fnExactJoinPlansSpec) :=
  OpenClaim.holds_of_wide 3 Try.f3 rfl rfl rfl rfl rfl rfl rfl ⟨rfl, rfl, rfl, rfl, rfl⟩ rfl rfl rfl rfl rfl (by kernel_rfl) Try.func3 (by kernel_rfl)
    (of_decide_eq_true (by kernel_rfl)) (by unfold Func.isWrapper; first | (rw [if_pos (by decide +kernel)]; kernel_rfl) | (rw [if_neg (by decide +kernel)]; exact ⟨rfl, rfl⟩))
    (fun os started H enc _ => lifted os started H enc)
theorem proved : Rows.FnExactJoinPlansSaid := over
#print axioms proved
end Go.Proofs.Ytdcdaoancmpbeaa.fnExactJoinPlans
namespace Go.Proofs.Ytdcdaoancmpbeaa
/-- The row, under a short name, for the claim. -/
theorem fnExactJoinPlans_holds : Rows.FnExactJoinPlansSaid := fnExactJoinPlans.proved
end Go.Proofs.Ytdcdaoancmpbeaa
