/- For every n: LeastFactor of the program answers as the reference does. -/
import Derived.Test.YtkhlhhpkleaphaaPFnExactLeastFactorx1
namespace Go.Proofs.Ytkhlhhpkleaphaa.Pure
open Go.RowKit Go.Proofs.Ytkhlhhpkleaphaa.PFnExactLeastFactor Go.Proofs.YtkhlhhpkleaphaaW.PrintWords Go.Proofs.YtkhlhhpkleaphaaW.PrintLast Go.Proofs.YtkhlhhpkleaphaaW.PrintMore

theorem same_loops : ∀ (k : Nat) (n p : Int), spec_meFactor.l0 k n p = impl_leastFactor.l0 k n p
  | 0, _, _ => rfl
  | k + 1, n, p => by rw [spec_meFactor.l0, impl_leastFactor.l0, same_loops k]

theorem sq_big (p : Int) (h : 1001 ≤ p) (h2 : p ≤ 1001) : p * p = 1002001 := by
  obtain rfl : p = 1001 := by omega
  rfl

theorem loop_ends_ (n : Int) (h2 : n ≤ 1000000) : ∀ (d k : Nat) (p : Int), 2 ≤ p → p ≤ 1001 → 1001 - p = d → d < k → ∃ r, impl_leastFactor.l0 k n p = some r := by
  intro d
  induction d with
  | zero =>
    intro k p h0 h1 hd hk
    obtain ⟨k, rfl⟩ : ∃ m, k = m + 1 := ⟨k - 1, by omega⟩
    have hq := sq_big p (by omega) h1
    rw [impl_leastFactor.l0, hq, if_neg (by unfold wrap64; omega)]
    exact ⟨_, rfl⟩
  | succ d ih =>
    intro k p h0 h1 hd hk
    obtain ⟨k, rfl⟩ : ∃ m, k = m + 1 := ⟨k - 1, by omega⟩
    rw [impl_leastFactor.l0]
    split
    · rw [if_neg (by omega)]
      split
      · exact ⟨_, rfl⟩
      · have e : wrap64 (p + 1) = p + 1 := by unfold wrap64; omega
        rw [e]
        exact ih k (p + 1) (by omega) (by omega) (by omega) (by omega)
    · exact ⟨_, rfl⟩

theorem same_f (k : Nat) (n : Int) : spec_LeastFactor.f k n = impl_LeastFactor.f k n := by
  have e : spec_meFactor.f k n = impl_leastFactor.f k n := same_loops k n 2
  unfold spec_LeastFactor.f impl_LeastFactor.f
  rw [e]
  rfl

theorem FnExactLeastFactor : laws_FnExactLeastFactor.Pure := by
  intro n _
  have key : ∃ k r, impl_LeastFactor.f k n = some r := by
    by_cases h1 : 1 ≤ n
    · by_cases h2 : n ≤ 1000000
      · obtain ⟨r, hr⟩ := loop_ends_ n h2 999 1000 2 (by omega) (by omega) (by omega) (by omega)
        refine ⟨1000, ?_⟩
        unfold impl_LeastFactor.f impl_isNumber.f impl_in.f impl_leastFactor.f
        rw [hr, if_pos (by omega)]
        simp only [Option.bind_some, decide_eq_true h2, if_true]
        split
        · exact ⟨_, rfl⟩
        · exact ⟨_, rfl⟩
      · refine ⟨0, ?_⟩
        unfold impl_LeastFactor.f impl_isNumber.f impl_in.f
        rw [if_pos (by omega)]
        simp only [Option.bind_some, decide_eq_false h2]
        exact ⟨_, rfl⟩
    · refine ⟨0, ?_⟩
      unfold impl_LeastFactor.f impl_isNumber.f impl_in.f
      rw [if_neg (by omega)]
      exact ⟨_, rfl⟩
  obtain ⟨k, r, hr⟩ := key
  refine ⟨k, ?_⟩
  unfold laws_FnExactLeastFactor.f
  rw [same_f, hr]
  simp

end Go.Proofs.Ytkhlhhpkleaphaa.Pure
