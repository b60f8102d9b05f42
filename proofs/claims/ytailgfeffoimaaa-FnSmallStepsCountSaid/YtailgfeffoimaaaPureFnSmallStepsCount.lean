/- The length of a chain is its number of small steps plus the bit length of its end, less 1. -/
import Derived.Test.YtailgfeffoimaaaMFnSmallStepsCountx8
namespace Go.Proofs.Ytailgfeffoimaaa.Pure
open Go.RowKit Go.Proofs.Ytailgfeffoimaaa.MFnSmallStepsCount Go.Proofs.YtailgfeffoimaaaW.PrintWords Go.Proofs.YtailgfeffoimaaaW.PrintLast Go.Proofs.YtailgfeffoimaaaW.PrintMore
set_option linter.unusedVariables false
set_option linter.unusedSimpArgs false
theorem w64 {x : Int} (h1 : -9223372036854775808 ≤ x) (h2 : x ≤ 9223372036854775807) : wrap64 x = x := by unfold wrap64; omega

theorem rd_nat (xs : List Int) (j : Nat) : rd xs (j : Int) = xs.getD j 0 := by unfold rd; rw [Int.toNat_natCast]

theorem ev_shift {α : Type} {g : Nat → Option α} {r : α} (h : Ev (fun k => g (k + 1)) r) : Ev g r := by
  obtain ⟨K, hK⟩ := h
  refine ⟨K + 1, fun k hk => ?_⟩
  obtain ⟨m, rfl⟩ : ∃ m, k = m + 1 := ⟨k - 1, by omega⟩
  exact hK m (by omega)

theorem ev_bind {α β : Type} {g : Nat → Option α} {F : Nat → α → Option β} {a : α} {r : β} (h : Ev g a) (k : Ev (fun n => F n a) r) : Ev (fun n => (g n).bind (fun x => F n x)) r := Ev.bind h k

theorem ev_some {α : Type} {g : Nat → Option α} {r : α} (h : ∀ k, g k = some r) : Ev g r := ⟨0, fun k _ => h k⟩

abbrev St := S51
def inner (xs : List Int) (k j : Int) : Nat → Int → List St
  | 0, _ => []
  | d + 1, i => if wrap64 (rd xs i + rd xs j) = rd xs k then ⟨i, j⟩ :: inner xs k j d (i + 1) else inner xs k j d (i + 1)
def outer (xs : List Int) (k : Int) : Nat → Int → List St
  | 0, _ => []
  | d + 1, j => inner xs k j (j + 1).toNat 0 ++ outer xs k d (j + 1)
def sumsOf (xs : List Int) (k : Int) : List St := outer xs k k.toNat 0

theorem inner_length (xs : List Int) (k j : Int) : ∀ (d : Nat) (i : Int), (inner xs k j d i).length ≤ d
  | 0, _ => Nat.le_refl _
  | d + 1, i => by
    have := inner_length xs k j d (i + 1)
    unfold inner
    split
    · simp only [List.length_cons]; omega
    · omega

theorem spec_inner (xs : List Int) (k j : Int) (r : List St) (hj : 0 ≤ j) (hjk : j < k) (hk : k < xs.length) (hl : xs.length ≤ 100000) : ∀ (d : Nat) (i : Int) (acc : List St), 0 ≤ i → i + d = j + 1 → acc.length + d ≤ 8000000000000 →
    Ev (fun f => spec_chPairs.l0 f xs k (acc ++ inner xs k j d i) (j + 1)) r → Ev (fun f => spec_chPairs.l1 f xs k acc j i) r := by
  intro d
  induction d with
  | zero =>
    intro i acc hi hd _ h
    refine ev_shift ?_
    simp only [spec_chPairs.l1, if_neg (show ¬ i ≤ j by omega), w64 (show -9223372036854775808 ≤ j + 1 by omega) (by omega)]
    simpa [inner] using h
  | succ d ih =>
    intro i acc hi hd hacc h
    refine ev_shift ?_
    simp only [spec_chPairs.l1, if_pos (show i ≤ j by omega), if_pos hi, if_pos (show i < (xs.length : Int) by omega), if_pos hj, if_pos (show j < (xs.length : Int) by omega), if_pos (show 0 ≤ k by omega), if_pos hk,
      w64 (show -9223372036854775808 ≤ i + 1 by omega) (by omega)]
    by_cases c : wrap64 (rd xs i + rd xs j) = rd xs k
    · simp only [if_pos c, if_pos (show acc.length < 8796093022208 by omega)]
      refine ih (i + 1) (acc ++ [⟨i, j⟩]) (by omega) (by omega) (by simp only [List.length_append, List.length_singleton]; omega) ?_
      simpa [inner, c] using h
    · simp only [if_neg c]
      refine ih (i + 1) acc (by omega) (by omega) (by omega) ?_
      simpa [inner, c] using h

theorem spec_outer (xs : List Int) (k : Int) (hk : k < xs.length) (hl : xs.length ≤ 100000) : ∀ (d : Nat) (j : Int) (acc : List St), 0 ≤ j → j + d = k → acc.length + d * 100001 ≤ 8000000000000 →
    Ev (fun f => spec_chPairs.l0 f xs k acc j) (acc ++ outer xs k d j) := by
  intro d
  induction d with
  | zero =>
    intro j acc hj hd _
    refine ev_shift ?_
    simp only [spec_chPairs.l0, if_neg (show ¬ j < k by omega), outer, List.append_nil]
    exact Ev.now _
  | succ d ih =>
    intro j acc hj hd hacc
    refine ev_shift ?_
    simp only [spec_chPairs.l0, if_pos (show j < k by omega)]
    have hi := inner_length xs k j (j + 1).toNat 0
    refine spec_inner xs k j _ hj (by omega) hk hl (j + 1).toNat 0 acc (by omega) (by omega) (by omega) ?_
    have h := ih (j + 1) (acc ++ inner xs k j (j + 1).toNat 0) (by omega) (by omega) (by rw [List.length_append]; omega)
    simpa [outer] using h

theorem chPairs_ev (xs : List Int) (k : Int) (h0 : 0 ≤ k) (hk : k < xs.length) (hl : xs.length ≤ 100000) : Ev (fun f => spec_chPairs.f f xs k) (sumsOf xs k) := by
  have h := spec_outer xs k hk hl k.toNat 0 [] (by omega) (by omega) (by simp only [List.length_nil]; omega)
  simpa [sumsOf, spec_chPairs.f] using h

theorem impl_inner (xs : List Int) (k j : Int) (r : List St) (hj : 0 ≤ j) (hjk : j < k) (hk : k < xs.length) (hl : xs.length ≤ 100000) : ∀ (d : Nat) (i : Int) (acc : List St), 0 ≤ i → i + d = j + 1 → acc.length + d ≤ 8000000000000 →
    Ev (fun f => impl_sums.l0 f xs k (acc ++ inner xs k j d i) k (j + 1)) r → Ev (fun f => impl_sums.l1 f xs k acc j k j (j + 1) i) r := by
  intro d
  induction d with
  | zero =>
    intro i acc hi hd _ h
    refine ev_shift ?_
    simp only [impl_sums.l1, if_neg (show ¬ i < j + 1 by omega), w64 (show -9223372036854775808 ≤ j + 1 by omega) (by omega)]
    simpa [inner] using h
  | succ d ih =>
    intro i acc hi hd hacc h
    refine ev_shift ?_
    simp only [impl_sums.l1, if_pos (show i < j + 1 by omega), if_pos hi, if_pos (show i < (xs.length : Int) by omega), if_pos hj, if_pos (show j < (xs.length : Int) by omega), if_pos (show 0 ≤ k by omega), if_pos hk,
      w64 (show -9223372036854775808 ≤ i + 1 by omega) (by omega)]
    by_cases c : wrap64 (rd xs i + rd xs j) = rd xs k
    · simp only [if_pos c, if_pos (show acc.length < 8796093022208 by omega)]
      refine ih (i + 1) (acc ++ [⟨i, j⟩]) (by omega) (by omega) (by simp only [List.length_append, List.length_singleton]; omega) ?_
      simpa [inner, c] using h
    · simp only [if_neg c]
      refine ih (i + 1) acc (by omega) (by omega) (by omega) ?_
      simpa [inner, c] using h

theorem impl_outer (xs : List Int) (k : Int) (hk : k < xs.length) (hl : xs.length ≤ 100000) : ∀ (d : Nat) (j : Int) (acc : List St), 0 ≤ j → j + d = k → acc.length + d * 100001 ≤ 8000000000000 →
    Ev (fun f => impl_sums.l0 f xs k acc k j) (acc ++ outer xs k d j) := by
  intro d
  induction d with
  | zero =>
    intro j acc hj hd _
    refine ev_shift ?_
    simp only [impl_sums.l0, if_neg (show ¬ j < k by omega), outer, List.append_nil]
    exact Ev.now _
  | succ d ih =>
    intro j acc hj hd hacc
    refine ev_shift ?_
    simp only [impl_sums.l0, if_pos (show j < k by omega), w64 (show -9223372036854775808 ≤ j + 1 by omega) (by omega)]
    have hi := inner_length xs k j (j + 1).toNat 0
    refine impl_inner xs k j _ hj (by omega) hk hl (j + 1).toNat 0 acc (by omega) (by omega) (by omega) ?_
    have h := ih (j + 1) (acc ++ inner xs k j (j + 1).toNat 0) (by omega) (by omega) (by rw [List.length_append]; omega)
    simpa [outer] using h

theorem sums_ev (xs : List Int) (k : Int) (h0 : 0 ≤ k) (hk : k < xs.length) (hl : xs.length ≤ 100000) : Ev (fun f => impl_sums.f f xs k) (sumsOf xs k) := by
  have h := impl_outer xs k hk hl k.toNat 0 [] (by omega) (by omega) (by simp only [List.length_nil]; omega)
  simpa [sumsOf, impl_sums.f] using h

/-! the chain's test, in both ways -/
def risingFrom (xs : List Int) : Nat → Int → Bool
  | 0, _ => true
  | d + 1, i => if rd xs i ≥ 1 then (if rd xs i ≤ 1000000 then (if i > 0 then (if rd xs (i - 1) ≥ rd xs i then false else risingFrom xs d (i + 1)) else risingFrom xs d (i + 1)) else false) else false
def pairsFrom (xs : List Int) : Nat → Int → Bool
  | 0, _ => true
  | d + 1, k => if (sumsOf xs k).length = 0 then false else pairsFrom xs d (k + 1)
def implFrom (xs : List Int) : Nat → Int → Bool
  | 0, _ => true
  | d + 1, k => if rd xs k ≤ rd xs (k - 1) then false else if rd xs k > 1000000 then false else if (sumsOf xs k).length = 0 then false else implFrom xs d (k + 1)
/-- Is it a chain? -/
def chain (xs : List Int) : Bool := if 1 ≤ xs.length ∧ xs.length ≤ 41 then (if rd xs 0 = 1 then implFrom xs (xs.length - 1) 1 else false) else false

theorem from_same (xs : List Int) : ∀ (d : Nat) (i : Int), 1 ≤ i → 1 ≤ rd xs (i - 1) → (risingFrom xs d i && pairsFrom xs d i) = implFrom xs d i
  | 0, _, _, _ => rfl
  | d + 1, i, h1, h2 => by
    unfold risingFrom pairsFrom implFrom
    rw [if_pos (show i > 0 by omega)]
    by_cases c1 : rd xs i ≤ rd xs (i - 1)
    · rw [if_pos c1, if_pos (show rd xs (i - 1) ≥ rd xs i from c1)]
      split
      · split <;> rfl
      · rfl
    · rw [if_neg c1, if_neg (show ¬ rd xs (i - 1) ≥ rd xs i from c1), if_pos (show rd xs i ≥ 1 by omega)]
      by_cases c2 : rd xs i > 1000000
      · rw [if_pos c2, if_neg (by omega)]; rfl
      · rw [if_neg c2, if_pos (by omega)]
        by_cases c3 : (sumsOf xs i).length = 0
        · rw [if_pos c3, if_pos c3, Bool.and_false]
        · rw [if_neg c3, if_neg c3]
          have e : i + 1 - 1 = i := by omega
          exact from_same xs d (i + 1) (by omega) (by rw [e]; omega)

theorem l1In_eq (a b c : Int) : spec_l1In.f a b c = some (decide (b ≤ a) && decide (a ≤ c)) := by
  unfold spec_l1In.f
  by_cases h : a ≥ b
  · rw [if_pos h]; simp [show b ≤ a from h]
  · rw [if_neg h]; simp [show ¬ b ≤ a from h]
theorem in_eq (a b c : Int) : impl_in.f a b c = some (decide (b ≤ a) && decide (a ≤ c)) := by
  unfold impl_in.f
  by_cases h : a ≥ b
  · rw [if_pos h]; simp [show b ≤ a from h]
  · rw [if_neg h]; simp [show ¬ b ≤ a from h]

theorem rising_ev (xs : List Int) (hl : xs.length ≤ 100000) : ∀ (d : Nat) (i : Int), 0 ≤ i → i + d = xs.length → Ev (fun f => spec_l1Rising.l0 f xs 1 1000000 xs xs.length i) (risingFrom xs d i) := by
  intro d
  induction d with
  | zero =>
    intro i h0 hd
    refine ev_shift ?_
    simp only [spec_l1Rising.l0, if_neg (show ¬ i < (xs.length : Int) by omega), risingFrom]
    exact Ev.now _
  | succ d ih =>
    intro i h0 hd
    have hn := ih (i + 1) (by omega) (by omega)
    refine ev_shift ?_
    simp only [spec_l1Rising.l0, if_pos (show i < (xs.length : Int) by omega), if_pos h0, w64 (show -9223372036854775808 ≤ i + 1 by omega) (by omega), w64 (show -9223372036854775808 ≤ i - 1 by omega) (by omega), l1In_eq, Option.bind_some]
    unfold risingFrom
    by_cases c1 : rd xs i ≥ 1
    · by_cases c2 : rd xs i ≤ 1000000
      · rw [if_pos c1, if_pos c2]
        simp only [decide_eq_true (show 1 ≤ rd xs i from c1), decide_eq_true c2, Bool.and_self, if_true]
        by_cases c3 : i > 0
        · simp only [if_pos c3, if_pos (show 0 ≤ i - 1 by omega), if_pos (show i - 1 < (xs.length : Int) by omega)]
          by_cases c4 : rd xs (i - 1) ≥ rd xs i
          · simp only [if_pos c4]; exact Ev.now _
          · simp only [if_neg c4]; exact hn
        · simp only [if_neg c3]; exact hn
      · rw [if_pos c1, if_neg c2]
        simp only [decide_eq_false c2, Bool.and_false, Bool.false_eq_true, if_false]
        exact Ev.now _
    · rw [if_neg c1]
      simp only [decide_eq_false (show ¬ 1 ≤ rd xs i from c1), Bool.false_and, Bool.false_eq_true, if_false]
      exact Ev.now _

theorem pairs_ev (xs : List Int) (hl : xs.length ≤ 100000) : ∀ (d : Nat) (k : Int), 0 ≤ k → k + d = xs.length → Ev (fun f => spec_chGood.l0 f xs k) (pairsFrom xs d k) := by
  intro d
  induction d with
  | zero =>
    intro i h0 hd
    refine ev_shift ?_
    simp only [spec_chGood.l0, if_neg (show ¬ i < (xs.length : Int) by omega), pairsFrom]
    exact Ev.now _
  | succ d ih =>
    intro i h0 hd
    have hn := ih (i + 1) (by omega) (by omega)
    refine ev_shift ?_
    simp only [spec_chGood.l0, if_pos (show i < (xs.length : Int) by omega), w64 (show -9223372036854775808 ≤ i + 1 by omega) (by omega)]
    refine ev_bind (chPairs_ev xs i h0 (by omega) hl) ?_
    unfold pairsFrom
    by_cases c : (sumsOf xs i).length = 0
    · simp only [if_pos c, if_pos (show ((sumsOf xs i).length : Int) = 0 by omega)]; exact Ev.now _
    · simp only [if_neg c, if_neg (show ¬ ((sumsOf xs i).length : Int) = 0 by omega)]; exact hn

theorem implFrom_ev (xs : List Int) (hl : xs.length ≤ 100000) : ∀ (d : Nat) (k : Int), 1 ≤ k → k + d = xs.length → Ev (fun f => impl_IsChain.l0 f xs k) (implFrom xs d k) := by
  intro d
  induction d with
  | zero =>
    intro i h0 hd
    refine ev_shift ?_
    simp only [impl_IsChain.l0, if_neg (show ¬ i < (xs.length : Int) by omega), implFrom]
    exact Ev.now _
  | succ d ih =>
    intro i h0 hd
    have hn := ih (i + 1) (by omega) (by omega)
    refine ev_shift ?_
    simp only [impl_IsChain.l0, if_pos (show i < (xs.length : Int) by omega), if_pos (show 0 ≤ i by omega), w64 (show -9223372036854775808 ≤ i + 1 by omega) (by omega), w64 (show -9223372036854775808 ≤ i - 1 by omega) (by omega), if_pos (show 0 ≤ i - 1 by omega), if_pos (show i - 1 < (xs.length : Int) by omega)]
    unfold implFrom
    by_cases c1 : rd xs i ≤ rd xs (i - 1)
    · simp only [if_pos c1]; exact Ev.now _
    · simp only [if_neg c1]
      by_cases c2 : rd xs i > 1000000
      · simp only [if_pos c2]; exact Ev.now _
      · simp only [if_neg c2]
        refine ev_bind (sums_ev xs i (by omega) (by omega) hl) ?_
        by_cases c : (sumsOf xs i).length = 0
        · simp only [if_pos c, if_pos (show ((sumsOf xs i).length : Int) = 0 by omega)]; exact Ev.now _
        · simp only [if_neg c, if_neg (show ¬ ((sumsOf xs i).length : Int) = 0 by omega)]; exact hn

theorem isChain_ev (xs : List Int) (hl : xs.length ≤ 1048576) : Ev (fun f => impl_IsChain.f f xs) (chain xs) := by
  unfold impl_IsChain.f chain
  simp only [in_eq, Option.bind_some]
  by_cases c : 1 ≤ xs.length ∧ xs.length ≤ 41
  · simp only [if_pos c, decide_eq_true (show (1 : Int) ≤ xs.length by omega), decide_eq_true (show (xs.length : Int) ≤ 41 by omega), Bool.and_self, if_true, if_pos (show (0 : Int) < xs.length by omega)]
    by_cases c1 : rd xs 0 = 1
    · simp only [if_pos c1]
      refine ev_shift ?_
      simp only [impl_IsChain.j0, c1, bne_self_eq_false, Bool.false_eq_true, if_false]
      exact implFrom_ev xs (by omega) (xs.length - 1) 1 (by omega) (by omega)
    · simp only [if_neg c1]
      refine ev_shift ?_
      simp only [impl_IsChain.j0, bne_iff_ne.mpr c1, if_true]
      exact Ev.now _
  · rw [if_neg c]
    have e : (decide ((1 : Int) ≤ xs.length) && decide ((xs.length : Int) ≤ 41)) = false := by
      rw [Bool.and_eq_false_iff, decide_eq_false_iff_not, decide_eq_false_iff_not]; omega
    simp only [e, Bool.false_eq_true, if_false]
    refine ev_shift ?_
    simp only [impl_IsChain.j0, if_true]
    exact Ev.now _

theorem chGood_ev (xs : List Int) (hl : xs.length ≤ 1048576) : Ev (fun f => spec_chGood.f f xs) (chain xs) := by
  unfold spec_chGood.f chain
  simp only [l1In_eq, Option.bind_some]
  by_cases c : 1 ≤ xs.length ∧ xs.length ≤ 41
  · simp only [if_pos c, decide_eq_true (show (1 : Int) ≤ xs.length by omega), decide_eq_true (show (xs.length : Int) ≤ 41 by omega), Bool.and_self, if_true, if_pos (show (0 : Int) < xs.length by omega)]
    by_cases c1 : rd xs 0 = 1
    · simp only [if_pos c1]
      unfold spec_l1Rising.f
      refine ev_bind (rising_ev xs (by omega) xs.length 0 (by omega) (by omega)) ?_
      obtain ⟨n, hn⟩ : ∃ n, xs.length = n + 1 := ⟨xs.length - 1, by omega⟩
      have e1 : risingFrom xs xs.length 0 = risingFrom xs n 1 := by
        rw [hn, risingFrom, c1, if_pos (by decide), if_pos (by decide), if_neg (by decide)]
        rfl
      have e2 : xs.length - 1 = n := by omega
      rw [e1, e2, ← from_same xs n 1 (by omega) (by rw [show (1 : Int) - 1 = 0 from rfl, c1]; omega)]
      refine ev_shift ?_
      simp only [spec_chGood.j0]
      cases hr : risingFrom xs n 1 with
      | false =>
        simp only [Bool.not_false, if_true, Bool.false_and]
        exact Ev.now _
      | true =>
        simp only [Bool.not_true, Bool.false_eq_true, if_false, Bool.true_and]
        exact pairs_ev xs (by omega) n 1 (by omega) (by omega)
    · simp only [if_neg c1]
      refine ev_shift ?_
      simp only [spec_chGood.j0, if_true]
      exact Ev.now _
  · rw [if_neg c]
    have e : (decide ((1 : Int) ≤ xs.length) && decide ((xs.length : Int) ≤ 41)) = false := by
      rw [Bool.and_eq_false_iff, decide_eq_false_iff_not, decide_eq_false_iff_not]; omega
    simp only [e, Bool.false_eq_true, if_false]
    refine ev_shift ?_
    simp only [spec_chGood.j0, if_true]
    exact Ev.now _

theorem implFrom_head (xs : List Int) (d : Nat) (k : Int) (h : implFrom xs (d + 1) k = true) : (sumsOf xs k).length ≠ 0 ∧ implFrom xs d (k + 1) = true ∧ rd xs (k - 1) < rd xs k ∧ rd xs k ≤ 1000000 := by
  unfold implFrom at h
  split at h
  · cases h
  · split at h
    · cases h
    · split at h
      · cases h
      · rename_i a b c
        exact ⟨c, h, by omega, by omega⟩
theorem chain_from (xs : List Int) (h : chain xs = true) : 1 ≤ xs.length ∧ xs.length ≤ 41 ∧ rd xs 0 = 1 ∧ implFrom xs (xs.length - 1) 1 = true := by
  unfold chain at h
  split at h
  · rename_i c
    split at h
    · rename_i c1
      exact ⟨c.1, c.2, c1, h⟩
    · cases h
  · cases h

abbrev rdS (ss : List St) (i : Int) : St := rd_T51 ss i
theorem outer_length (xs : List Int) (k : Int) : ∀ (d : Nat) (j : Int), 0 ≤ j → j + d ≤ 100000 → (outer xs k d j).length ≤ d * 100001
  | 0, _, _, _ => Nat.le_refl _
  | d + 1, j, h0, h1 => by
    have h2 := outer_length xs k d (j + 1) (by omega) (by omega)
    have h3 := inner_length xs k j (j + 1).toNat 0
    unfold outer
    rw [List.length_append]
    omega
theorem sums_length (xs : List Int) (k : Int) (h0 : 0 ≤ k) (h1 : k ≤ 100000) : (sumsOf xs k).length ≤ 10000100000 := by
  have := outer_length xs k k.toNat 0 (by omega) (by omega)
  unfold sumsOf
  omega
def lastOf (ss : List St) : St := rdS ss (ss.length - 1)
def stepsFrom (xs : List Int) : Nat → Int → List St
  | 0, _ => []
  | d + 1, k => lastOf (sumsOf xs k) :: stepsFrom xs d (k + 1)
theorem stepsFrom_length (xs : List Int) : ∀ (d : Nat) (k : Int), (stepsFrom xs d k).length = d
  | 0, _ => rfl
  | d + 1, k => by rw [stepsFrom, List.length_cons, stepsFrom_length xs d (k + 1)]
/-- ChainSteps of a chain. -/
def stepsOf (xs : List Int) : List St := stepsFrom xs (xs.length - 1) 1

theorem chainSteps_loop (xs : List Int) (hl : xs.length ≤ 100000) : ∀ (d : Nat) (k : Int) (acc : List St), 1 ≤ k → k + d = xs.length → acc.length + d ≤ 8000000000000 → implFrom xs d k = true → Ev (fun f => impl_chainSteps.l0 f xs acc k) (acc ++ stepsFrom xs d k) := by
  intro d
  induction d with
  | zero =>
    intro k acc h0 hd _ _
    refine ev_shift ?_
    simp only [impl_chainSteps.l0, if_neg (show ¬ k < (xs.length : Int) by omega), stepsFrom, List.append_nil]
    exact Ev.now _
  | succ d ih =>
    intro k acc h0 hd ha hi
    obtain ⟨h1, h2, _, _⟩ := implFrom_head xs d k hi
    have h3 := sums_length xs k (by omega) (by omega)
    refine ev_shift ?_
    simp only [impl_chainSteps.l0, if_pos (show k < (xs.length : Int) by omega), w64 (show -9223372036854775808 ≤ k + 1 by omega) (by omega)]
    refine ev_bind (sums_ev xs k (by omega) (by omega) hl) ?_
    simp only [w64 (show -9223372036854775808 ≤ ((sumsOf xs k).length : Int) - 1 by omega) (by omega), if_pos (show 0 ≤ ((sumsOf xs k).length : Int) - 1 by omega), if_pos (show ((sumsOf xs k).length : Int) - 1 < (sumsOf xs k).length by omega), if_pos (show acc.length < 8796093022208 by omega)]
    have h := ih (k + 1) (acc ++ [lastOf (sumsOf xs k)]) (by omega) (by omega) (by simp only [List.length_append, List.length_singleton]; omega) h2
    simp only [List.append_assoc, List.singleton_append] at h
    exact h

theorem chainSteps_ev (xs : List Int) (h : chain xs = true) : Ev (fun f => impl_chainSteps.f f xs) (stepsOf xs) := by
  obtain ⟨h1, h2, _, h4⟩ := chain_from xs h
  have := chainSteps_loop xs (by omega) (xs.length - 1) 1 [] (by omega) (by omega) (by simp only [List.length_nil]; omega) h4
  simpa [stepsOf, impl_chainSteps.f] using this
theorem stepsOf_length (xs : List Int) (h : chain xs = true) : (stepsOf xs).length ≤ 40 := by
  obtain ⟨h1, h2, _, _⟩ := chain_from xs h
  unfold stepsOf
  rw [stepsFrom_length]
  omega

def starFrom (ss : List St) : Nat → Int → Bool
  | 0, _ => true
  | d + 1, i => if (rdS ss i).f1 = i then starFrom ss d (i + 1) else false
theorem step_loop (ss : List St) (hl : ss.length ≤ 100000) : ∀ (d : Nat) (i : Int), 0 ≤ i → i + d = ss.length → Ev (fun f => impl_IsStepByStep.l0 f ss ss.length i) (starFrom ss d i, true) := by
  intro d
  induction d with
  | zero =>
    intro i h0 hd
    refine ev_shift ?_
    simp only [impl_IsStepByStep.l0, if_neg (show ¬ i < (ss.length : Int) by omega), starFrom]
    exact Ev.now _
  | succ d ih =>
    intro i h0 hd
    have hn := ih (i + 1) (by omega) (by omega)
    refine ev_shift ?_
    simp only [impl_IsStepByStep.l0, if_pos (show i < (ss.length : Int) by omega), if_pos h0, w64 (show -9223372036854775808 ≤ i + 1 by omega) (by omega)]
    unfold starFrom
    by_cases c : (rdS ss i).f1 = i
    · rw [if_pos c]; simp only [if_pos c]; exact hn
    · rw [if_neg c]; simp only [if_neg c]; exact Ev.now _
/-- IsStepByStep. -/
def isStep (xs : List Int) : Bool × Bool := if chain xs = true then (starFrom (stepsOf xs) (stepsOf xs).length 0, true) else (false, false)
theorem implStep_ev (xs : List Int) (hl : xs.length ≤ 1048576) : Ev (fun f => impl_IsStepByStep.f f xs) (isStep xs) := by
  unfold impl_IsStepByStep.f isStep
  refine ev_bind (isChain_ev xs hl) ?_
  by_cases c : chain xs = true
  · simp only [c, if_true]
    exact ev_bind (chainSteps_ev xs c) (step_loop _ (by have := stepsOf_length xs c; omega) _ 0 (by omega) (by omega))
  · simp only [if_neg c]; exact Ev.now _

/-- the table of the bit lengths of bytes -/
def len8 : ByteArray := (⟨#[0, 1, 2, 2, 3, 3, 3, 3, 4, 4, 4, 4, 4, 4, 4, 4, 5, 5, 5, 5, 5, 5, 5, 5, 5, 5, 5, 5, 5, 5, 5, 5, 6, 6, 6, 6, 6, 6, 6, 6, 6, 6, 6, 6, 6, 6, 6, 6, 6, 6, 6, 6, 6, 6, 6, 6, 6, 6, 6, 6, 6, 6, 6, 6, 7, 7, 7, 7, 7, 7, 7, 7, 7, 7, 7, 7, 7, 7, 7, 7, 7, 7, 7, 7, 7, 7, 7, 7, 7, 7, 7, 7, 7, 7, 7, 7, 7, 7, 7, 7, 7, 7, 7, 7, 7, 7, 7, 7, 7, 7, 7, 7, 7, 7, 7, 7, 7, 7, 7, 7, 7, 7, 7, 7, 7, 7, 7, 7, 8, 8, 8, 8, 8, 8, 8, 8, 8, 8, 8, 8, 8, 8, 8, 8, 8, 8, 8, 8, 8, 8, 8, 8, 8, 8, 8, 8, 8, 8, 8, 8, 8, 8, 8, 8, 8, 8, 8, 8, 8, 8, 8, 8, 8, 8, 8, 8, 8, 8, 8, 8, 8, 8, 8, 8, 8, 8, 8, 8, 8, 8, 8, 8, 8, 8, 8, 8, 8, 8, 8, 8, 8, 8, 8, 8, 8, 8, 8, 8, 8, 8, 8, 8, 8, 8, 8, 8, 8, 8, 8, 8, 8, 8, 8, 8, 8, 8, 8, 8, 8, 8, 8, 8, 8, 8, 8, 8, 8, 8, 8, 8, 8, 8, 8, 8, 8, 8, 8, 8, 8, 8, 8, 8, 8, 8, 8, 8]⟩ : ByteArray)
theorem len8_1 : ∀ i : Nat, i < 2 → 1 ≤ i → bt len8 (i : Int) = 1 := by decide +kernel
theorem len8_2 : ∀ i : Nat, i < 4 → 2 ≤ i → bt len8 (i : Int) = 2 := by decide +kernel
theorem len8_3 : ∀ i : Nat, i < 8 → 4 ≤ i → bt len8 (i : Int) = 3 := by decide +kernel
theorem len8_4 : ∀ i : Nat, i < 16 → 8 ≤ i → bt len8 (i : Int) = 4 := by decide +kernel
theorem len8_5 : ∀ i : Nat, i < 32 → 16 ≤ i → bt len8 (i : Int) = 5 := by decide +kernel
theorem len8_6 : ∀ i : Nat, i < 64 → 32 ≤ i → bt len8 (i : Int) = 6 := by decide +kernel
theorem len8_7 : ∀ i : Nat, i < 128 → 64 ≤ i → bt len8 (i : Int) = 7 := by decide +kernel
theorem len8_8 : ∀ i : Nat, i < 256 → 128 ≤ i → bt len8 (i : Int) = 8 := by decide +kernel

theorem u64_id (n : Int) (h0 : 0 ≤ n) (h1 : n ≤ 1000000) : IntKind.u64.wrap n = n := by
  simp only [IntKind.wrap, IntKind.signed, IntKind.bits, Bool.false_and, Bool.false_eq_true, if_false]
  omega

theorem len8_fact (i : Int) (h0 : 1 ≤ i) (h1 : i < 256) : ∃ t : Nat, bt len8 i = t ∧ 1 ≤ t ∧ t ≤ 8 ∧ (2 : Int) ^ (t - 1) ≤ i ∧ i < 2 ^ t := by
  obtain ⟨j, rfl⟩ := Int.eq_ofNat_of_zero_le (show 0 ≤ i by omega)
  by_cases c1 : j < 2
  · exact ⟨1, len8_1 j c1 (by omega), by decide, by decide, by simp; omega, by simp; omega⟩
  by_cases c2 : j < 4
  · exact ⟨2, len8_2 j c2 (by omega), by decide, by decide, by simp; omega, by simp; omega⟩
  by_cases c3 : j < 8
  · exact ⟨3, len8_3 j c3 (by omega), by decide, by decide, by simp; omega, by simp; omega⟩
  by_cases c4 : j < 16
  · exact ⟨4, len8_4 j c4 (by omega), by decide, by decide, by simp; omega, by simp; omega⟩
  by_cases c5 : j < 32
  · exact ⟨5, len8_5 j c5 (by omega), by decide, by decide, by simp; omega, by simp; omega⟩
  by_cases c6 : j < 64
  · exact ⟨6, len8_6 j c6 (by omega), by decide, by decide, by simp; omega, by simp; omega⟩
  by_cases c7 : j < 128
  · exact ⟨7, len8_7 j c7 (by omega), by decide, by decide, by simp; omega, by simp; omega⟩
  by_cases c8 : j < 256
  · exact ⟨8, len8_8 j c8 (by omega), by decide, by decide, by simp; omega, by simp; omega⟩
  exact absurd h1 (by omega)

set_option maxRecDepth 100000 in
/-- bits.Len of a number: the L with 2^(L-1) ≤ n < 2^L. -/
theorem len_ev (n : Int) (h0 : 1 ≤ n) (h1 : n ≤ 1000000) : ∃ L : Nat, 1 ≤ L ∧ L ≤ 20 ∧ (2 : Int) ^ (L - 1) ≤ n ∧ n < 2 ^ L ∧ Ev (fun k => bits_Len.f k (IntKind.u64.wrap n)) (L : Int) := by
  have key : ∃ L : Nat, 1 ≤ L ∧ L ≤ 20 ∧ (2 : Int) ^ (L - 1) ≤ n ∧ n < 2 ^ L ∧ Ev (fun k => bits_Len64.j0 k n 0) (L : Int) := by
    by_cases c1 : n ≥ 65536
    · have q0 : 1 ≤ n / 65536 := by omega
      have q1 : n / 65536 < 256 := by omega
      have m : n / 65536 % 256 = n / 65536 := by omega
      obtain ⟨t, ht, t1, t8, p1, p2⟩ := len8_fact (n / 65536) q0 q1
      have hn : (16 : Int) + t = ((t + 16 : Nat) : Int) := by omega
      have t4 : t ≤ 4 := by
        rcases (by omega : t = 1 ∨ t = 2 ∨ t = 3 ∨ t = 4 ∨ t = 5 ∨ t = 6 ∨ t = 7 ∨ t = 8) with rfl | rfl | rfl | rfl | rfl | rfl | rfl | rfl <;> simp at p1 <;> omega
      refine ⟨t + 16, by omega, by omega, ?_, ?_, ?_⟩
      · rcases (by omega : t = 1 ∨ t = 2 ∨ t = 3 ∨ t = 4) with rfl | rfl | rfl | rfl <;> simp at p1 ⊢ <;> omega
      · rcases (by omega : t = 1 ∨ t = 2 ∨ t = 3 ∨ t = 4) with rfl | rfl | rfl | rfl <;> simp at p2 ⊢ <;> omega
      · refine ev_shift (ev_some fun k => ?_)
        rw [bits_Len64.j0]
        rw [if_pos c1, if_neg (show ¬ n / 65536 ≥ 256 by omega), m, if_pos (by omega), if_pos q1]
        change some (wrap64 (wrap64 (0 + 16) + wrap64 (bt len8 (n / 65536)))) = _
        rw [ht, w64 (show -9223372036854775808 ≤ (0 : Int) + 16 by omega) (by omega), w64 (show -9223372036854775808 ≤ (t : Int) by omega) (by omega), w64 (by omega) (by omega)]
        exact congrArg some (by omega)
    · by_cases c2 : n ≥ 256
      · have q0 : 1 ≤ n / 256 := by omega
        have q1 : n / 256 < 256 := by omega
        have m : n / 256 % 256 = n / 256 := by omega
        obtain ⟨t, ht, t1, t8, p1, p2⟩ := len8_fact (n / 256) q0 q1
        refine ⟨t + 8, by omega, by omega, ?_, ?_, ?_⟩
        · rcases (by omega : t = 1 ∨ t = 2 ∨ t = 3 ∨ t = 4 ∨ t = 5 ∨ t = 6 ∨ t = 7 ∨ t = 8) with rfl | rfl | rfl | rfl | rfl | rfl | rfl | rfl <;> simp at p1 ⊢ <;> omega
        · rcases (by omega : t = 1 ∨ t = 2 ∨ t = 3 ∨ t = 4 ∨ t = 5 ∨ t = 6 ∨ t = 7 ∨ t = 8) with rfl | rfl | rfl | rfl | rfl | rfl | rfl | rfl <;> simp at p2 ⊢ <;> omega
        · refine ev_shift (ev_some fun k => ?_)
          rw [bits_Len64.j0]
          rw [if_neg c1, if_pos c2, m, if_pos (by omega), if_pos q1]
          change some (wrap64 (wrap64 (0 + 8) + wrap64 (bt len8 (n / 256)))) = _
          rw [ht, w64 (show -9223372036854775808 ≤ (0 : Int) + 8 by omega) (by omega), w64 (show -9223372036854775808 ≤ (t : Int) by omega) (by omega), w64 (by omega) (by omega)]
          exact congrArg some (by omega)
      · have m : n % 256 = n := by omega
        obtain ⟨t, ht, t1, t8, p1, p2⟩ := len8_fact n h0 (by omega)
        refine ⟨t, t1, by omega, p1, p2, ?_⟩
        refine ev_shift (ev_some fun k => ?_)
        rw [bits_Len64.j0]
        rw [if_neg c1, if_neg c2, m, if_pos (by omega), if_pos (by omega)]
        change some (wrap64 (0 + wrap64 (bt len8 n))) = _
        rw [ht, w64 (show -9223372036854775808 ≤ (t : Int) by omega) (by omega), w64 (by omega) (by omega)]
        exact congrArg some (by omega)
  obtain ⟨L, a, b, c, d, e⟩ := key
  refine ⟨L, a, b, c, d, ?_⟩
  rw [u64_id n (by omega) h1]
  unfold bits_Len.f bits_Len64.f
  simp only [if_neg (show ¬ n ≥ 4294967296 by omega)]
  exact ev_bind e (Ev.now _)

theorem pow_le_of (a b : Nat) (h : a ≤ b) : (2 : Int) ^ a ≤ 2 ^ b := by
  have := Nat.pow_le_pow_right (show 0 < 2 by decide) h
  exact_mod_cast this

theorem shr_pos (n : Int) (b : Nat) (hb : b ≤ 40) (h : (2 : Int) ^ b ≤ n) : shr .i64 n (b : Int) > 0 := by
  unfold shr
  have e : min (b : Int).toNat IntKind.i64.bits = b := by rw [Int.toNat_natCast]; exact Nat.min_eq_left (by simp [IntKind.bits]; omega)
  rw [e]
  have p : (0 : Int) < 2 ^ b := Int.pow_pos (by omega)
  have := (Int.le_ediv_iff_mul_le p (a := 1) (b := n)).2 (by omega)
  omega
theorem shr_zero (n : Int) (b : Nat) (hb : b ≤ 40) (h0 : 0 ≤ n) (h : n < (2 : Int) ^ b) : ¬ shr .i64 n (b : Int) > 0 := by
  unfold shr
  have e : min (b : Int).toNat IntKind.i64.bits = b := by rw [Int.toNat_natCast]; exact Nat.min_eq_left (by simp [IntKind.bits]; omega)
  rw [e, Int.ediv_eq_zero_of_lt h0 h]
  omega

theorem chLength_ev (n : Int) (L : Nat) (hL : L ≤ 20) (h1 : 1 ≤ L) (h2 : (2 : Int) ^ (L - 1) ≤ n) (h3 : n < 2 ^ L) : Ev (fun k => spec_chLength.f k n) (L : Int) := by
  have n0 : 0 ≤ n := by have : (0 : Int) < 2 ^ (L - 1) := Int.pow_pos (by omega)
                        omega
  have loop : ∀ (d b : Nat), b + d = L → Ev (fun k => spec_chLength.l0 k n (b : Int)) (L : Int) := by
    intro d
    induction d with
    | zero =>
      intro b hb
      obtain rfl : b = L := by omega
      refine ev_shift ?_
      simp only [spec_chLength.l0, if_pos (show (0 : Int) ≤ (b : Int) by omega), if_neg (shr_zero n b (by omega) n0 h3)]
      exact Ev.now _
    | succ d ih =>
      intro b hb
      have := pow_le_of b (L - 1) (by omega)
      refine ev_shift ?_
      simp only [spec_chLength.l0, if_pos (show (0 : Int) ≤ (b : Int) by omega), if_pos (shr_pos n b (by omega) (by omega)), w64 (show -9223372036854775808 ≤ (b : Int) + 1 by omega) (by omega)]
      exact ih (b + 1) (by omega)
  exact loop L 0 (by omega)

def blen (n : Int) : Nat := Nat.log2 n.toNat + 1
theorem blen_of (n : Int) (L : Nat) (h0 : 1 ≤ n) (h1 : 1 ≤ L) (h2 : (2 : Int) ^ (L - 1) ≤ n) (h3 : n < 2 ^ L) : blen n = L := by
  obtain ⟨m, rfl⟩ := Int.eq_ofNat_of_zero_le (show 0 ≤ n by omega)
  obtain ⟨l, rfl⟩ : ∃ l, L = l + 1 := ⟨L - 1, by omega⟩
  have a : 2 ^ l ≤ m := by rw [Nat.add_sub_cancel] at h2; exact_mod_cast h2
  have b : m < 2 ^ (l + 1) := by exact_mod_cast h3
  have := (Nat.log2_eq_iff (n := m) (k := l) (by omega)).2 ⟨a, b⟩
  unfold blen
  rw [Int.toNat_natCast, this]
theorem blen_ev (n : Int) (h0 : 1 ≤ n) (h1 : n ≤ 1000000) : Ev (fun k => bits_Len.f k (IntKind.u64.wrap n)) (blen n : Int) ∧ Ev (fun k => spec_chLength.f k n) (blen n : Int) ∧ blen n ≤ 20 := by
  obtain ⟨L, a, b, c, d, e⟩ := len_ev n h0 h1
  rw [blen_of n L h0 a c d]
  exact ⟨e, chLength_ev n L b a c d, b⟩

def smallFrom (xs : List Int) : Nat → Int → Int → Int
  | 0, _, m => m
  | d + 1, k, m => if (blen (rd xs k) : Int) = blen (rd xs (k - 1)) then smallFrom xs d (k + 1) (m + 1) else smallFrom xs d (k + 1) m
theorem specSmall_loop (xs : List Int) (hl : xs.length ≤ 100000) : ∀ (d : Nat) (k m : Int), 1 ≤ k → k + d = xs.length → 0 ≤ m → m ≤ k → 1 ≤ rd xs (k - 1) → rd xs (k - 1) ≤ 1000000 → implFrom xs d k = true → Ev (fun f => spec_SmallSteps.l0 f xs m k) (smallFrom xs d k m, true) := by
  intro d
  induction d with
  | zero =>
    intro k m h0 hd _ _ _ _ _
    refine ev_shift ?_
    simp only [spec_SmallSteps.l0, if_neg (show ¬ k < (xs.length : Int) by omega), smallFrom]
    exact Ev.now _
  | succ d ih =>
    intro k m h0 hd hm0 hm1 r1 r2 hi
    obtain ⟨h1, h2, h3, h4⟩ := implFrom_head xs d k hi
    obtain ⟨_, a2, _⟩ := blen_ev (rd xs k) (by omega) h4
    obtain ⟨_, b2, _⟩ := blen_ev (rd xs (k - 1)) r1 r2
    have e : k + 1 - 1 = k := by omega
    refine ev_shift ?_
    simp only [spec_SmallSteps.l0, if_pos (show k < (xs.length : Int) by omega), if_pos (show 0 ≤ k by omega), w64 (show -9223372036854775808 ≤ k + 1 by omega) (by omega), w64 (show -9223372036854775808 ≤ k - 1 by omega) (by omega), w64 (show -9223372036854775808 ≤ m + 1 by omega) (by omega)]
    refine ev_bind a2 ?_
    simp only [if_pos (show 0 ≤ k - 1 by omega), if_pos (show k - 1 < (xs.length : Int) by omega)]
    refine ev_bind b2 ?_
    unfold smallFrom
    by_cases c : (blen (rd xs k) : Int) = blen (rd xs (k - 1))
    · rw [if_pos c]; simp only [if_pos c]
      exact ih (k + 1) (m + 1) (by omega) (by omega) (by omega) (by omega) (by rw [e]; omega) (by rw [e]; omega) h2
    · rw [if_neg c]; simp only [if_neg c]
      exact ih (k + 1) m (by omega) (by omega) (by omega) (by omega) (by rw [e]; omega) (by rw [e]; omega) h2
theorem implSmall_loop (xs : List Int) (hl : xs.length ≤ 100000) : ∀ (d : Nat) (k m : Int), 1 ≤ k → k + d = xs.length → 0 ≤ m → m ≤ k → 1 ≤ rd xs (k - 1) → rd xs (k - 1) ≤ 1000000 → implFrom xs d k = true → Ev (fun f => impl_SmallSteps.l0 f xs m k) (smallFrom xs d k m, true) := by
  intro d
  induction d with
  | zero =>
    intro k m h0 hd _ _ _ _ _
    refine ev_shift ?_
    simp only [impl_SmallSteps.l0, if_neg (show ¬ k < (xs.length : Int) by omega), smallFrom]
    exact Ev.now _
  | succ d ih =>
    intro k m h0 hd hm0 hm1 r1 r2 hi
    obtain ⟨h1, h2, h3, h4⟩ := implFrom_head xs d k hi
    obtain ⟨a2, _, _⟩ := blen_ev (rd xs k) (by omega) h4
    obtain ⟨b2, _, _⟩ := blen_ev (rd xs (k - 1)) r1 r2
    have e : k + 1 - 1 = k := by omega
    refine ev_shift ?_
    simp only [impl_SmallSteps.l0, if_pos (show k < (xs.length : Int) by omega), if_pos (show 0 ≤ k by omega), w64 (show -9223372036854775808 ≤ k + 1 by omega) (by omega), w64 (show -9223372036854775808 ≤ k - 1 by omega) (by omega), w64 (show -9223372036854775808 ≤ m + 1 by omega) (by omega)]
    refine ev_bind a2 ?_
    simp only [if_pos (show 0 ≤ k - 1 by omega), if_pos (show k - 1 < (xs.length : Int) by omega)]
    refine ev_bind b2 ?_
    unfold smallFrom
    by_cases c : (blen (rd xs k) : Int) = blen (rd xs (k - 1))
    · rw [if_pos c]; simp only [if_pos c]
      exact ih (k + 1) (m + 1) (by omega) (by omega) (by omega) (by omega) (by rw [e]; omega) (by rw [e]; omega) h2
    · rw [if_neg c]; simp only [if_neg c]
      exact ih (k + 1) m (by omega) (by omega) (by omega) (by omega) (by rw [e]; omega) (by rw [e]; omega) h2
/-- SmallSteps. -/
def smallOf (xs : List Int) : Int × Bool := if chain xs = true then (smallFrom xs (xs.length - 1) 1 0, true) else (0, false)
theorem specSmall_ev (xs : List Int) (hl : xs.length ≤ 1048576) : Ev (fun f => spec_SmallSteps.f f xs) (smallOf xs) := by
  unfold spec_SmallSteps.f smallOf
  refine ev_bind (chGood_ev xs hl) ?_
  by_cases c : chain xs = true
  · obtain ⟨h1, h2, h3, h4⟩ := chain_from xs c
    simp only [c, if_true]
    exact specSmall_loop xs (by omega) (xs.length - 1) 1 0 (by omega) (by omega) (by omega) (by omega) (by rw [show (1 : Int) - 1 = 0 from rfl]; omega) (by rw [show (1 : Int) - 1 = 0 from rfl]; omega) h4
  · simp only [if_neg c]; exact Ev.now _
theorem implSmall_ev (xs : List Int) (hl : xs.length ≤ 1048576) : Ev (fun f => impl_SmallSteps.f f xs) (smallOf xs) := by
  unfold impl_SmallSteps.f smallOf
  refine ev_bind (isChain_ev xs hl) ?_
  by_cases c : chain xs = true
  · obtain ⟨h1, h2, h3, h4⟩ := chain_from xs c
    simp only [c, if_true]
    exact implSmall_loop xs (by omega) (xs.length - 1) 1 0 (by omega) (by omega) (by omega) (by omega) (by rw [show (1 : Int) - 1 = 0 from rfl]; omega) (by rw [show (1 : Int) - 1 = 0 from rfl]; omega) h4
  · simp only [if_neg c]; exact Ev.now _

/-! exponents -/
/-- Is each step from i on in order. -/
def InOrder (n : Nat) (ss : List (S51)) : Prop := ∀ i : Nat, i < ss.length → 0 ≤ (rd_T51 ss i).f0 ∧ (rd_T51 ss i).f0 ≤ (rd_T51 ss i).f1 ∧ (rd_T51 ss i).f1 < n + i
theorem rdS_nat (ss : List St) (j : Nat) : rdS ss (j : Int) = ss.getD j z51 := by unfold rdS rd_T51; rw [Int.toNat_natCast]
/-! the plan of a chain -/
theorem inner_mem (xs : List Int) (k j : Int) (hj : 0 ≤ j) : ∀ (d : Nat) (i : Int), 0 ≤ i → i + d = j + 1 → ∀ s ∈ inner xs k j d i, 0 ≤ s.f0 ∧ s.f0 ≤ j ∧ s.f1 = j ∧ wrap64 (rd xs s.f0 + rd xs s.f1) = rd xs k
  | 0, _, _, _, s, h => by cases h
  | d + 1, i, h0, hd, s, h => by
    unfold inner at h
    split at h
    · rename_i c
      rcases List.mem_cons.1 h with rfl | h
      · exact ⟨h0, by show i ≤ j; omega, rfl, c⟩
      · exact inner_mem xs k j hj d (i + 1) (by omega) (by omega) s h
    · exact inner_mem xs k j hj d (i + 1) (by omega) (by omega) s h
theorem outer_mem (xs : List Int) (k : Int) : ∀ (d : Nat) (j : Int), 0 ≤ j → j + d = k → ∀ s ∈ outer xs k d j, 0 ≤ s.f0 ∧ s.f0 ≤ s.f1 ∧ s.f1 < k ∧ wrap64 (rd xs s.f0 + rd xs s.f1) = rd xs k
  | 0, _, _, _, s, h => by cases h
  | d + 1, j, h0, hd, s, h => by
    unfold outer at h
    rcases List.mem_append.1 h with h | h
    · obtain ⟨a, b, c, e⟩ := inner_mem xs k j h0 (j + 1).toNat 0 (by omega) (by omega) s h
      exact ⟨a, by omega, by omega, e⟩
    · exact outer_mem xs k d (j + 1) (by omega) (by omega) s h
theorem lastOf_mem (ss : List St) (h : ss.length ≠ 0) : lastOf ss ∈ ss := by
  unfold lastOf rdS rd_T51
  have e : ((ss.length : Int) - 1).toNat < ss.length := by omega
  generalize ((ss.length : Int) - 1).toNat = q at e ⊢
  rw [show ss.getD q z51 = ss[q] by simp [List.getD, e]]
  exact List.getElem_mem e
theorem stepsFrom_get (xs : List Int) : ∀ (d : Nat) (k : Int) (j : Nat), j < d → rdS (stepsFrom xs d k) (j : Int) = lastOf (sumsOf xs (k + j))
  | 0, _, _, h => absurd h (Nat.not_lt_zero _)
  | d + 1, k, 0, _ => by
    rw [rdS_nat, stepsFrom, show k + ((0 : Nat) : Int) = k by omega]; rfl
  | d + 1, k, j + 1, h => by
    have := stepsFrom_get xs d (k + 1) j (by omega)
    rw [rdS_nat] at this
    rw [rdS_nat, stepsFrom, show k + ((j + 1 : Nat) : Int) = k + 1 + (j : Int) by omega, ← this]
    rfl
theorem implFrom_at (xs : List Int) : ∀ (d : Nat) (k : Int), implFrom xs d k = true → ∀ j : Nat, j < d → (sumsOf xs (k + j)).length ≠ 0 ∧ rd xs (k + j) ≤ 1000000 ∧ rd xs (k + j - 1) < rd xs (k + j)
  | 0, _, _, _, h => absurd h (Nat.not_lt_zero _)
  | d + 1, k, hi, 0, _ => by
    obtain ⟨a, _, c, e⟩ := implFrom_head xs d k hi
    rw [show k + ((0 : Nat) : Int) = k by omega]
    exact ⟨a, e, c⟩
  | d + 1, k, hi, j + 1, h => by
    obtain ⟨_, b, _, _⟩ := implFrom_head xs d k hi
    have := implFrom_at xs d (k + 1) b j (by omega)
    rw [show k + ((j + 1 : Nat) : Int) = k + 1 + (j : Int) by omega]
    exact this
theorem stepOf_fact (xs : List Int) (h : chain xs = true) (j : Nat) (hj : j < xs.length - 1) : 0 ≤ (rdS (stepsOf xs) j).f0 ∧ (rdS (stepsOf xs) j).f0 ≤ (rdS (stepsOf xs) j).f1 ∧ (rdS (stepsOf xs) j).f1 < 1 + (j : Int) ∧ wrap64 (rd xs (rdS (stepsOf xs) j).f0 + rd xs (rdS (stepsOf xs) j).f1) = rd xs (1 + (j : Int)) := by
  obtain ⟨h1, h2, h3, h4⟩ := chain_from xs h
  have hs := (implFrom_at xs _ _ h4 j hj).1
  unfold stepsOf
  rw [stepsFrom_get xs _ _ j hj]
  exact outer_mem xs (1 + (j : Int)) (1 + (j : Int)).toNat 0 (by omega) (by omega) _ (lastOf_mem _ hs)
theorem chain_le (xs : List Int) (h : chain xs = true) (j : Nat) (hj : j < xs.length) : 1 ≤ rd xs j ∧ rd xs j ≤ 1000000 := by
  obtain ⟨h1, h2, h3, h4⟩ := chain_from xs h
  induction j with
  | zero => rw [show ((0 : Nat) : Int) = 0 by rfl, h3]; omega
  | succ j ih =>
    have i := ih (by omega)
    obtain ⟨_, b, c⟩ := implFrom_at xs _ _ h4 j (by omega)
    rw [show (1 : Int) + (j : Int) - 1 = (j : Int) by omega] at c
    rw [show ((j + 1 : Nat) : Int) = 1 + (j : Int) by omega]
    omega
theorem chain_order (xs : List Int) (h : chain xs = true) : InOrder 1 (stepsOf xs) := by
  intro i hi
  unfold stepsOf at hi
  rw [stepsFrom_length] at hi
  obtain ⟨a, b, c, _⟩ := stepOf_fact xs h i hi
  exact ⟨a, b, c⟩
def counts (xs : List Int) : Nat → Int → List Int
  | 0, _ => []
  | d + 1, k => ((sumsOf xs k).length : Int) :: counts xs d (k + 1)
theorem counts_length (xs : List Int) : ∀ (d : Nat) (k : Int), (counts xs d k).length = d
  | 0, _ => rfl
  | d + 1, k => by rw [counts, List.length_cons, counts_length xs d (k + 1)]
theorem counts_get (xs : List Int) : ∀ (d : Nat) (k : Int) (j : Nat), j < d → rd (counts xs d k) (j : Int) = (sumsOf xs (k + j)).length
  | 0, _, j, h => by omega
  | d + 1, k, 0, _ => by rw [counts, rd_nat, Int.natCast_zero, Int.add_zero]; rfl
  | d + 1, k, j + 1, h => by
    have := counts_get xs d (k + 1) j (by omega)
    rw [counts, rd_nat, List.getD_cons_succ, ← rd_nat, this]
    rw [show k + 1 + (j : Int) = k + ((j + 1 : Nat) : Int) by omega]
theorem counts_loop (xs : List Int) (hl : xs.length ≤ 100000) : ∀ (d : Nat) (i : Int) (acc : List Int), 0 ≤ i → i + d = xs.length → acc.length + d ≤ 17592186044415 → Ev (fun f => impl_CountSums.l0 f xs acc xs.length i) (acc ++ counts xs d i, true) := by
  intro d
  induction d with
  | zero =>
    intro i acc h0 hd _
    refine ev_shift ?_
    simp only [impl_CountSums.l0, if_neg (show ¬ i < (xs.length : Int) by omega), counts, List.append_nil]
    exact Ev.now _
  | succ d ih =>
    intro i acc h0 hd ha
    refine ev_shift ?_
    simp only [impl_CountSums.l0, if_pos (show i < (xs.length : Int) by omega), w64 (show -9223372036854775808 ≤ i + 1 by omega) (by omega), if_pos (show acc.length < 17592186044416 by omega)]
    refine ev_bind (sums_ev xs i h0 (by omega) hl) ?_
    have h := ih (i + 1) (acc ++ [((sumsOf xs i).length : Int)]) (by omega) (by omega) (by simp only [List.length_append, List.length_singleton]; omega)
    simpa [counts] using h
theorem countSums_ev (xs : List Int) (c : chain xs = true) : Ev (fun f => impl_CountSums.f f xs) (counts xs xs.length 0, true) := by
  obtain ⟨h1, h2, _, _⟩ := chain_from xs c
  unfold impl_CountSums.f
  refine ev_bind (isChain_ev xs (by omega)) ?_
  simp only [c, if_true]
  have h := counts_loop xs (by omega) xs.length 0 [] (by omega) (by omega) (by simp only [List.length_nil]; omega)
  simpa using h
/-! what is drawn from bytes -/
theorem u8_of {x : Int} (h : (Lit.int .u8 x).wf = true) : 0 ≤ x ∧ x ≤ 255 := by
  simpa [Lit.wf, IntKind.min, IntKind.max, IntKind.signed, IntKind.bits] using h
theorem rd_u8 {code : List Int} (hc : ∀ x ∈ code, 0 ≤ x ∧ x ≤ 255) (i : Int) : 0 ≤ rd code i ∧ rd code i ≤ 255 := by
  unfold rd
  by_cases h : i.toNat < code.length
  · have := hc _ (List.getElem_mem h)
    simpa [List.getD, h] using this
  · simp [List.getD, h]
theorem u64_low (x : Int) : 0 ≤ wrap64 (Go.bits .and .u64 (IntKind.u64.wrap x / 1099511627776) 255) ∧ wrap64 (Go.bits .and .u64 (IntKind.u64.wrap x / 1099511627776) 255) ≤ 255 := by
  have h : 0 ≤ IntKind.u64.wrap x / 1099511627776 ∧ IntKind.u64.wrap x / 1099511627776 < 2 ^ 32 := by rw [IntKind.wrap_u64]; omega
  generalize IntKind.u64.wrap x / 1099511627776 = y at h ⊢
  have e : Go.bits .and .u64 y (2 ^ 8 - 1) = y % 2 ^ 8 := bits_mask .u64 32 (by decide) (fun n a b => by rw [IntKind.wrap_u64]; omega) 8 (by decide) y h.1 h.2
  rw [show (255 : Int) = 2 ^ 8 - 1 by decide, e, w64 (by omega) (by omega)]
  omega
theorem next_ok {code : List Int} (hc : ∀ x ∈ code, 0 ≤ x ∧ x ≤ 255) (at_ seed : Int) (h0 : 0 ≤ at_) (h1 : at_ ≤ 1000000000) : ∃ v s, spec_l1Cur_next.f code at_ seed = some (v, at_ + 1, s) ∧ 0 ≤ v ∧ v ≤ 255 := by
  unfold spec_l1Cur_next.f
  have w1 : wrap64 (at_ + 1) = at_ + 1 := w64 (by omega) (by omega)
  obtain ⟨r0, r1⟩ := rd_u8 hc at_
  rw [w1]
  by_cases c : at_ < (code.length : Int)
  · rw [if_pos c, if_pos h0]
    by_cases d : at_ + 1 ≤ (code.length : Int)
    · rw [if_pos d, w64 (by omega) (by omega)]
      exact ⟨_, _, rfl, r0, r1⟩
    · rw [if_neg d]
      exact ⟨_, _, rfl, u64_low _⟩
  · rw [if_neg c]
    by_cases d : at_ + 1 ≤ (code.length : Int)
    · rw [if_pos d]
      exact ⟨_, _, rfl, by omega, by omega⟩
    · rw [if_neg d]
      exact ⟨_, _, rfl, u64_low _⟩
theorem pick_ok {code : List Int} (hc : ∀ x ∈ code, 0 ≤ x ∧ x ≤ 255) (at_ seed n : Int) (h0 : 0 ≤ at_) (h1 : at_ ≤ 999999000) : ∃ v a s, spec_l1Cur_pick.f code at_ seed n = some (v, a, s) ∧ 0 ≤ v ∧ (v < n ∨ v = 0) ∧ at_ ≤ a ∧ a ≤ at_ + 2 := by
  unfold spec_l1Cur_pick.f
  by_cases c : n ≤ 1
  · rw [if_pos c]
    exact ⟨_, _, _, rfl, by omega, .inr rfl, by omega, by omega⟩
  · rw [if_neg c]
    obtain ⟨v, s, e, v0, v1⟩ := next_ok hc at_ seed h0 (by omega)
    rw [e, Option.bind_some]
    by_cases d : n > 200
    · rw [if_pos d]
      obtain ⟨v', s', e', v0', v1'⟩ := next_ok hc (at_ + 1) s (by omega) (by omega)
      show ∃ v a s, ((spec_l1Cur_next.f code (at_ + 1) _).bind _) = _ ∧ _
      rw [e', Option.bind_some, if_neg (show ¬ n = 0 by omega), w64 (show -9223372036854775808 ≤ v * 256 by omega) (by omega)]
      have hp : 0 ≤ v * 256 + v' := by omega
      rw [w64 (by omega) (by omega)]
      refine ⟨_, _, _, rfl, Int.tmod_nonneg _ hp, .inl ?_, by show at_ ≤ at_ + 1 + 1; omega, by show at_ + 1 + 1 ≤ _; omega⟩
      exact Int.tmod_lt_of_pos _ (by omega)
    · rw [if_neg d, if_neg (show ¬ n = 0 by omega)]
      refine ⟨_, _, _, rfl, Int.tmod_nonneg _ v0, .inl ?_, by show at_ ≤ at_ + 1; omega, by show at_ + 1 ≤ _; omega⟩
      exact Int.tmod_lt_of_pos _ (by omega)
theorem one_ok {code : List Int} (hc : ∀ x ∈ code, 0 ≤ x ∧ x ≤ 255) (at_ seed n : Int) (h0 : 0 ≤ at_) (h1 : at_ ≤ 999999000) : ∃ v a s, spec_l1Cur_one.f code at_ seed n = some (v, a, s) ∧ at_ ≤ a ∧ a ≤ at_ + 2 := by
  unfold spec_l1Cur_one.f
  obtain ⟨v, a, s, e, _, _, a1, a2⟩ := pick_ok hc at_ seed n h0 h1
  rw [e]
  exact ⟨_, _, _, rfl, a1, a2⟩
/-! a list that is drawn, a chain mostly -/
theorem put_ev (xs : List Int) (v : Int) (hl : xs.length ≤ 1000) (hn : xs ≠ []) : ∃ ys : List Int, ys ≠ [] ∧ ys.length ≤ xs.length + 1 ∧ Ev (fun k => spec_l1Put.f k xs v) ys := by
  have fin : ∀ i : Nat, i ≤ xs.length → (([] ++ xs.take i) ++ [v]) ++ xs.drop i ≠ [] ∧ ((([] ++ xs.take i) ++ [v]) ++ xs.drop i).length ≤ xs.length + 1 := fun i hi => by
    refine ⟨by simp, ?_⟩
    simp only [List.nil_append, List.length_append, List.length_take, List.length_drop, List.length_singleton]
    omega
  have loop : ∀ (d i : Nat), i + d = xs.length → ∃ ys : List Int, ys ≠ [] ∧ ys.length ≤ xs.length + 1 ∧ Ev (fun k => spec_l1Put.l0 k xs v i) ys := by
    intro d
    induction d with
    | zero =>
      intro i hd
      obtain ⟨f1, f2⟩ := fin i (by omega)
      refine ⟨_, f1, f2, ev_shift ?_⟩
      have l1 : ([] ++ xs.take i : List Int).length ≤ 1000 := by simp only [List.nil_append, List.length_take]; omega
      have l2 : (([] ++ xs.take i : List Int) ++ [v]).length ≤ 1001 := by rw [List.length_append, List.length_singleton]; omega
      simp only [spec_l1Put.l0, if_neg (show ¬ (i : Int) < (xs.length : Int) by omega), Option.bind_some, if_pos (show (0 : Int) ≤ (i : Int) by omega), if_pos (show (i : Int) ≤ (xs.length : Int) by omega), Int.toNat_natCast, if_pos (show ([] : List Int).length + (xs.take i).length < 17592186044416 by rw [List.length_take]; simp only [List.length_nil]; omega), if_pos (show ([] ++ xs.take i : List Int).length < 17592186044416 by omega), if_pos (show (([] ++ xs.take i : List Int) ++ [v]).length + (xs.drop i).length < 17592186044416 by rw [List.length_drop]; omega)]
      exact Ev.now _
    | succ d ih =>
      intro i hd
      obtain ⟨ys, y1, y2, y3⟩ := ih (i + 1) (by omega)
      by_cases c : rd xs (i : Int) < v
      · refine ⟨ys, y1, y2, ev_shift ?_⟩
        simp only [spec_l1Put.l0, if_pos (show (i : Int) < (xs.length : Int) by omega), if_pos (show (0 : Int) ≤ (i : Int) by omega), if_pos c, w64 (show -9223372036854775808 ≤ (i : Int) + 1 by omega) (by omega)]
        exact y3
      · by_cases e : rd xs (i : Int) = v
        · refine ⟨xs, hn, by omega, ev_shift ?_⟩
          simp only [spec_l1Put.l0, if_pos (show (i : Int) < (xs.length : Int) by omega), if_pos (show (0 : Int) ≤ (i : Int) by omega), if_neg c, if_pos e]
          exact Ev.now _
        · obtain ⟨f1, f2⟩ := fin i (by omega)
          refine ⟨_, f1, f2, ev_shift ?_⟩
          have l1 : ([] ++ xs.take i : List Int).length ≤ 1000 := by simp only [List.nil_append, List.length_take]; omega
          have l2 : (([] ++ xs.take i : List Int) ++ [v]).length ≤ 1001 := by rw [List.length_append, List.length_singleton]; omega
          simp only [spec_l1Put.l0, if_pos (show (i : Int) < (xs.length : Int) by omega), if_neg c, if_neg e, Option.bind_some, if_pos (show (0 : Int) ≤ (i : Int) by omega), if_pos (show (i : Int) ≤ (xs.length : Int) by omega), Int.toNat_natCast, if_pos (show ([] : List Int).length + (xs.take i).length < 17592186044416 by rw [List.length_take]; simp only [List.length_nil]; omega), if_pos (show ([] ++ xs.take i : List Int).length < 17592186044416 by omega), if_pos (show (([] ++ xs.take i : List Int) ++ [v]).length + (xs.drop i).length < 17592186044416 by rw [List.length_drop]; omega)]
          exact Ev.now _
  exact loop xs.length 0 (by omega)
theorem drawChain_ev {code : List Int} (hc : ∀ x ∈ code, 0 ≤ x ∧ x ≤ 255) (at_ seed n : Int) (h0 : 0 ≤ at_) (h1 : at_ ≤ 100000) (hn : n ≤ 100) (hn0 : 0 ≤ n) : ∃ (ys : List Int) (a s : Int), ys ≠ [] ∧ ys.length ≤ 200 ∧ 0 ≤ a ∧ a ≤ 500000 ∧ Ev (fun k => spec_l1Cur_chain.f k code at_ seed n) (ys, a, s) := by
  unfold spec_l1Cur_chain.f
  obtain ⟨m, q, t, e, m0, m1, q1, q2⟩ := pick_ok hc at_ seed (wrap64 (n + 1)) h0 (by omega)
  rw [w64 (by omega) (by omega)] at e m1
  simp only [w64 (show -9223372036854775808 ≤ n + 1 by omega) (by omega), e, Option.bind_some]
  have loop : ∀ (d : Nat) (xs : List Int) (at_ seed : Int), d ≤ 101 → xs ≠ [] → xs.length + d ≤ 150 → 0 ≤ at_ → at_ + 100 * (d : Int) ≤ 400000 → ∃ (ys : List Int) (a s : Int), ys ≠ [] ∧ ys.length ≤ 200 ∧ 0 ≤ a ∧ a ≤ 500000 ∧ Ev (fun k => spec_l1Cur_chain.l0 k xs d code at_ seed) (ys, a, s) := by
    intro d
    induction d with
    | zero =>
      intro xs at_ seed hd hx hl h0 h1
      refine ⟨xs, at_, seed, hx, by omega, h0, by omega, ev_shift ?_⟩
      simp only [spec_l1Cur_chain.l0, if_neg (show ¬ ((0 : Nat) : Int) > 0 by omega)]
      exact Ev.now _
    | succ d ih =>
      intro xs at_ seed hd hx hl h0 h1
      have hp := List.length_pos_iff.2 hx
      obtain ⟨b, q, t, e, q1, q2⟩ := one_ok hc at_ seed 4 h0 (by omega)
      have hw : wrap64 (((d + 1 : Nat) : Int) - 1) = (d : Int) := by rw [show ((d + 1 : Nat) : Int) - 1 = (d : Int) by omega]; exact w64 (by omega) (by omega)
      have step : ∀ (x : Int) (q t : Int), 0 ≤ q → q + 100 * (d : Int) ≤ 399950 → ∃ (ys : List Int) (a s : Int), ys ≠ [] ∧ ys.length ≤ 200 ∧ 0 ≤ a ∧ a ≤ 500000 ∧ Ev (fun k => spec_l1Cur_chain.j1 k xs ((d + 1 : Nat) : Int) x code q t) (ys, a, s) := by
        intro x q t g0 g1
        obtain ⟨v, q', t', e', v0, v1, r1, r2⟩ := pick_ok hc q t xs.length g0 (by omega)
        by_cases c : wrap64 (x + rd xs v) ≤ 1000000
        · obtain ⟨zs, z1, z2, z3⟩ := put_ev xs (wrap64 (x + rd xs v)) (by omega) hx
          obtain ⟨ys, a, s, y1, y2, y3, y4, y5⟩ := ih zs q' t' (by omega) z1 (by omega) (by omega) (by omega)
          refine ⟨ys, a, s, y1, y2, y3, y4, ev_shift ?_⟩
          simp only [spec_l1Cur_chain.j1, e', Option.bind_some, if_pos v0, if_pos (show v < (xs.length : Int) by omega), if_pos c, hw]
          exact ev_bind z3 y5
        · obtain ⟨ys, a, s, y1, y2, y3, y4, y5⟩ := ih xs q' t' (by omega) hx (by omega) (by omega) (by omega)
          refine ⟨ys, a, s, y1, y2, y3, y4, ev_shift ?_⟩
          simp only [spec_l1Cur_chain.j1, e', Option.bind_some, if_pos v0, if_pos (show v < (xs.length : Int) by omega), if_neg c, hw]
          exact y5
      have w1 : wrap64 ((xs.length : Int) - 1) = (xs.length : Int) - 1 := w64 (by omega) (by omega)
      cases b with
      | true =>
        obtain ⟨v, q', t', e', v0, v1, r1, r2⟩ := pick_ok hc q t xs.length (by omega) (by omega)
        obtain ⟨ys, a, s, y1, y2, y3, y4, y5⟩ := step (rd xs v) q' t' (by omega) (by omega)
        refine ⟨ys, a, s, y1, y2, y3, y4, ev_shift ?_⟩
        simp only [spec_l1Cur_chain.l0, if_pos (show ((d + 1 : Nat) : Int) > 0 by omega), w1, if_pos (show (0 : Int) ≤ (xs.length : Int) - 1 by omega), if_pos (show (xs.length : Int) - 1 < (xs.length : Int) by omega), e, e', Option.bind_some, if_true, if_pos v0, if_pos (show v < (xs.length : Int) by omega)]
        exact y5
      | false =>
        obtain ⟨ys, a, s, y1, y2, y3, y4, y5⟩ := step (rd xs ((xs.length : Int) - 1)) q t (by omega) (by omega)
        refine ⟨ys, a, s, y1, y2, y3, y4, ev_shift ?_⟩
        simp only [spec_l1Cur_chain.l0, if_pos (show ((d + 1 : Nat) : Int) > 0 by omega), w1, if_pos (show (0 : Int) ≤ (xs.length : Int) - 1 by omega), if_pos (show (xs.length : Int) - 1 < (xs.length : Int) by omega), e, Option.bind_some, Bool.false_eq_true, if_false]
        exact y5
  obtain ⟨r, rfl⟩ := Int.eq_ofNat_of_zero_le m0
  exact loop r [1] q t (by omega) (by simp) (by simp; omega) (by omega) (by omega)
theorem drawAny_ev {code : List Int} (hc : ∀ x ∈ code, 0 ≤ x ∧ x ≤ 255) (at_ seed n : Int) (h0 : 0 ≤ at_) (h1 : at_ ≤ 100000) (hn : n ≤ 100) (hn0 : 0 ≤ n) : ∃ (ys : List Int) (a s : Int), ys.length ≤ 1000 ∧ 0 ≤ a ∧ a ≤ 1000000 ∧ Ev (fun k => spec_l1Cur_anyChain.f k code at_ seed n) (ys, a, s) := by
  unfold spec_l1Cur_anyChain.f
  obtain ⟨xs, q, t, x1, x2, x3, x4, x5⟩ := drawChain_ev hc at_ seed n h0 h1 hn hn0
  have hp := List.length_pos_iff.2 x1
  obtain ⟨v, q', t', e, v0, v1, r1, r2⟩ := pick_ok hc q t 14 x3 (by omega)
  by_cases c0 : v = 0
  · obtain ⟨i, q2, t2, e2, i0, i1, s1, s2⟩ := pick_ok hc q' t' xs.length (by omega) (by omega)
    obtain ⟨j, q3, t3, e3, _, _, u1, u2⟩ := pick_ok hc q2 t2 3 (by omega) (by omega)
    refine ⟨xs.set i.toNat (wrap64 (rd xs i + wrap64 (j - 1))), q3, t3, ?_, by omega, by omega, ev_bind x5 ?_⟩
    rotate_left
    · simp only [e, Option.bind_some, if_pos c0, e2, if_pos i0, if_pos (show i < (xs.length : Int) by omega), e3]
      exact Ev.now _
    · rw [List.length_set]; omega
  · by_cases c1 : v = 1
    · obtain ⟨i, q2, t2, e2, i0, i1, s1, s2⟩ := pick_ok hc q' t' 40 (by omega) (by omega)
      refine ⟨xs ++ [i], q2, t2, ?_, by omega, by omega, ev_bind x5 ?_⟩
      rotate_left
      · simp only [e, Option.bind_some, if_neg c0, if_pos c1, e2, if_pos (show xs.length < 17592186044416 by omega)]
        exact Ev.now _
      · rw [List.length_append, List.length_singleton]; omega
    · by_cases c2 : v = 2
      · refine ⟨[], q', t', by simp, by omega, by omega, ev_bind x5 ?_⟩
        simp only [e, Option.bind_some, if_neg c0, if_neg c1, if_pos c2]
        exact Ev.now _
      · by_cases c3 : v = 3
        · have loop : ∀ (d : Nat) (zs : List Int) (at_ seed : Int), zs.length + d = 42 → 0 ≤ at_ → at_ + 10 * (d : Int) ≤ 900000 → ∃ (ys : List Int) (a s : Int), ys.length ≤ 1000 ∧ 0 ≤ a ∧ a ≤ 1000000 ∧ Ev (fun k => spec_l1Cur_anyChain.l0 k zs code at_ seed) (ys, a, s) := by
            intro d
            induction d with
            | zero =>
              intro zs at_ seed hz h0 h1
              obtain ⟨b, q2, t2, e2, b0, b1, s1, s2⟩ := pick_ok hc at_ seed 2 h0 (by omega)
              refine ⟨zs, q2, t2, by omega, by omega, by omega, ev_shift ?_⟩
              simp only [spec_l1Cur_anyChain.l0, e2, Option.bind_some, w64 (show -9223372036854775808 ≤ 41 + b by omega) (by omega), if_neg (show ¬ (zs.length : Int) < 41 + b by omega)]
              exact Ev.now _
            | succ d ih =>
              intro zs at_ seed hz h0 h1
              obtain ⟨b, q2, t2, e2, b0, b1, s1, s2⟩ := pick_ok hc at_ seed 2 h0 (by omega)
              by_cases c : (zs.length : Int) < 41 + b
              · obtain ⟨ys, a, s, y2, y3, y4, y5⟩ := ih (zs ++ [wrap64 ((zs.length : Int) + 1)]) q2 t2 (by rw [List.length_append, List.length_singleton]; omega) (by omega) (by omega)
                refine ⟨ys, a, s, y2, y3, y4, ev_shift ?_⟩
                simp only [spec_l1Cur_anyChain.l0, e2, Option.bind_some, w64 (show -9223372036854775808 ≤ 41 + b by omega) (by omega), if_pos c, if_pos (show zs.length < 17592186044416 by omega)]
                exact y5
              · refine ⟨zs, q2, t2, by omega, by omega, by omega, ev_shift ?_⟩
                simp only [spec_l1Cur_anyChain.l0, e2, Option.bind_some, w64 (show -9223372036854775808 ≤ 41 + b by omega) (by omega), if_neg c]
                exact Ev.now _
          obtain ⟨ys, a, s, y2, y3, y4, y5⟩ := loop 42 [] q' t' (by simp) (by omega) (by omega)
          refine ⟨ys, a, s, y2, y3, y4, ev_bind x5 ?_⟩
          simp only [e, Option.bind_some, if_neg c0, if_neg c1, if_neg c2, if_pos c3]
          exact y5
        · by_cases c4 : v = 4
          · obtain ⟨i, q2, t2, e2, i0, i1, s1, s2⟩ := pick_ok hc q' t' 4 (by omega) (by omega)
            refine ⟨[1, 2, 4, 8, 16, 32, 64, 128, 256, 512, 1024, 2048, 4096, 8192, 16384, 32768, 65536, 131072, 262144, 524288] ++ [786432, wrap64 (786432 + wrap64 (131072 * i))], q2, t2, ?_, by omega, by omega, ev_bind x5 ?_⟩
            rotate_left
            · simp only [e, Option.bind_some, if_neg c0, if_neg c1, if_neg c2, if_neg c3, if_pos c4, e2, List.length_cons, List.length_nil, Nat.reduceAdd, if_pos (show 22 < 17592186044416 by decide)]
              exact Ev.now _
            · simp
          · refine ⟨xs, q', t', by omega, by omega, by omega, ev_bind x5 ?_⟩
            simp only [e, Option.bind_some, if_neg c0, if_neg c1, if_neg c2, if_neg c3, if_neg c4]
            exact Ev.now _
theorem chain_mono (xs : List Int) (h : chain xs = true) : ∀ (d i : Nat), i + d < xs.length → rd xs i ≤ rd xs ((i + d : Nat) : Int)
  | 0, i, _ => Int.le_refl _
  | d + 1, i, hd => by
    obtain ⟨_, _, _, h4⟩ := chain_from xs h
    have a := chain_mono xs h d i (by omega)
    obtain ⟨_, _, b⟩ := implFrom_at xs (xs.length - 1) 1 h4 (i + d) (by omega)
    rw [show (1 : Int) + ((i + d : Nat) : Int) - 1 = ((i + d : Nat) : Int) by omega, show (1 : Int) + ((i + d : Nat) : Int) = ((i + (d + 1) : Nat) : Int) by omega] at b
    omega
/-- A step of a chain: the next number is the sum of two; it is at most twice the last. -/
theorem chain_step (xs : List Int) (h : chain xs = true) (j : Nat) (hj : j + 1 < xs.length) : rd xs ((j + 1 : Nat) : Int) ≤ 2 * rd xs j ∧ rd xs j < rd xs ((j + 1 : Nat) : Int) := by
  obtain ⟨_, _, _, h4⟩ := chain_from xs h
  obtain ⟨f0, f1, f2, f3⟩ := stepOf_fact xs h j (by omega)
  obtain ⟨a, ha⟩ := Int.eq_ofNat_of_zero_le f0
  obtain ⟨b, hb⟩ := Int.eq_ofNat_of_zero_le (show 0 ≤ (rdS (stepsOf xs) j).f1 by omega)
  rw [ha, hb] at f3 f1
  rw [hb] at f2
  have ma := chain_mono xs h (j - a) a (by omega)
  have mb := chain_mono xs h (j - b) b (by omega)
  rw [show ((a + (j - a) : Nat) : Int) = (j : Int) by omega] at ma
  rw [show ((b + (j - b) : Nat) : Int) = (j : Int) by omega] at mb
  have la := chain_le xs h a (by omega)
  have lb := chain_le xs h b (by omega)
  rw [w64 (by omega) (by omega)] at f3
  obtain ⟨_, _, q⟩ := implFrom_at xs (xs.length - 1) 1 h4 j (by omega)
  rw [show (1 : Int) + (j : Int) - 1 = (j : Int) by omega] at q
  rw [show ((j + 1 : Nat) : Int) = 1 + (j : Int) by omega]
  omega
theorem blen_step (x y : Int) (h0 : 1 ≤ x) (h1 : x < y) (h2 : y ≤ 2 * x) : blen y = blen x ∨ blen y = blen x + 1 := by
  obtain ⟨m, rfl⟩ := Int.eq_ofNat_of_zero_le (show 0 ≤ x by omega)
  have e : blen (m : Int) = Nat.log2 m + 1 := by unfold blen; rw [Int.toNat_natCast]
  have a : 2 ^ Nat.log2 m ≤ m := Nat.log2_self_le (by omega)
  have b : m < 2 ^ (Nat.log2 m + 1) := Nat.lt_log2_self
  have a' : (2 : Int) ^ Nat.log2 m ≤ (m : Int) := by exact_mod_cast a
  have b' : (m : Int) < (2 : Int) ^ (Nat.log2 m + 1) := by exact_mod_cast b
  have p : (2 : Int) ^ (Nat.log2 m + 1 + 1) = 2 ^ (Nat.log2 m + 1) * 2 := Int.pow_succ 2 _
  rw [e]
  by_cases c : y < (2 : Int) ^ (Nat.log2 m + 1)
  · exact .inl (blen_of y (Nat.log2 m + 1) (by omega) (by omega) (by rw [Nat.add_sub_cancel]; omega) c)
  · exact .inr (blen_of y (Nat.log2 m + 1 + 1) (by omega) (by omega) (by rw [Nat.add_sub_cancel]; omega) (by omega))
theorem small_blen (xs : List Int) (h : chain xs = true) : ∀ (d k : Nat) (m : Int), 1 ≤ k → k + d = xs.length → smallFrom xs d k m + blen (rd xs ((xs.length - 1 : Nat) : Int)) = m + d + blen (rd xs ((k - 1 : Nat) : Int))
  | 0, k, m, h1, hk => by
    rw [smallFrom, show xs.length - 1 = k - 1 by omega]
    omega
  | d + 1, k, m, h1, hk => by
    obtain ⟨s1, s2⟩ := chain_step xs h (k - 1) (by omega)
    rw [show ((k - 1 + 1 : Nat) : Int) = (k : Int) by omega] at s1 s2
    have l := chain_le xs h (k - 1) (by omega)
    have hb := blen_step _ _ l.1 s2 s1
    have i1 := small_blen xs h d (k + 1) (m + 1) (by omega) (by omega)
    have i2 := small_blen xs h d (k + 1) m (by omega) (by omega)
    rw [show k + 1 - 1 = k by omega] at i1 i2
    rw [smallFrom, show ((k : Int) - 1) = ((k - 1 : Nat) : Int) by omega, show ((k : Int) + 1) = ((k + 1 : Nat) : Int) by omega]
    by_cases c : (blen (rd xs (k : Int)) : Int) = blen (rd xs ((k - 1 : Nat) : Int))
    · rw [if_pos c]; omega
    · rw [if_neg c]
      rcases hb with e | e
      · exact absurd (by rw [e]) c
      · omega
theorem rd_ne (xs : List Int) (i : Nat) (h : i < xs.length) : rd xs (i : Int) = xs[i] := by rw [rd_nat]; simp [List.getD, h]
/-- Which B a step has: the last number, just where the difference is a number of the chain. -/
theorem inner_has (xs : List Int) (k j : Int) (hj : 0 ≤ j) : ∀ (d i : Nat) (a : Nat), i ≤ a → a < i + d → wrap64 (rd xs a + rd xs j) = rd xs k → inner xs k j d i ≠ []
  | 0, i, a, h1, h2, _ => by omega
  | d + 1, i, a, h1, h2, h => by
    unfold inner
    by_cases c : wrap64 (rd xs (i : Int) + rd xs j) = rd xs k
    · rw [if_pos c]; simp
    · rw [if_neg c, show ((i : Int) + 1) = ((i + 1 : Nat) : Int) by omega]
      have : i ≠ a := fun e => c (by rw [e]; exact h)
      exact inner_has xs k j hj d (i + 1) a (by omega) (by omega) h
theorem outer_tail (xs : List Int) (k : Int) : ∀ (d : Nat) (j : Int), 0 ≤ j → j + (d + 1 : Nat) = k → ∃ A, outer xs k (d + 1) j = A ++ inner xs k (k - 1) k.toNat 0
  | 0, j, h0, h => by
    obtain rfl : j = k - 1 := by omega
    exact ⟨[], by rw [outer, outer, List.append_nil, show k - 1 + 1 = k by omega]; rfl⟩
  | d + 1, j, h0, h => by
    obtain ⟨A, e⟩ := outer_tail xs k d (j + 1) (by omega) (by omega)
    exact ⟨inner xs k j (j + 1).toNat 0 ++ A, by rw [outer, e, List.append_assoc]⟩
theorem lastOf_append (A B : List St) (h : B ≠ []) : lastOf (A ++ B) ∈ B := by
  have hp := List.length_pos_iff.2 h
  unfold lastOf
  show rd_T51 _ _ ∈ B
  unfold rd_T51
  rw [show (((A ++ B).length : Int) - 1).toNat = A.length + (B.length - 1) by rw [List.length_append]; omega]
  have e : (A ++ B).getD (A.length + (B.length - 1)) z51 = B[B.length - 1]'(by omega) := by
    rw [List.getD_eq_getElem?_getD, List.getElem?_append_right (by omega), show A.length + (B.length - 1) - A.length = B.length - 1 by omega, List.getElem?_eq_getElem (by omega)]
    rfl
  rw [e]
  exact List.getElem_mem _
theorem step_star (xs : List Int) (h : chain xs = true) (k : Nat) (h1 : 1 ≤ k) (hk : k < xs.length) : (rdS (stepsOf xs) ((k - 1 : Nat) : Int)).f1 = ((k - 1 : Nat) : Int) ↔ rd xs k - rd xs ((k - 1 : Nat) : Int) ∈ xs.take k := by
  obtain ⟨f0, f1, f2, f3⟩ := stepOf_fact xs h (k - 1) (by omega)
  rw [show (1 : Int) + ((k - 1 : Nat) : Int) = (k : Int) by omega] at f2 f3
  constructor
  · intro e
    rw [e] at f3 f1
    obtain ⟨a, ha⟩ := Int.eq_ofNat_of_zero_le f0
    rw [ha] at f3 f1
    have la := chain_le xs h a (by omega)
    have lb := chain_le xs h (k - 1) (by omega)
    rw [w64 (by omega) (by omega)] at f3
    have : rd xs k - rd xs ((k - 1 : Nat) : Int) = rd xs a := by omega
    rw [this, rd_ne xs a (by omega)]
    exact List.mem_iff_getElem.2 ⟨a, by rw [List.length_take]; omega, by rw [List.getElem_take]⟩
  · intro e
    obtain ⟨a, ha, hv⟩ := List.mem_iff_getElem.1 e
    rw [List.length_take] at ha
    rw [List.getElem_take, ← rd_ne xs a (by omega)] at hv
    have la := chain_le xs h a (by omega)
    have lb := chain_le xs h (k - 1) (by omega)
    have hs : wrap64 (rd xs a + rd xs ((k - 1 : Nat) : Int)) = rd xs k := by rw [w64 (by omega) (by omega)]; omega
    obtain ⟨A, eo⟩ := outer_tail xs k (k - 1) 0 (by omega) (by omega)
    have ei : ((k : Int) - 1) = ((k - 1 : Nat) : Int) := by omega
    rw [ei, Int.toNat_natCast] at eo
    have hn : inner xs k ((k - 1 : Nat) : Int) k 0 ≠ [] := inner_has xs k _ (by omega) k 0 a (by omega) (by omega) hs
    have em : stepsOf xs = stepsFrom xs (xs.length - 1) 1 := rfl
    have g := stepsFrom_get xs (xs.length - 1) 1 (k - 1) (by omega)
    rw [← em, show (1 : Int) + ((k - 1 : Nat) : Int) = (k : Int) by omega] at g
    rw [g]
    unfold sumsOf
    rw [Int.toNat_natCast]
    have eo' : outer xs k k 0 = A ++ inner xs k ((k - 1 : Nat) : Int) k 0 := by
      rw [show outer xs (k : Int) k 0 = outer xs (k : Int) (k - 1 + 1) 0 by rw [show k - 1 + 1 = k by omega]]
      exact eo
    rw [eo']
    exact (inner_mem xs k _ (by omega) k 0 (by omega) (by omega) _ (lastOf_append A _ hn)).2.2.1
theorem star_snoc (ss : List St) : ∀ (d : Nat) (i : Nat), starFrom ss (d + 1) i = (starFrom ss d i && decide ((rdS ss ((i + d : Nat) : Int)).f1 = ((i + d : Nat) : Int)))
  | 0, i => by
    rw [starFrom, starFrom, starFrom, Nat.add_zero]
    by_cases c : (rdS ss (i : Int)).f1 = (i : Int)
    · rw [if_pos c, decide_eq_true c]; rfl
    · rw [if_neg c, decide_eq_false c]; rfl
  | d + 1, i => by
    have ih := star_snoc ss d (i + 1)
    rw [starFrom, show ((i : Int) + 1) = ((i + 1 : Nat) : Int) by omega, ih, starFrom, show ((i : Int) + 1) = ((i + 1 : Nat) : Int) by omega, show i + 1 + d = i + (d + 1) by omega]
    by_cases c : (rdS ss (i : Int)).f1 = (i : Int)
    · rw [if_pos c, if_pos c]
    · rw [if_neg c, if_neg c]; rfl
theorem has_ev (ys : List Int) (v : Int) (hl : ys.length ≤ 1000000) : Ev (fun k => laws_pHas.f k ys v) (decide (v ∈ ys)) := by
  have loop : ∀ (d i : Nat), i + d = ys.length → Ev (fun k => laws_pHas.l0 k v ys ys.length i) (decide (v ∈ ys.drop i)) := by
    intro d
    induction d with
    | zero =>
      intro i hd
      refine ev_shift ?_
      simp only [laws_pHas.l0, if_neg (show ¬ (i : Int) < (ys.length : Int) by omega)]
      rw [List.drop_of_length_le (by omega)]
      exact Ev.now _
    | succ d ih =>
      intro i hd
      have e : ys.drop i = rd ys i :: ys.drop (i + 1) := by rw [rd_ne ys i (by omega)]; exact List.drop_eq_getElem_cons (by omega)
      refine ev_shift ?_
      simp only [laws_pHas.l0, if_pos (show (i : Int) < (ys.length : Int) by omega), if_pos (show (0 : Int) ≤ (i : Int) by omega), w64 (show -9223372036854775808 ≤ (i : Int) + 1 by omega) (by omega)]
      rw [e]
      by_cases c : rd ys (i : Int) = v
      · simp only [if_pos c]
        rw [decide_eq_true (by rw [← c]; exact List.mem_cons_self ..)]
        exact Ev.now _
      · simp only [if_neg c]
        have := ih (i + 1) (by omega)
        rw [show decide (v ∈ rd ys (i : Int) :: ys.drop (i + 1)) = decide (v ∈ ys.drop (i + 1)) by rw [decide_eq_decide, List.mem_cons]; exact ⟨fun h => h.resolve_left (fun e => c e.symm), .inr⟩]
        exact this
  exact loop ys.length 0 (by omega)
theorem bitLength_ev (n : Int) (h0 : 1 ≤ n) (h1 : n ≤ 1000000) : Ev (fun k => impl_BitLength.f k n) ((blen n : Int), true) := by
  unfold impl_BitLength.f impl_isNumber.f
  simp only [in_eq, Option.bind_some, decide_eq_true h0, decide_eq_true h1, Bool.and_self, if_true]
  exact ev_bind (blen_ev n h0 h1).1 (Ev.now _)
theorem small_total (xs : List Int) (c : chain xs = true) : smallFrom xs (xs.length - 1) 1 0 + (blen (rd xs ((xs.length - 1 : Nat) : Int)) : Int) = ((xs.length - 1 : Nat) : Int) + 1 := by
  obtain ⟨h1, h2, h3, h4⟩ := chain_from xs c
  have q := small_blen xs c (xs.length - 1) 1 0 (by omega) (by omega)
  have z : rd xs ((1 - 1 : Nat) : Int) = 1 := h3
  rw [z, show blen 1 = 1 from by decide] at q
  have e : ((1 : Nat) : Int) = 1 := rfl
  rw [e] at q
  omega
theorem small_loop (xs : List Int) (hl : xs.length ≤ 1000) (c : chain xs = true) : ∀ (d k : Nat), 1 ≤ k → k + d = xs.length → Ev (fun f => laws_FnSmallStepsCount.l0 f xs (smallFrom xs (xs.length - 1) 1 0) (blen (rd xs ((xs.length - 1 : Nat) : Int)) : Int) (counts xs xs.length 0) (starFrom (stepsOf xs) (k - 1) 0) k) true := by
  obtain ⟨h1, h2, h3, h4⟩ := chain_from xs c
  have hlast := chain_le xs c (xs.length - 1) (by omega)
  have w1 : wrap64 ((xs.length : Int) - 1) = ((xs.length - 1 : Nat) : Int) := by rw [w64 (by omega) (by omega)]; omega
  intro d
  induction d with
  | zero =>
    intro k hk1 hk
    obtain rfl : k = xs.length := by omega
    refine ev_shift ?_
    simp only [laws_FnSmallStepsCount.l0, if_neg (show ¬ (xs.length : Int) < (xs.length : Int) by omega)]
    refine ev_bind (implStep_ev xs (by omega)) ?_
    have ei : isStep xs = (starFrom (stepsOf xs) (xs.length - 1) 0, true) := by
      unfold isStep
      rw [if_pos c, show (stepsOf xs).length = xs.length - 1 by unfold stepsOf; rw [stepsFrom_length]]
    simp only [ei, if_true, beq_self_eq_true, w1]
    have e : (((xs.length - 1 : Nat) : Int) == wrap64 (wrap64 (smallFrom xs (xs.length - 1) 1 0 + (blen (rd xs ((xs.length - 1 : Nat) : Int)) : Int)) - 1)) = true := by
      rw [small_total xs c, w64 (show -9223372036854775808 ≤ ((xs.length - 1 : Nat) : Int) + 1 by omega) (by omega), w64 (show -9223372036854775808 ≤ ((xs.length - 1 : Nat) : Int) + 1 - 1 by omega) (by omega), beq_iff_eq]
      omega
    simp only [e]
    exact Ev.now _
  | succ d ih =>
    intro k hk1 hk
    have hn := ih (k + 1) (by omega) (by omega)
    have ss0 : starFrom (stepsOf xs) (k - 1 + 1) 0 = (starFrom (stepsOf xs) (k - 1) 0 && decide ((rdS (stepsOf xs) ((k - 1 : Nat) : Int)).f1 = ((k - 1 : Nat) : Int))) := by
      have q := star_snoc (stepsOf xs) (k - 1) 0
      rw [Nat.zero_add] at q
      exact q
    rw [show k + 1 - 1 = k - 1 + 1 by omega, ss0] at hn
    have hcnt : ¬ rd (counts xs xs.length 0) (k : Int) = 0 := by
      rw [counts_get xs xs.length 0 k (by omega)]
      obtain ⟨q, _, _⟩ := implFrom_at xs (xs.length - 1) 1 h4 (k - 1) (by omega)
      rw [show (1 : Int) + ((k - 1 : Nat) : Int) = 0 + (k : Int) by omega] at q
      omega
    have wk : wrap64 ((k : Int) - 1) = ((k - 1 : Nat) : Int) := by rw [w64 (by omega) (by omega)]; omega
    have wk1 : wrap64 ((k : Int) + 1) = ((k + 1 : Nat) : Int) := by rw [w64 (by omega) (by omega)]; omega
    have l1 := chain_le xs c k (by omega)
    have l2 := chain_le xs c (k - 1) (by omega)
    refine ev_shift ?_
    simp only [laws_FnSmallStepsCount.l0, if_pos (show (k : Int) < (xs.length : Int) by omega), if_pos (show (0 : Int) ≤ (k : Int) by omega), counts_length, if_neg hcnt, wk1]
    cases hs : starFrom (stepsOf xs) (k - 1) 0 with
    | true =>
      rw [hs, Bool.true_and] at hn
      simp only [if_true, if_pos (show (k : Int) ≤ (xs.length : Int) by omega), wk, if_pos (show (0 : Int) ≤ ((k - 1 : Nat) : Int) by omega), if_pos (show ((k - 1 : Nat) : Int) < (xs.length : Int) by omega), Int.toNat_natCast, w64 (show -9223372036854775808 ≤ rd xs (k : Int) - rd xs ((k - 1 : Nat) : Int) by omega) (by omega)]
      refine ev_bind (has_ev (xs.take k) _ (by rw [List.length_take]; omega)) ?_
      rw [show decide (rd xs (k : Int) - rd xs ((k - 1 : Nat) : Int) ∈ xs.take k) = decide ((rdS (stepsOf xs) ((k - 1 : Nat) : Int)).f1 = ((k - 1 : Nat) : Int)) by rw [decide_eq_decide]; exact (step_star xs c k hk1 (by omega)).symm]
      exact hn
    | false =>
      rw [hs, Bool.false_and] at hn
      simp only [Bool.false_eq_true, if_false]
      exact hn
theorem FnSmallStepsCount : laws_FnSmallStepsCount.Pure := by
  intro code more _ _ hcode _ _ _
  have hc : ∀ x ∈ code, 0 ≤ x ∧ x ≤ 255 := fun x hx => u8_of (hcode x hx)
  refine Ev.rounds (r := true) ?_
  obtain ⟨g, hg⟩ : ∃ g, laws_big.f code more = some g := by unfold laws_big.f; split <;> exact ⟨_, rfl⟩
  have e0 : ∀ q : Bool, (q != q) = false := fun q => by cases q <;> rfl
  have e1 : ∀ q : Int, (q != q) = false := fun q => by simp
  unfold laws_FnSmallStepsCount.f
  simp only [hg, Option.bind_some]
  cases g with
  | true => simp only [if_true]; exact Ev.now _
  | false =>
    obtain ⟨xs, a, s, hl, _, _, hd⟩ := drawAny_ev hc 0 0 10 (by omega) (by omega) (by omega) (by omega)
    simp only [Bool.false_eq_true, if_false, spec_DrawSmallSteps.f, Option.bind_assoc, Option.bind_some]
    refine ev_bind hd ?_
    refine ev_bind (implSmall_ev xs (by omega)) ?_
    refine ev_bind (specSmall_ev xs (by omega)) ?_
    simp only [e0, e1, Bool.false_eq_true, if_false]
    refine ev_shift ?_
    by_cases c : chain xs = true
    · obtain ⟨h1, h2, h3, h4⟩ := chain_from xs c
      have es : smallOf xs = (smallFrom xs (xs.length - 1) 1 0, true) := by unfold smallOf; rw [if_pos c]
      have hlast := chain_le xs c (xs.length - 1) (by omega)
      have w1 : wrap64 ((xs.length : Int) - 1) = ((xs.length - 1 : Nat) : Int) := by rw [w64 (by omega) (by omega)]; omega
      have hcl : (counts xs xs.length 0).length = xs.length := counts_length xs _ _
      have c0 : rd (counts xs xs.length 0) 0 = 0 := by
        have := counts_get xs xs.length 0 0 (by omega)
        rw [Int.natCast_zero, Int.add_zero] at this
        rw [this]; rfl
      simp only [es, laws_FnSmallStepsCount.j0, Bool.false_eq_true, if_false, if_true, w1, if_pos (show (0 : Int) ≤ ((xs.length - 1 : Nat) : Int) by omega), if_pos (show ((xs.length - 1 : Nat) : Int) < (xs.length : Int) by omega)]
      refine ev_bind (bitLength_ev _ hlast.1 hlast.2) ?_
      refine ev_bind (countSums_ev xs c) ?_
      simp only [if_true, hcl, if_pos (show (0 : Int) < (xs.length : Int) by omega), c0, e1]
      refine ev_shift ?_
      simp only [laws_FnSmallStepsCount.j1, Bool.false_eq_true, if_false]
      exact small_loop xs hl c (xs.length - 1) 1 (by omega) (by omega)
    · have es : smallOf xs = (0, false) := by unfold smallOf; rw [if_neg c]
      simp only [es, laws_FnSmallStepsCount.j0, Bool.false_eq_true, if_false]
      exact Ev.now _
end Go.Proofs.Ytailgfeffoimaaa.Pure
