/- What is in one of two chains is a chain; what is in both has the numbers of both. -/
import Derived.Test.YtlefjgpkabijdaaMFnChainsTogetherx8
namespace Go.Proofs.Ytlefjgpkabijdaa.Pure
open Go.RowKit Go.Proofs.Ytlefjgpkabijdaa.MFnChainsTogether Go.Proofs.YtlefjgpkabijdaaW.PrintWords Go.Proofs.YtlefjgpkabijdaaW.PrintLast Go.Proofs.YtlefjgpkabijdaaW.PrintMore
set_option linter.unusedVariables false
set_option linter.unusedSimpArgs false
theorem w64 {x : Int} (h1 : -9223372036854775808 ≤ x) (h2 : x ≤ 9223372036854775807) : wrap64 x = x := by unfold wrap64; omega

theorem rd_nat (xs : List Int) (j : Nat) : rd xs (j : Int) = xs.getD j 0 := by unfold rd; rw [Int.toNat_natCast]

theorem ev_shift {α : Type} {g : Nat → Option α} {r : α} (h : Ev (fun k => g (k + 1)) r) : Ev g r := by
  obtain ⟨K, hK⟩ := h
  refine ⟨K + 1, fun k hk => ?_⟩
  obtain ⟨m, rfl⟩ : ∃ m, k = m + 1 := ⟨k - 1, by omega⟩
  exact hK m (by omega)

theorem ev_bind {α β : Type} {g : Nat → Option α} {F : Nat → α → Option β} {a : α} {r : β} (h : Ev g a) (k : Ev (fun n => F n a) r) : Ev (fun n => (g n).bind (fun x => F n x)) r := Ev.bind h k

theorem ev_some {α : Type} {g : Nat → Option α} {r : α} (h : ∀ k, g k = some r) : Ev g r := ⟨0, fun k _ => h k⟩

abbrev St := S56
def inner (xs : List Int) (k j : Int) : Nat → Int → List St
  | 0, _ => []
  | d + 1, i => if wrap64 (rd xs i + rd xs j) = rd xs k then ⟨i, j⟩ :: inner xs k j d (i + 1) else inner xs k j d (i + 1)
def outer (xs : List Int) (k : Int) : Nat → Int → List St
  | 0, _ => []
  | d + 1, j => inner xs k j (j + 1).toNat 0 ++ outer xs k d (j + 1)
def sumsOf (xs : List Int) (k : Int) : List St := outer xs k k.toNat 0

theorem inner_length (xs : List Int) (k j : Int) : ∀ (d : Nat) (i : Int), (inner xs k j d i).length ≤ d
  | 0, _ => Nat.le_refl _
  | d + 1, i => by
    have := inner_length xs k j d (i + 1)
    unfold inner
    split
    · simp only [List.length_cons]; omega
    · omega

theorem spec_inner (xs : List Int) (k j : Int) (r : List St) (hj : 0 ≤ j) (hjk : j < k) (hk : k < xs.length) (hl : xs.length ≤ 100000) : ∀ (d : Nat) (i : Int) (acc : List St), 0 ≤ i → i + d = j + 1 → acc.length + d ≤ 8000000000000 →
    Ev (fun f => spec_chPairs.l0 f xs k (acc ++ inner xs k j d i) (j + 1)) r → Ev (fun f => spec_chPairs.l1 f xs k acc j i) r := by
  intro d
  induction d with
  | zero =>
    intro i acc hi hd _ h
    refine ev_shift ?_
    simp only [spec_chPairs.l1, if_neg (show ¬ i ≤ j by omega), w64 (show -9223372036854775808 ≤ j + 1 by omega) (by omega)]
    simpa [inner] using h
  | succ d ih =>
    intro i acc hi hd hacc h
    refine ev_shift ?_
    simp only [spec_chPairs.l1, if_pos (show i ≤ j by omega), if_pos hi, if_pos (show i < (xs.length : Int) by omega), if_pos hj, if_pos (show j < (xs.length : Int) by omega), if_pos (show 0 ≤ k by omega), if_pos hk,
      w64 (show -9223372036854775808 ≤ i + 1 by omega) (by omega)]
    by_cases c : wrap64 (rd xs i + rd xs j) = rd xs k
    · simp only [if_pos c, if_pos (show acc.length < 8796093022208 by omega)]
      refine ih (i + 1) (acc ++ [⟨i, j⟩]) (by omega) (by omega) (by simp only [List.length_append, List.length_singleton]; omega) ?_
      simpa [inner, c] using h
    · simp only [if_neg c]
      refine ih (i + 1) acc (by omega) (by omega) (by omega) ?_
      simpa [inner, c] using h

theorem spec_outer (xs : List Int) (k : Int) (hk : k < xs.length) (hl : xs.length ≤ 100000) : ∀ (d : Nat) (j : Int) (acc : List St), 0 ≤ j → j + d = k → acc.length + d * 100001 ≤ 8000000000000 →
    Ev (fun f => spec_chPairs.l0 f xs k acc j) (acc ++ outer xs k d j) := by
  intro d
  induction d with
  | zero =>
    intro j acc hj hd _
    refine ev_shift ?_
    simp only [spec_chPairs.l0, if_neg (show ¬ j < k by omega), outer, List.append_nil]
    exact Ev.now _
  | succ d ih =>
    intro j acc hj hd hacc
    refine ev_shift ?_
    simp only [spec_chPairs.l0, if_pos (show j < k by omega)]
    have hi := inner_length xs k j (j + 1).toNat 0
    refine spec_inner xs k j _ hj (by omega) hk hl (j + 1).toNat 0 acc (by omega) (by omega) (by omega) ?_
    have h := ih (j + 1) (acc ++ inner xs k j (j + 1).toNat 0) (by omega) (by omega) (by rw [List.length_append]; omega)
    simpa [outer] using h

theorem chPairs_ev (xs : List Int) (k : Int) (h0 : 0 ≤ k) (hk : k < xs.length) (hl : xs.length ≤ 100000) : Ev (fun f => spec_chPairs.f f xs k) (sumsOf xs k) := by
  have h := spec_outer xs k hk hl k.toNat 0 [] (by omega) (by omega) (by simp only [List.length_nil]; omega)
  simpa [sumsOf, spec_chPairs.f] using h

theorem impl_inner (xs : List Int) (k j : Int) (r : List St) (hj : 0 ≤ j) (hjk : j < k) (hk : k < xs.length) (hl : xs.length ≤ 100000) : ∀ (d : Nat) (i : Int) (acc : List St), 0 ≤ i → i + d = j + 1 → acc.length + d ≤ 8000000000000 →
    Ev (fun f => impl_sums.l0 f xs k (acc ++ inner xs k j d i) k (j + 1)) r → Ev (fun f => impl_sums.l1 f xs k acc j k j (j + 1) i) r := by
  intro d
  induction d with
  | zero =>
    intro i acc hi hd _ h
    refine ev_shift ?_
    simp only [impl_sums.l1, if_neg (show ¬ i < j + 1 by omega), w64 (show -9223372036854775808 ≤ j + 1 by omega) (by omega)]
    simpa [inner] using h
  | succ d ih =>
    intro i acc hi hd hacc h
    refine ev_shift ?_
    simp only [impl_sums.l1, if_pos (show i < j + 1 by omega), if_pos hi, if_pos (show i < (xs.length : Int) by omega), if_pos hj, if_pos (show j < (xs.length : Int) by omega), if_pos (show 0 ≤ k by omega), if_pos hk,
      w64 (show -9223372036854775808 ≤ i + 1 by omega) (by omega)]
    by_cases c : wrap64 (rd xs i + rd xs j) = rd xs k
    · simp only [if_pos c, if_pos (show acc.length < 8796093022208 by omega)]
      refine ih (i + 1) (acc ++ [⟨i, j⟩]) (by omega) (by omega) (by simp only [List.length_append, List.length_singleton]; omega) ?_
      simpa [inner, c] using h
    · simp only [if_neg c]
      refine ih (i + 1) acc (by omega) (by omega) (by omega) ?_
      simpa [inner, c] using h
theorem impl_outer (xs : List Int) (k : Int) (hk : k < xs.length) (hl : xs.length ≤ 100000) : ∀ (d : Nat) (j : Int) (acc : List St), 0 ≤ j → j + d = k → acc.length + d * 100001 ≤ 8000000000000 →
    Ev (fun f => impl_sums.l0 f xs k acc k j) (acc ++ outer xs k d j) := by
  intro d
  induction d with
  | zero =>
    intro j acc hj hd _
    refine ev_shift ?_
    simp only [impl_sums.l0, if_neg (show ¬ j < k by omega), outer, List.append_nil]
    exact Ev.now _
  | succ d ih =>
    intro j acc hj hd hacc
    refine ev_shift ?_
    simp only [impl_sums.l0, if_pos (show j < k by omega), w64 (show -9223372036854775808 ≤ j + 1 by omega) (by omega)]
    have hi := inner_length xs k j (j + 1).toNat 0
    refine impl_inner xs k j _ hj (by omega) hk hl (j + 1).toNat 0 acc (by omega) (by omega) (by omega) ?_
    have h := ih (j + 1) (acc ++ inner xs k j (j + 1).toNat 0) (by omega) (by omega) (by rw [List.length_append]; omega)
    simpa [outer] using h
theorem sums_ev (xs : List Int) (k : Int) (h0 : 0 ≤ k) (hk : k < xs.length) (hl : xs.length ≤ 100000) : Ev (fun f => impl_sums.f f xs k) (sumsOf xs k) := by
  have h := impl_outer xs k hk hl k.toNat 0 [] (by omega) (by omega) (by simp only [List.length_nil]; omega)
  simpa [sumsOf, impl_sums.f] using h

/-! the chain's test, in both ways -/
def risingFrom (xs : List Int) : Nat → Int → Bool
  | 0, _ => true
  | d + 1, i => if rd xs i ≥ 1 then (if rd xs i ≤ 1000000 then (if i > 0 then (if rd xs (i - 1) ≥ rd xs i then false else risingFrom xs d (i + 1)) else risingFrom xs d (i + 1)) else false) else false
def pairsFrom (xs : List Int) : Nat → Int → Bool
  | 0, _ => true
  | d + 1, k => if (sumsOf xs k).length = 0 then false else pairsFrom xs d (k + 1)
def implFrom (xs : List Int) : Nat → Int → Bool
  | 0, _ => true
  | d + 1, k => if rd xs k ≤ rd xs (k - 1) then false else if rd xs k > 1000000 then false else if (sumsOf xs k).length = 0 then false else implFrom xs d (k + 1)
/-- Is it a chain? -/
def chain (xs : List Int) : Bool := if 1 ≤ xs.length ∧ xs.length ≤ 41 then (if rd xs 0 = 1 then implFrom xs (xs.length - 1) 1 else false) else false

theorem from_same (xs : List Int) : ∀ (d : Nat) (i : Int), 1 ≤ i → 1 ≤ rd xs (i - 1) → (risingFrom xs d i && pairsFrom xs d i) = implFrom xs d i
  | 0, _, _, _ => rfl
  | d + 1, i, h1, h2 => by
    unfold risingFrom pairsFrom implFrom
    rw [if_pos (show i > 0 by omega)]
    by_cases c1 : rd xs i ≤ rd xs (i - 1)
    · rw [if_pos c1, if_pos (show rd xs (i - 1) ≥ rd xs i from c1)]
      split
      · split <;> rfl
      · rfl
    · rw [if_neg c1, if_neg (show ¬ rd xs (i - 1) ≥ rd xs i from c1), if_pos (show rd xs i ≥ 1 by omega)]
      by_cases c2 : rd xs i > 1000000
      · rw [if_pos c2, if_neg (by omega)]; rfl
      · rw [if_neg c2, if_pos (by omega)]
        by_cases c3 : (sumsOf xs i).length = 0
        · rw [if_pos c3, if_pos c3, Bool.and_false]
        · rw [if_neg c3, if_neg c3]
          have e : i + 1 - 1 = i := by omega
          exact from_same xs d (i + 1) (by omega) (by rw [e]; omega)

theorem l1In_eq (a b c : Int) : spec_l1In.f a b c = some (decide (b ≤ a) && decide (a ≤ c)) := by
  unfold spec_l1In.f
  by_cases h : a ≥ b
  · rw [if_pos h]; simp [show b ≤ a from h]
  · rw [if_neg h]; simp [show ¬ b ≤ a from h]
theorem in_eq (a b c : Int) : impl_in.f a b c = some (decide (b ≤ a) && decide (a ≤ c)) := by
  unfold impl_in.f
  by_cases h : a ≥ b
  · rw [if_pos h]; simp [show b ≤ a from h]
  · rw [if_neg h]; simp [show ¬ b ≤ a from h]
theorem rising_ev (xs : List Int) (hl : xs.length ≤ 100000) : ∀ (d : Nat) (i : Int), 0 ≤ i → i + d = xs.length → Ev (fun f => spec_l1Rising.l0 f xs 1 1000000 xs xs.length i) (risingFrom xs d i) := by
  intro d
  induction d with
  | zero =>
    intro i h0 hd
    refine ev_shift ?_
    simp only [spec_l1Rising.l0, if_neg (show ¬ i < (xs.length : Int) by omega), risingFrom]
    exact Ev.now _
  | succ d ih =>
    intro i h0 hd
    have hn := ih (i + 1) (by omega) (by omega)
    refine ev_shift ?_
    simp only [spec_l1Rising.l0, if_pos (show i < (xs.length : Int) by omega), if_pos h0, w64 (show -9223372036854775808 ≤ i + 1 by omega) (by omega), w64 (show -9223372036854775808 ≤ i - 1 by omega) (by omega), l1In_eq, Option.bind_some]
    unfold risingFrom
    by_cases c1 : rd xs i ≥ 1
    · by_cases c2 : rd xs i ≤ 1000000
      · rw [if_pos c1, if_pos c2]
        simp only [decide_eq_true (show 1 ≤ rd xs i from c1), decide_eq_true c2, Bool.and_self, if_true]
        by_cases c3 : i > 0
        · simp only [if_pos c3, if_pos (show 0 ≤ i - 1 by omega), if_pos (show i - 1 < (xs.length : Int) by omega)]
          by_cases c4 : rd xs (i - 1) ≥ rd xs i
          · simp only [if_pos c4]; exact Ev.now _
          · simp only [if_neg c4]; exact hn
        · simp only [if_neg c3]; exact hn
      · rw [if_pos c1, if_neg c2]
        simp only [decide_eq_false c2, Bool.and_false, Bool.false_eq_true, if_false]
        exact Ev.now _
    · rw [if_neg c1]
      simp only [decide_eq_false (show ¬ 1 ≤ rd xs i from c1), Bool.false_and, Bool.false_eq_true, if_false]
      exact Ev.now _

theorem pairs_ev (xs : List Int) (hl : xs.length ≤ 100000) : ∀ (d : Nat) (k : Int), 0 ≤ k → k + d = xs.length → Ev (fun f => spec_chGood.l0 f xs k) (pairsFrom xs d k) := by
  intro d
  induction d with
  | zero =>
    intro i h0 hd
    refine ev_shift ?_
    simp only [spec_chGood.l0, if_neg (show ¬ i < (xs.length : Int) by omega), pairsFrom]
    exact Ev.now _
  | succ d ih =>
    intro i h0 hd
    have hn := ih (i + 1) (by omega) (by omega)
    refine ev_shift ?_
    simp only [spec_chGood.l0, if_pos (show i < (xs.length : Int) by omega), w64 (show -9223372036854775808 ≤ i + 1 by omega) (by omega)]
    refine ev_bind (chPairs_ev xs i h0 (by omega) hl) ?_
    unfold pairsFrom
    by_cases c : (sumsOf xs i).length = 0
    · simp only [if_pos c, if_pos (show ((sumsOf xs i).length : Int) = 0 by omega)]; exact Ev.now _
    · simp only [if_neg c, if_neg (show ¬ ((sumsOf xs i).length : Int) = 0 by omega)]; exact hn

theorem implFrom_ev (xs : List Int) (hl : xs.length ≤ 100000) : ∀ (d : Nat) (k : Int), 1 ≤ k → k + d = xs.length → Ev (fun f => impl_IsChain.l0 f xs k) (implFrom xs d k) := by
  intro d
  induction d with
  | zero =>
    intro i h0 hd
    refine ev_shift ?_
    simp only [impl_IsChain.l0, if_neg (show ¬ i < (xs.length : Int) by omega), implFrom]
    exact Ev.now _
  | succ d ih =>
    intro i h0 hd
    have hn := ih (i + 1) (by omega) (by omega)
    refine ev_shift ?_
    simp only [impl_IsChain.l0, if_pos (show i < (xs.length : Int) by omega), if_pos (show 0 ≤ i by omega), w64 (show -9223372036854775808 ≤ i + 1 by omega) (by omega), w64 (show -9223372036854775808 ≤ i - 1 by omega) (by omega), if_pos (show 0 ≤ i - 1 by omega), if_pos (show i - 1 < (xs.length : Int) by omega)]
    unfold implFrom
    by_cases c1 : rd xs i ≤ rd xs (i - 1)
    · simp only [if_pos c1]; exact Ev.now _
    · simp only [if_neg c1]
      by_cases c2 : rd xs i > 1000000
      · simp only [if_pos c2]; exact Ev.now _
      · simp only [if_neg c2]
        refine ev_bind (sums_ev xs i (by omega) (by omega) hl) ?_
        by_cases c : (sumsOf xs i).length = 0
        · simp only [if_pos c, if_pos (show ((sumsOf xs i).length : Int) = 0 by omega)]; exact Ev.now _
        · simp only [if_neg c, if_neg (show ¬ ((sumsOf xs i).length : Int) = 0 by omega)]; exact hn
theorem isChain_ev (xs : List Int) (hl : xs.length ≤ 1048576) : Ev (fun f => impl_IsChain.f f xs) (chain xs) := by
  unfold impl_IsChain.f chain
  simp only [in_eq, Option.bind_some]
  by_cases c : 1 ≤ xs.length ∧ xs.length ≤ 41
  · simp only [if_pos c, decide_eq_true (show (1 : Int) ≤ xs.length by omega), decide_eq_true (show (xs.length : Int) ≤ 41 by omega), Bool.and_self, if_true, if_pos (show (0 : Int) < xs.length by omega)]
    by_cases c1 : rd xs 0 = 1
    · simp only [if_pos c1]
      refine ev_shift ?_
      simp only [impl_IsChain.j0, c1, bne_self_eq_false, Bool.false_eq_true, if_false]
      exact implFrom_ev xs (by omega) (xs.length - 1) 1 (by omega) (by omega)
    · simp only [if_neg c1]
      refine ev_shift ?_
      simp only [impl_IsChain.j0, bne_iff_ne.mpr c1, if_true]
      exact Ev.now _
  · rw [if_neg c]
    have e : (decide ((1 : Int) ≤ xs.length) && decide ((xs.length : Int) ≤ 41)) = false := by
      rw [Bool.and_eq_false_iff, decide_eq_false_iff_not, decide_eq_false_iff_not]; omega
    simp only [e, Bool.false_eq_true, if_false]
    refine ev_shift ?_
    simp only [impl_IsChain.j0, if_true]
    exact Ev.now _
theorem chGood_ev (xs : List Int) (hl : xs.length ≤ 1048576) : Ev (fun f => spec_chGood.f f xs) (chain xs) := by
  unfold spec_chGood.f chain
  simp only [l1In_eq, Option.bind_some]
  by_cases c : 1 ≤ xs.length ∧ xs.length ≤ 41
  · simp only [if_pos c, decide_eq_true (show (1 : Int) ≤ xs.length by omega), decide_eq_true (show (xs.length : Int) ≤ 41 by omega), Bool.and_self, if_true, if_pos (show (0 : Int) < xs.length by omega)]
    by_cases c1 : rd xs 0 = 1
    · simp only [if_pos c1]
      unfold spec_l1Rising.f
      refine ev_bind (rising_ev xs (by omega) xs.length 0 (by omega) (by omega)) ?_
      obtain ⟨n, hn⟩ : ∃ n, xs.length = n + 1 := ⟨xs.length - 1, by omega⟩
      have e1 : risingFrom xs xs.length 0 = risingFrom xs n 1 := by
        rw [hn, risingFrom, c1, if_pos (by decide), if_pos (by decide), if_neg (by decide)]
        rfl
      have e2 : xs.length - 1 = n := by omega
      rw [e1, e2, ← from_same xs n 1 (by omega) (by rw [show (1 : Int) - 1 = 0 from rfl, c1]; omega)]
      refine ev_shift ?_
      simp only [spec_chGood.j0]
      cases hr : risingFrom xs n 1 with
      | false =>
        simp only [Bool.not_false, if_true, Bool.false_and]
        exact Ev.now _
      | true =>
        simp only [Bool.not_true, Bool.false_eq_true, if_false, Bool.true_and]
        exact pairs_ev xs (by omega) n 1 (by omega) (by omega)
    · simp only [if_neg c1]
      refine ev_shift ?_
      simp only [spec_chGood.j0, if_true]
      exact Ev.now _
  · rw [if_neg c]
    have e : (decide ((1 : Int) ≤ xs.length) && decide ((xs.length : Int) ≤ 41)) = false := by
      rw [Bool.and_eq_false_iff, decide_eq_false_iff_not, decide_eq_false_iff_not]; omega
    simp only [e, Bool.false_eq_true, if_false]
    refine ev_shift ?_
    simp only [spec_chGood.j0, if_true]
    exact Ev.now _

theorem implFrom_head (xs : List Int) (d : Nat) (k : Int) (h : implFrom xs (d + 1) k = true) : (sumsOf xs k).length ≠ 0 ∧ implFrom xs d (k + 1) = true ∧ rd xs (k - 1) < rd xs k ∧ rd xs k ≤ 1000000 := by
  unfold implFrom at h
  split at h
  · cases h
  · split at h
    · cases h
    · split at h
      · cases h
      · rename_i a b c
        exact ⟨c, h, by omega, by omega⟩
theorem chain_from (xs : List Int) (h : chain xs = true) : 1 ≤ xs.length ∧ xs.length ≤ 41 ∧ rd xs 0 = 1 ∧ implFrom xs (xs.length - 1) 1 = true := by
  unfold chain at h
  split at h
  · rename_i c
    split at h
    · rename_i c1
      exact ⟨c.1, c.2, c1, h⟩
    · cases h
  · cases h

theorem clone_eq (xs : List Int) (h : xs.length < 17592186044416) : slices_Clone_int_int.f xs = some xs := by
  unfold slices_Clone_int_int.f
  rw [if_pos h]

/-- a list, if it is a chain -/
def ifChain (xs : List Int) : List Int × Bool := if chain xs = true then (xs, true) else ([], false)
theorem ifChain_short (xs : List Int) : (ifChain xs).1.length ≤ 1000000 := by
  unfold ifChain
  split
  · rename_i c; have := (chain_from xs c).2.1; simp only; omega
  · simp
theorem chIf_ev (xs : List Int) (hl : xs.length ≤ 1048576) : Ev (fun f => spec_chIf.f f xs) (ifChain xs) := by
  unfold spec_chIf.f ifChain
  refine ev_bind (chGood_ev xs hl) ?_
  by_cases c : chain xs = true
  · simp only [c, if_true]; exact Ev.now _
  · simp only [if_neg c]; exact Ev.now _
theorem told_ev (xs : List Int) (hl : xs.length ≤ 1048576) : Ev (fun f => impl_toldChain.f f xs) (ifChain xs) := by
  unfold impl_toldChain.f ifChain
  refine ev_bind (isChain_ev xs hl) ?_
  by_cases c : chain xs = true
  · simp only [c, if_true]; exact Ev.now _
  · simp only [if_neg c]; exact Ev.now _

def hasFrom (ys : List Int) (x : Int) : Nat → Int → Bool
  | 0, _ => false
  | d + 1, i => if rd ys i = x then true else hasFrom ys x d (i + 1)
/-- Is x among them? -/
def has (ys : List Int) (x : Int) : Bool := hasFrom ys x ys.length 0
theorem hasFrom_at (ys : List Int) (x : Int) : ∀ (d : Nat) (i : Int), hasFrom ys x d i = true → ∃ j, i ≤ j ∧ j < i + d ∧ rd ys j = x
  | 0, _, h => by cases h
  | d + 1, i, h => by
    unfold hasFrom at h
    split at h
    · rename_i c; exact ⟨i, by omega, by omega, c⟩
    · obtain ⟨j, h1, h2, h3⟩ := hasFrom_at ys x d (i + 1) h
      exact ⟨j, by omega, by omega, h3⟩
theorem hasFrom_mk (ys : List Int) (x : Int) : ∀ (d : Nat) (i j : Int), i ≤ j → j < i + d → rd ys j = x → hasFrom ys x d i = true
  | 0, _, _, _, _, _ => by omega
  | d + 1, i, j, h1, h2, h3 => by
    unfold hasFrom
    split
    · rfl
    · rename_i c
      by_cases e : i = j
      · subst e; exact absurd h3 c
      · exact hasFrom_mk ys x d (i + 1) j (by omega) (by omega) h3
theorem has_iff (ys : List Int) (x : Int) : has ys x = true ↔ ∃ j : Int, 0 ≤ j ∧ j < ys.length ∧ rd ys j = x := by
  constructor
  · intro h
    obtain ⟨j, h1, h2, h3⟩ := hasFrom_at ys x ys.length 0 h
    exact ⟨j, h1, by omega, h3⟩
  · rintro ⟨j, h1, h2, h3⟩
    exact hasFrom_mk ys x ys.length 0 j h1 (by omega) h3
theorem rd_take (xs : List Int) (k j : Int) (h0 : 0 ≤ j) (h1 : j < k) : rd (xs.take k.toNat) j = rd xs j := by
  unfold rd
  simp only [List.getD_eq_getElem?_getD]
  rw [List.getElem?_take_of_lt (by omega)]

theorem rd_ne (xs : List Int) (i : Nat) (h : i < xs.length) : rd xs (i : Int) = xs[i] := by rw [rd_nat]; simp [List.getD, h]
theorem has_mem (ys : List Int) (x : Int) : has ys x = decide (x ∈ ys) := by
  rw [Bool.eq_iff_iff, decide_eq_true_iff, has_iff]
  constructor
  · rintro ⟨j, h0, h1, h2⟩
    obtain ⟨j, rfl⟩ := Int.eq_ofNat_of_zero_le h0
    rw [rd_ne ys j (by omega)] at h2
    exact List.mem_iff_getElem.2 ⟨j, by omega, h2⟩
  · intro h
    obtain ⟨j, h1, h2⟩ := List.mem_iff_getElem.1 h
    exact ⟨j, by omega, by omega, by rw [rd_ne ys j h1]; exact h2⟩
theorem drop_cons (xs : List Int) (i : Nat) (h : i < xs.length) : xs.drop i = rd xs (i : Int) :: xs.drop (i + 1) := by rw [rd_ne xs i h]; exact List.drop_eq_getElem_cons h
theorem l1Has_ev (ys : List Int) (x : Int) (hl : ys.length ≤ 100000000) : Ev (fun f => spec_l1Has.f f ys x) (has ys x) := by
  have loop : ∀ (d : Nat) (i : Int), 0 ≤ i → i + d = ys.length → Ev (fun f => spec_l1Has.l0 f x ys ys.length i) (hasFrom ys x d i) := by
    intro d
    induction d with
    | zero =>
      intro i h0 hd
      refine ev_shift ?_
      simp only [spec_l1Has.l0, if_neg (show ¬ i < (ys.length : Int) by omega), hasFrom]
      exact Ev.now _
    | succ d ih =>
      intro i h0 hd
      have hn := ih (i + 1) (by omega) (by omega)
      refine ev_shift ?_
      simp only [spec_l1Has.l0, if_pos (show i < (ys.length : Int) by omega), if_pos h0, w64 (show -9223372036854775808 ≤ i + 1 by omega) (by omega)]
      unfold hasFrom
      by_cases c : rd ys i = x
      · rw [if_pos c]; simp only [if_pos c]; exact Ev.now _
      · rw [if_neg c]; simp only [if_neg c]; exact hn
  exact loop ys.length 0 (by omega) (by omega)

theorem l1Own_eq (xs : List Int) (h : xs.length < 17592186044416) : spec_l1Own.f xs = some xs := by
  unfold spec_l1Own.f
  simp only [Option.bind_some, List.length_nil, Nat.zero_add, if_pos h, List.nil_append]

/-! the place of a number in a list -/
def place (xs : List Int) (x : Int) : Nat → Nat → Nat
  | 0, i => i
  | d + 1, i => if rd xs (i : Int) < x then place xs x d (i + 1) else i
def putAt (xs : List Int) (x : Int) (k : Nat) : List Int := if k < xs.length ∧ rd xs (k : Int) = x then xs else xs.take k ++ x :: xs.drop k
/-- l1Put. -/
def put (xs : List Int) (x : Int) : List Int := putAt xs x (place xs x xs.length 0)
theorem place_le (xs : List Int) (x : Int) : ∀ (d i : Nat), place xs x d i ≤ i + d
  | 0, i => Nat.le_refl _
  | d + 1, i => by
    unfold place
    split
    · have := place_le xs x d (i + 1); omega
    · omega
theorem place_low (xs : List Int) (x : Int) : ∀ (d i m : Nat), i ≤ m → m < place xs x d i → rd xs (m : Int) < x
  | 0, i, m, h1, h2 => by unfold place at h2; omega
  | d + 1, i, m, h1, h2 => by
    unfold place at h2
    split at h2
    · rename_i c
      by_cases e : i = m
      · subst e; exact c
      · exact place_low xs x d (i + 1) m (by omega) h2
    · omega
theorem place_high (xs : List Int) (x : Int) : ∀ (d i : Nat), place xs x d i < i + d → ¬ rd xs (place xs x d i : Int) < x
  | 0, i, h => by unfold place at h; omega
  | d + 1, i, h => by
    unfold place at h ⊢
    split
    · rename_i c
      rw [if_pos c] at h
      exact place_high xs x d (i + 1) (by omega)
    · assumption
theorem place_eq (xs : List Int) (x : Int) (k : Nat) (hk : k ≤ xs.length) (h1 : ∀ m : Nat, m < k → rd xs (m : Int) < x) (h2 : k < xs.length → ¬ rd xs (k : Int) < x) : place xs x xs.length 0 = k := by
  have a := place_le xs x xs.length 0
  rcases Nat.lt_trichotomy (place xs x xs.length 0) k with c | c | c
  · exact absurd (h1 _ c) (place_high xs x xs.length 0 (by omega))
  · exact c
  · exact absurd (place_low xs x xs.length 0 k (by omega) c) (h2 (by omega))
theorem l1Put_ev (xs : List Int) (x : Int) (hl : xs.length ≤ 100000000) : Ev (fun f => spec_l1Put.f f xs x) (put xs x) := by
  have loop : ∀ (d i : Nat), i + d = xs.length → Ev (fun f => spec_l1Put.l0 f xs x i) (putAt xs x (place xs x d i)) := by
    intro d
    induction d with
    | zero =>
      intro i hd
      refine ev_shift ?_
      have l1 : ([] ++ xs.take i : List Int).length ≤ 100000000 := by simp only [List.nil_append, List.length_take]; omega
      have l2 : (([] ++ xs.take i : List Int) ++ [x]).length ≤ 100000001 := by rw [List.length_append, List.length_singleton]; omega
      simp only [spec_l1Put.l0, if_neg (show ¬ (i : Int) < (xs.length : Int) by omega), Option.bind_some, if_pos (show (0 : Int) ≤ (i : Int) by omega), if_pos (show (i : Int) ≤ (xs.length : Int) by omega), Int.toNat_natCast, if_pos (show ([] : List Int).length + (xs.take i).length < 17592186044416 by rw [List.length_take]; simp only [List.length_nil]; omega), if_pos (show ([] ++ xs.take i : List Int).length < 17592186044416 by omega), if_pos (show (([] ++ xs.take i : List Int) ++ [x]).length + (xs.drop i).length < 17592186044416 by rw [List.length_drop]; omega)]
      unfold place putAt
      rw [if_neg (by omega), List.nil_append, List.append_assoc]
      exact Ev.now _
    | succ d ih =>
      intro i hd
      have ih1 := ih (i + 1) (by omega)
      unfold place
      by_cases c : rd xs (i : Int) < x
      · rw [if_pos c]
        refine ev_shift ?_
        simp only [spec_l1Put.l0, if_pos (show (i : Int) < (xs.length : Int) by omega), if_pos (show (0 : Int) ≤ (i : Int) by omega), if_pos c, w64 (show -9223372036854775808 ≤ (i : Int) + 1 by omega) (by omega)]
        exact ih1
      · rw [if_neg c]
        by_cases e : rd xs (i : Int) = x
        · refine ev_shift ?_
          simp only [spec_l1Put.l0, if_pos (show (i : Int) < (xs.length : Int) by omega), if_pos (show (0 : Int) ≤ (i : Int) by omega), if_neg c, if_pos e]
          unfold putAt
          rw [if_pos ⟨by omega, e⟩]
          exact Ev.now _
        · refine ev_shift ?_
          have l1 : ([] ++ xs.take i : List Int).length ≤ 100000000 := by simp only [List.nil_append, List.length_take]; omega
          have l2 : (([] ++ xs.take i : List Int) ++ [x]).length ≤ 100000001 := by rw [List.length_append, List.length_singleton]; omega
          simp only [spec_l1Put.l0, if_pos (show (i : Int) < (xs.length : Int) by omega), if_neg c, if_neg e, Option.bind_some, if_pos (show (0 : Int) ≤ (i : Int) by omega), if_pos (show (i : Int) ≤ (xs.length : Int) by omega), Int.toNat_natCast, if_pos (show ([] : List Int).length + (xs.take i).length < 17592186044416 by rw [List.length_take]; simp only [List.length_nil]; omega), if_pos (show ([] ++ xs.take i : List Int).length < 17592186044416 by omega), if_pos (show (([] ++ xs.take i : List Int) ++ [x]).length + (xs.drop i).length < 17592186044416 by rw [List.length_drop]; omega)]
          unfold putAt
          rw [if_neg (fun h => e h.2), List.nil_append, List.append_assoc]
          exact Ev.now _
  exact loop xs.length 0 (by omega)
theorem put_length (xs : List Int) (x : Int) : (put xs x).length ≤ xs.length + 1 := by
  unfold put putAt
  split
  · omega
  · rw [List.length_append, List.length_cons, List.length_take, List.length_drop]; omega
/-! lists that rise, and what slices.Sort and slices.Compact make of a list -/
theorem strict_eq : ∀ l1 l2 : List Int, l1.Pairwise (· < ·) → l2.Pairwise (· < ·) → (∀ x, x ∈ l1 ↔ x ∈ l2) → l1 = l2
  | [], [], _, _, _ => rfl
  | [], b :: l2, _, _, h => absurd ((h b).2 (List.mem_cons_self ..)) (by simp)
  | a :: l1, [], _, _, h => absurd ((h a).1 (List.mem_cons_self ..)) (by simp)
  | a :: l1, b :: l2, h1, h2, h => by
    obtain ⟨p1, q1⟩ := List.pairwise_cons.1 h1
    obtain ⟨p2, q2⟩ := List.pairwise_cons.1 h2
    have e : a = b := by
      rcases List.mem_cons.1 ((h a).1 (List.mem_cons_self ..)) with c | c
      · exact c
      · rcases List.mem_cons.1 ((h b).2 (List.mem_cons_self ..)) with d | d
        · exact d.symm
        · have := p1 b d; have := p2 a c; omega
    subst e
    rw [strict_eq l1 l2 q1 q2 (fun x => ?_)]
    constructor
    · intro hx
      rcases List.mem_cons.1 ((h x).1 (List.mem_cons_of_mem _ hx)) with c | c
      · have := p1 x hx; omega
      · exact c
    · intro hx
      rcases List.mem_cons.1 ((h x).2 (List.mem_cons_of_mem _ hx)) with c | c
      · have := p2 x hx; omega
      · exact c
theorem comp_fact (d : Array Int) (hs : ∀ i j, i ≤ j → j < d.size → d[i]! ≤ d[j]!) : ∀ m, m ≤ d.size → (Go.Lib.compactUpTo d m).Pairwise (· < ·) ∧ (∀ x, x ∈ Go.Lib.compactUpTo d m ↔ ∃ j, j < m ∧ d[j]! = x)
  | 0, _ => ⟨by simp [Go.Lib.compactUpTo], fun x => by simp [Go.Lib.compactUpTo]⟩
  | m + 1, hm => by
    obtain ⟨h1, h2⟩ := comp_fact d hs m (by omega)
    rw [Go.Lib.compactUpTo_succ]
    by_cases c : Go.Lib.keeps d m = true
    · rw [if_pos c]
      refine ⟨List.pairwise_append.2 ⟨h1, by simp, fun x hx y hy => ?_⟩, fun x => ?_⟩
      · rw [List.mem_singleton.1 hy]
        obtain ⟨j, hj, rfl⟩ := (h2 x).1 hx
        have a1 := hs j (m - 1) (by omega) (by omega)
        have a2 := hs (m - 1) m (by omega) (by omega)
        have a3 : d[m]! ≠ d[m - 1]! := by
          unfold Go.Lib.keeps at c
          rcases of_decide_eq_true c with q | q
          · omega
          · exact q
        omega
      · rw [List.mem_append, h2, List.mem_singleton]
        constructor
        · rintro (⟨j, hj, e⟩ | e)
          · exact ⟨j, by omega, e⟩
          · exact ⟨m, by omega, e.symm⟩
        · rintro ⟨j, hj, e⟩
          by_cases q : j = m
          · subst q; exact .inr e.symm
          · exact .inl ⟨j, by omega, e⟩
    · rw [if_neg c, List.append_nil]
      refine ⟨h1, fun x => ?_⟩
      rw [h2]
      constructor
      · rintro ⟨j, hj, e⟩; exact ⟨j, by omega, e⟩
      · rintro ⟨j, hj, e⟩
        by_cases q : j = m
        · subst q
          have hj0 : j ≠ 0 := fun h => c (by unfold Go.Lib.keeps; exact decide_eq_true (.inl h))
          have he : d[j]! = d[j - 1]! := by
            by_cases r : d[j]! = d[j - 1]!
            · exact r
            · exact absurd (Go.Lib.keeps_pos r) c
          exact ⟨j - 1, by omega, by rw [← he]; exact e⟩
        · exact ⟨j, by omega, e⟩
theorem inc_fact (l : List Int) : (Go.Lib.compact (l.mergeSort fun x y => decide (x ≤ y))).Pairwise (· < ·) ∧ ∀ x, x ∈ Go.Lib.compact (l.mergeSort fun x y => decide (x ≤ y)) ↔ x ∈ l := by
  have hp : (l.mergeSort fun x y => decide (x ≤ y)).Pairwise (fun a b => decide (a ≤ b) = true) := List.pairwise_mergeSort (le := fun x y : Int => decide (x ≤ y)) (fun a b c h1 h2 => decide_eq_true (Int.le_trans (of_decide_eq_true h1) (of_decide_eq_true h2))) (fun a b => by rcases Int.le_total a b with h | h <;> simp [h]) l
  have hm : ∀ x, x ∈ (l.mergeSort fun x y => decide (x ≤ y)) ↔ x ∈ l := fun x => List.mem_mergeSort
  generalize (l.mergeSort fun x y => decide (x ≤ y)) = z at hp hm ⊢
  have hs : ∀ i j, i ≤ j → j < z.toArray.size → z.toArray[i]! ≤ z.toArray[j]! := fun i j hij hj => by
    have hj' : j < z.length := by simpa using hj
    rw [getElem!_pos _ i (by simp; omega), getElem!_pos _ j hj]
    simp only [List.getElem_toArray]
    by_cases e : i = j
    · subst e; exact Int.le_refl _
    · exact of_decide_eq_true (List.pairwise_iff_getElem.1 hp i j (by omega) hj' (by omega))
  obtain ⟨a, b⟩ := comp_fact z.toArray hs z.length (by simp)
  refine ⟨a, fun x => ?_⟩
  rw [show Go.Lib.compact z = Go.Lib.compactUpTo z.toArray z.length from rfl, b, ← hm]
  constructor
  · rintro ⟨j, hj, e⟩
    rw [getElem!_pos _ j (by simpa using hj)] at e
    exact List.mem_iff_getElem.2 ⟨j, hj, by simpa using e⟩
  · intro h
    obtain ⟨j, hj, e⟩ := List.mem_iff_getElem.1 h
    exact ⟨j, hj, by rw [getElem!_pos _ j (by simpa using hj)]; simpa using e⟩
theorem put_fact (xs : List Int) (n : Int) (h : xs.Pairwise (· < ·)) : (put xs n).Pairwise (· < ·) ∧ ∀ x, x ∈ put xs n ↔ x ∈ xs ∨ x = n := by
  unfold put putAt
  obtain ⟨k, hk⟩ : ∃ k, place xs n xs.length 0 = k := ⟨_, rfl⟩
  have k0 := place_le xs n xs.length 0
  have k1 : ∀ m : Nat, m < k → rd xs (m : Int) < n := fun m hm => place_low xs n xs.length 0 m (Nat.zero_le _) (by omega)
  have k2 : k < xs.length → ¬ rd xs (k : Int) < n := fun hl => by have := place_high xs n xs.length 0 (by omega); rwa [hk] at this
  rw [hk] at k0 ⊢
  have ht : ∀ a ∈ xs.take k, a < n := fun a ha => by
    obtain ⟨j, hj, rfl⟩ := List.mem_iff_getElem.1 ha
    rw [List.length_take] at hj
    rw [List.getElem_take, ← rd_ne xs j (by omega)]
    exact k1 j (by omega)
  split
  · rename_i c
    refine ⟨h, fun x => ⟨.inl, fun q => q.elim id (fun e => ?_)⟩⟩
    rw [e, ← c.2, rd_ne xs k c.1]
    exact List.getElem_mem _
  · rename_i c
    have hd : ∀ b ∈ xs.drop k, n < b := fun b hb => by
      obtain ⟨j, hj, rfl⟩ := List.mem_iff_getElem.1 hb
      rw [List.length_drop] at hj
      rw [List.getElem_drop]
      have a1 := k2 (by omega)
      rw [rd_ne xs k (by omega)] at a1
      have a2 : ¬ xs[k]'(by omega) = n := fun e => c ⟨by omega, by rw [rd_ne xs k (by omega)]; exact e⟩
      by_cases e : j = 0
      · subst e; simp only [Nat.add_zero]; omega
      · have := List.pairwise_iff_getElem.1 h k (k + j) (by omega) (by omega) (by omega)
        omega
    have hsp := List.take_append_drop k xs
    refine ⟨List.pairwise_append.2 ⟨h.sublist (List.take_sublist ..), List.pairwise_cons.2 ⟨hd, h.sublist (List.drop_sublist ..)⟩, fun a ha b hb => ?_⟩, fun x => ?_⟩
    · rcases List.mem_cons.1 hb with e | e
      · rw [e]; exact ht a ha
      · have := ht a ha; have := hd b e; omega
    · have hm : x ∈ xs ↔ x ∈ xs.take k ∨ x ∈ xs.drop k := by rw [← List.mem_append, hsp]
      rw [List.mem_append, List.mem_cons, hm]
      constructor
      · rintro (q | q | q)
        · exact .inl (.inl q)
        · exact .inr q
        · exact .inl (.inr q)
      · rintro ((q | q) | q)
        · exact .inl q
        · exact .inr (.inr q)
        · exact .inr (.inl q)
theorem puts_fact : ∀ (ys xs : List Int), xs.Pairwise (· < ·) → (ys.foldl put xs).Pairwise (· < ·) ∧ ∀ x, x ∈ ys.foldl put xs ↔ x ∈ xs ∨ x ∈ ys
  | [], xs, h => ⟨h, fun x => by simp⟩
  | y :: ys, xs, h => by
    obtain ⟨a, b⟩ := put_fact xs y h
    obtain ⟨c, d⟩ := puts_fact ys (put xs y) a
    refine ⟨c, fun x => ?_⟩
    rw [List.foldl_cons, d, b, List.mem_cons]
    constructor
    · rintro ((q | q) | q)
      · exact .inl q
      · exact .inr (.inl q)
      · exact .inr (.inr q)
    · rintro (q | q | q)
      · exact .inl (.inl q)
      · exact .inl (.inr q)
      · exact .inr q
theorem puts_length : ∀ (ys xs : List Int), (ys.foldl put xs).length ≤ xs.length + ys.length
  | [], _ => Nat.le_refl _
  | y :: ys, xs => by
    have := puts_length ys (put xs y)
    have := put_length xs y
    rw [List.foldl_cons, List.length_cons]
    omega
theorem from_strict (xs : List Int) : ∀ (d : Nat) (k : Nat), 1 ≤ k → implFrom xs d k = true → ∀ (a b : Nat), k - 1 ≤ a → a < b → b < k + d → rd xs (a : Int) < rd xs (b : Int)
  | 0, k, hk, _, a, b, h1, h2, h3 => by omega
  | d + 1, k, hk, h, a, b, h1, h2, h3 => by
    obtain ⟨_, p2, p3, _⟩ := implFrom_head xs d k h
    have ih := from_strict xs d (k + 1) (by omega) (by rw [show ((k + 1 : Nat) : Int) = (k : Int) + 1 by omega]; exact p2)
    rw [show (k : Int) - 1 = ((k - 1 : Nat) : Int) by omega] at p3
    by_cases c : a = k - 1
    · subst c
      by_cases e : b = k
      · rw [e]; exact p3
      · have := ih k b (by omega) (by omega) (by omega)
        omega
    · exact ih a b (by omega) h2 (by omega)
theorem chain_strict (xs : List Int) (h : chain xs = true) : xs.Pairwise (· < ·) := by
  obtain ⟨h1, _, _, h4⟩ := chain_from xs h
  refine List.pairwise_iff_getElem.2 (fun i j hi hj hij => ?_)
  have := from_strict xs (xs.length - 1) 1 (Nat.le_refl _) h4 i j (by omega) hij (by omega)
  rwa [rd_ne xs i hi, rd_ne xs j hj] at this
def meet (xs ys : List Int) : List Int := xs.filter fun x => decide (x ∈ ys)
def meetAns (xs ys : List Int) : List Int × Bool := if chain xs = true ∧ chain ys = true then ifChain (meet xs ys) else ([], false)
theorem meetAns_short (xs ys : List Int) : (meetAns xs ys).1.length ≤ 1000000 := by
  unfold meetAns
  split
  · exact ifChain_short _
  · simp
theorem meet_loop (xs ys : List Int) (hx : xs.length ≤ 1000) (hy : ys.length ≤ 1000) : ∀ (d i : Nat) (acc : List Int), i + d = xs.length → acc.length + d ≤ 100000 → Ev (fun f => spec_MeetChains.l0 f ys acc xs xs.length i) (ifChain (acc ++ meet (xs.drop i) ys)) := by
  intro d
  induction d with
  | zero =>
    intro i acc hd ha
    refine ev_shift ?_
    rw [List.drop_of_length_le (by omega)]
    simp only [spec_MeetChains.l0, if_neg (show ¬ (i : Int) < (xs.length : Int) by omega), meet, List.filter_nil, List.append_nil]
    exact ev_bind (chIf_ev acc (by omega)) (Ev.now _)
  | succ d ih =>
    intro i acc hd ha
    have i1 := ih (i + 1) (acc ++ [rd xs (i : Int)]) (by omega) (by rw [List.length_append, List.length_singleton]; omega)
    have i2 := ih (i + 1) acc (by omega) (by omega)
    refine ev_shift ?_
    simp only [spec_MeetChains.l0, if_pos (show (i : Int) < (xs.length : Int) by omega), if_pos (show (0 : Int) ≤ (i : Int) by omega), w64 (show -9223372036854775808 ≤ (i : Int) + 1 by omega) (by omega), if_pos (show acc.length < 17592186044416 by omega)]
    refine ev_bind (l1Has_ev ys (rd xs (i : Int)) (by omega)) ?_
    rw [drop_cons xs i (by omega), has_mem]
    unfold meet at i1 i2 ⊢
    rw [List.filter_cons]
    by_cases c : rd xs (i : Int) ∈ ys
    · simp only [decide_eq_true c, if_true]
      rw [List.append_assoc, List.singleton_append] at i1
      exact i1
    · simp only [decide_eq_false c, Bool.false_eq_true, if_false]
      exact i2
theorem meetSpec_ev (xs ys : List Int) (hl : xs.length ≤ 1048576) (hl2 : ys.length ≤ 1048576) : Ev (fun f => spec_MeetChains.f f xs ys) (meetAns xs ys) := by
  unfold spec_MeetChains.f meetAns
  refine ev_bind (chGood_ev xs hl) ?_
  have fin : Ev (fun f => spec_MeetChains.j0 f xs ys true) (([], false) : List Int × Bool) := by
    refine ev_shift ?_
    simp only [spec_MeetChains.j0, if_true]
    exact Ev.now _
  by_cases c : chain xs = true
  · have cx := (chain_from xs c).2.1
    simp only [c, if_true]
    refine ev_bind (chGood_ev ys hl2) ?_
    by_cases c2 : chain ys = true
    · have cy := (chain_from ys c2).2.1
      rw [if_pos ⟨trivial, c2⟩]
      simp only [c2, Bool.not_true]
      refine ev_shift ?_
      simp only [spec_MeetChains.j0, Bool.false_eq_true, if_false]
      exact meet_loop xs ys (by omega) (by omega) xs.length 0 [] (by omega) (by simp; omega)
    · rw [if_neg (fun h => c2 h.2), Bool.eq_false_iff.mpr c2]
      simp only [Bool.not_false]
      exact fin
  · rw [if_neg (fun h => c h.1)]
    simp only [if_neg c]
    exact fin
theorem meetImpl_ev (xs ys : List Int) (hl : xs.length ≤ 1048576) (hl2 : ys.length ≤ 1048576) : Ev (fun f => impl_MeetChains.f f xs ys) (meetAns xs ys) := by
  unfold impl_MeetChains.f meetAns
  refine ev_bind (isChain_ev xs hl) ?_
  by_cases c : chain xs = true
  · have cx := chain_from xs c
    simp only [c, if_true]
    refine ev_bind (isChain_ev ys hl2) ?_
    by_cases c2 : chain ys = true
    · rw [if_pos ⟨trivial, c2⟩]
      simp only [c2, if_true, impl_MeetChains.j, if_pos (show 0 < xs.length by omega), if_pos (show xs.length ≤ 1000000 by omega), if_pos (show ys.length ≤ 1000000 by have := (chain_from ys c2).2.1; omega)]
      exact told_ev (meet xs ys) (by unfold meet; exact Nat.le_trans (List.length_filter_le ..) hl)
    · rw [if_neg (fun h => c2 h.2)]
      simp only [if_neg c2]
      exact Ev.now _
  · rw [if_neg (fun h => c h.1)]
    simp only [if_neg c]
    exact Ev.now _
def union (xs ys : List Int) : List Int := ys.foldl put xs
def unionAns (xs ys : List Int) : List Int × Bool := if chain xs = true ∧ chain ys = true then ifChain (union xs ys) else ([], false)
theorem unionAns_short (xs ys : List Int) : (unionAns xs ys).1.length ≤ 1000000 := by
  unfold unionAns
  split
  · exact ifChain_short _
  · simp
theorem union_loop (ys : List Int) (hy : ys.length ≤ 1000) : ∀ (d i : Nat) (acc : List Int), i + d = ys.length → acc.length + d ≤ 100000 → Ev (fun f => spec_UnionChains.l0 f acc ys ys.length i) (ifChain ((ys.drop i).foldl put acc)) := by
  intro d
  induction d with
  | zero =>
    intro i acc hd ha
    refine ev_shift ?_
    rw [List.drop_of_length_le (by omega)]
    simp only [spec_UnionChains.l0, if_neg (show ¬ (i : Int) < (ys.length : Int) by omega), List.foldl_nil]
    exact ev_bind (chIf_ev acc (by omega)) (Ev.now _)
  | succ d ih =>
    intro i acc hd ha
    have i1 := ih (i + 1) (put acc (rd ys (i : Int))) (by omega) (by have := put_length acc (rd ys (i : Int)); omega)
    refine ev_shift ?_
    simp only [spec_UnionChains.l0, if_pos (show (i : Int) < (ys.length : Int) by omega), if_pos (show (0 : Int) ≤ (i : Int) by omega), w64 (show -9223372036854775808 ≤ (i : Int) + 1 by omega) (by omega)]
    refine ev_bind (l1Put_ev acc (rd ys (i : Int)) (by omega)) ?_
    rw [drop_cons ys i (by omega), List.foldl_cons]
    exact i1
theorem unionSpec_ev (xs ys : List Int) (hl : xs.length ≤ 1048576) (hl2 : ys.length ≤ 1048576) : Ev (fun f => spec_UnionChains.f f xs ys) (unionAns xs ys) := by
  unfold spec_UnionChains.f unionAns
  refine ev_bind (chGood_ev xs hl) ?_
  have fin : Ev (fun f => spec_UnionChains.j0 f xs ys true) (([], false) : List Int × Bool) := by
    refine ev_shift ?_
    simp only [spec_UnionChains.j0, if_true]
    exact Ev.now _
  by_cases c : chain xs = true
  · have cx := (chain_from xs c).2.1
    simp only [c, if_true]
    refine ev_bind (chGood_ev ys hl2) ?_
    by_cases c2 : chain ys = true
    · have cy := (chain_from ys c2).2.1
      rw [if_pos ⟨trivial, c2⟩]
      simp only [c2, Bool.not_true]
      refine ev_shift ?_
      simp only [spec_UnionChains.j0, Bool.false_eq_true, if_false, l1Own_eq xs (by omega), Option.bind_some]
      exact union_loop ys (by omega) ys.length 0 xs (by omega) (by omega)
    · rw [if_neg (fun h => c2 h.2), Bool.eq_false_iff.mpr c2]
      simp only [Bool.not_false]
      exact fin
  · rw [if_neg (fun h => c h.1)]
    simp only [if_neg c]
    exact fin
theorem unionImpl_ev (xs ys : List Int) (hl : xs.length ≤ 1048576) (hl2 : ys.length ≤ 1048576) : Ev (fun f => impl_UnionChains.f f xs ys) (unionAns xs ys) := by
  unfold impl_UnionChains.f unionAns
  refine ev_bind (isChain_ev xs hl) ?_
  by_cases c : chain xs = true
  · have cx := chain_from xs c
    simp only [c, if_true]
    refine ev_bind (isChain_ev ys hl2) ?_
    by_cases c2 : chain ys = true
    · rw [if_pos ⟨trivial, c2⟩]
      simp only [c2, if_true, impl_UnionChains.j, if_pos (show 0 < xs.length by omega), if_pos (show xs.length ≤ 1000000 by omega), if_pos (show ys.length ≤ 1000000 by have := (chain_from ys c2).2.1; omega)]
      have e : impl_UnionChains.inc (xs ++ ys) = union xs ys := by
        obtain ⟨p1, p2⟩ := inc_fact (xs ++ ys)
        obtain ⟨q1, q2⟩ := puts_fact ys xs (chain_strict xs c)
        exact strict_eq _ _ p1 q1 (fun x => by unfold impl_UnionChains.inc union; rw [p2, q2, List.mem_append])
      rw [e]
      exact told_ev (union xs ys) (by have := puts_length ys xs; have := (chain_from ys c2).2.1; unfold union; omega)
    · rw [if_neg (fun h => c2 h.2)]
      simp only [if_neg c2]
      exact Ev.now _
  · rw [if_neg (fun h => c h.1)]
    simp only [if_neg c]
    exact Ev.now _
def extAns (xs : List Int) (n : Int) : List Int × Bool := if chain xs = true ∧ 1 ≤ n ∧ n ≤ 1000000 then ifChain (xs ++ [n]) else ([], false)
theorem isNum_eq (n : Int) : impl_isNumber.f n = some (decide (1 ≤ n) && decide (n ≤ 1000000)) := by unfold impl_isNumber.f; rw [in_eq]; rfl

theorem extImpl_ev (xs : List Int) (n : Int) (hl : xs.length ≤ 1048576) : Ev (fun f => impl_ExtendChain.f f xs n) (extAns xs n) := by
  unfold impl_ExtendChain.f extAns
  refine ev_bind (isChain_ev xs hl) ?_
  simp only [isNum_eq, Option.bind_some]
  by_cases c : chain xs = true
  · have h41 := (chain_from xs c).2.1
    simp only [c, if_true]
    by_cases c2 : 1 ≤ n ∧ n ≤ 1000000
    · simp only [decide_eq_true c2.1, decide_eq_true c2.2, Bool.and_self, Bool.not_true]
      rw [if_pos ⟨trivial, c2⟩]
      refine ev_shift ?_
      simp only [impl_ExtendChain.j0, Bool.false_eq_true, if_false, clone_eq xs (by omega), Option.bind_some, if_pos (show xs.length < 17592186044416 by omega)]
      exact ev_bind (told_ev _ (by simp only [List.length_append, List.length_singleton]; omega)) (Ev.now _)
    · rw [if_neg (fun h => c2 h.2)]
      have e : (decide (1 ≤ n) && decide (n ≤ 1000000)) = false := by rw [Bool.and_eq_false_iff, decide_eq_false_iff_not, decide_eq_false_iff_not]; omega
      simp only [e, Bool.not_false]
      refine ev_shift ?_
      simp only [impl_ExtendChain.j0, if_true]
      exact Ev.now _
  · rw [if_neg (fun h => c h.1)]
    simp only [if_neg c]
    refine ev_shift ?_
    simp only [impl_ExtendChain.j0, if_true]
    exact Ev.now _
/-! what is drawn from bytes -/
theorem u8_of {x : Int} (h : (Lit.int .u8 x).wf = true) : 0 ≤ x ∧ x ≤ 255 := by
  simpa [Lit.wf, IntKind.min, IntKind.max, IntKind.signed, IntKind.bits] using h
theorem rd_u8 {code : List Int} (hc : ∀ x ∈ code, 0 ≤ x ∧ x ≤ 255) (i : Int) : 0 ≤ rd code i ∧ rd code i ≤ 255 := by
  unfold rd
  by_cases h : i.toNat < code.length
  · have := hc _ (List.getElem_mem h)
    simpa [List.getD, h] using this
  · simp [List.getD, h]
theorem u64_low (x : Int) : 0 ≤ wrap64 (Go.bits .and .u64 (IntKind.u64.wrap x / 1099511627776) 255) ∧ wrap64 (Go.bits .and .u64 (IntKind.u64.wrap x / 1099511627776) 255) ≤ 255 := by
  have h : 0 ≤ IntKind.u64.wrap x / 1099511627776 ∧ IntKind.u64.wrap x / 1099511627776 < 2 ^ 32 := by rw [IntKind.wrap_u64]; omega
  generalize IntKind.u64.wrap x / 1099511627776 = y at h ⊢
  have e : Go.bits .and .u64 y (2 ^ 8 - 1) = y % 2 ^ 8 := bits_mask .u64 32 (by decide) (fun n a b => by rw [IntKind.wrap_u64]; omega) 8 (by decide) y h.1 h.2
  rw [show (255 : Int) = 2 ^ 8 - 1 by decide, e, w64 (by omega) (by omega)]
  omega
theorem next_ok {code : List Int} (hc : ∀ x ∈ code, 0 ≤ x ∧ x ≤ 255) (at_ seed : Int) (h0 : 0 ≤ at_) (h1 : at_ ≤ 1000000000) : ∃ v s, spec_l1Cur_next.f code at_ seed = some (v, at_ + 1, s) ∧ 0 ≤ v ∧ v ≤ 255 := by
  unfold spec_l1Cur_next.f
  have w1 : wrap64 (at_ + 1) = at_ + 1 := w64 (by omega) (by omega)
  obtain ⟨r0, r1⟩ := rd_u8 hc at_
  rw [w1]
  by_cases c : at_ < (code.length : Int)
  · rw [if_pos c, if_pos h0]
    by_cases d : at_ + 1 ≤ (code.length : Int)
    · rw [if_pos d, w64 (by omega) (by omega)]
      exact ⟨_, _, rfl, r0, r1⟩
    · rw [if_neg d]
      exact ⟨_, _, rfl, u64_low _⟩
  · rw [if_neg c]
    by_cases d : at_ + 1 ≤ (code.length : Int)
    · rw [if_pos d]
      exact ⟨_, _, rfl, by omega, by omega⟩
    · rw [if_neg d]
      exact ⟨_, _, rfl, u64_low _⟩
theorem pick_ok {code : List Int} (hc : ∀ x ∈ code, 0 ≤ x ∧ x ≤ 255) (at_ seed n : Int) (h0 : 0 ≤ at_) (h1 : at_ ≤ 999999000) : ∃ v a s, spec_l1Cur_pick.f code at_ seed n = some (v, a, s) ∧ 0 ≤ v ∧ (v < n ∨ v = 0) ∧ at_ ≤ a ∧ a ≤ at_ + 2 := by
  unfold spec_l1Cur_pick.f
  by_cases c : n ≤ 1
  · rw [if_pos c]
    exact ⟨_, _, _, rfl, by omega, .inr rfl, by omega, by omega⟩
  · rw [if_neg c]
    obtain ⟨v, s, e, v0, v1⟩ := next_ok hc at_ seed h0 (by omega)
    rw [e, Option.bind_some]
    by_cases d : n > 200
    · rw [if_pos d]
      obtain ⟨v', s', e', v0', v1'⟩ := next_ok hc (at_ + 1) s (by omega) (by omega)
      show ∃ v a s, ((spec_l1Cur_next.f code (at_ + 1) _).bind _) = _ ∧ _
      rw [e', Option.bind_some, if_neg (show ¬ n = 0 by omega), w64 (show -9223372036854775808 ≤ v * 256 by omega) (by omega)]
      have hp : 0 ≤ v * 256 + v' := by omega
      rw [w64 (by omega) (by omega)]
      refine ⟨_, _, _, rfl, Int.tmod_nonneg _ hp, .inl ?_, by show at_ ≤ at_ + 1 + 1; omega, by show at_ + 1 + 1 ≤ _; omega⟩
      exact Int.tmod_lt_of_pos _ (by omega)
    · rw [if_neg d, if_neg (show ¬ n = 0 by omega)]
      refine ⟨_, _, _, rfl, Int.tmod_nonneg _ v0, .inl ?_, by show at_ ≤ at_ + 1; omega, by show at_ + 1 ≤ _; omega⟩
      exact Int.tmod_lt_of_pos _ (by omega)
theorem one_ok {code : List Int} (hc : ∀ x ∈ code, 0 ≤ x ∧ x ≤ 255) (at_ seed n : Int) (h0 : 0 ≤ at_) (h1 : at_ ≤ 999999000) : ∃ v a s, spec_l1Cur_one.f code at_ seed n = some (v, a, s) ∧ at_ ≤ a ∧ a ≤ at_ + 2 := by
  unfold spec_l1Cur_one.f
  obtain ⟨v, a, s, e, _, _, a1, a2⟩ := pick_ok hc at_ seed n h0 h1
  rw [e]
  exact ⟨_, _, _, rfl, a1, a2⟩
/-! a list that is drawn, a chain mostly -/
theorem put_ev (xs : List Int) (v : Int) (hl : xs.length ≤ 1000) (hn : xs ≠ []) : ∃ ys : List Int, ys ≠ [] ∧ ys.length ≤ xs.length + 1 ∧ Ev (fun k => spec_l1Put.f k xs v) ys := by
  have fin : ∀ i : Nat, i ≤ xs.length → (([] ++ xs.take i) ++ [v]) ++ xs.drop i ≠ [] ∧ ((([] ++ xs.take i) ++ [v]) ++ xs.drop i).length ≤ xs.length + 1 := fun i hi => by
    refine ⟨by simp, ?_⟩
    simp only [List.nil_append, List.length_append, List.length_take, List.length_drop, List.length_singleton]
    omega
  have loop : ∀ (d i : Nat), i + d = xs.length → ∃ ys : List Int, ys ≠ [] ∧ ys.length ≤ xs.length + 1 ∧ Ev (fun k => spec_l1Put.l0 k xs v i) ys := by
    intro d
    induction d with
    | zero =>
      intro i hd
      obtain ⟨f1, f2⟩ := fin i (by omega)
      refine ⟨_, f1, f2, ev_shift ?_⟩
      have l1 : ([] ++ xs.take i : List Int).length ≤ 1000 := by simp only [List.nil_append, List.length_take]; omega
      have l2 : (([] ++ xs.take i : List Int) ++ [v]).length ≤ 1001 := by rw [List.length_append, List.length_singleton]; omega
      simp only [spec_l1Put.l0, if_neg (show ¬ (i : Int) < (xs.length : Int) by omega), Option.bind_some, if_pos (show (0 : Int) ≤ (i : Int) by omega), if_pos (show (i : Int) ≤ (xs.length : Int) by omega), Int.toNat_natCast, if_pos (show ([] : List Int).length + (xs.take i).length < 17592186044416 by rw [List.length_take]; simp only [List.length_nil]; omega), if_pos (show ([] ++ xs.take i : List Int).length < 17592186044416 by omega), if_pos (show (([] ++ xs.take i : List Int) ++ [v]).length + (xs.drop i).length < 17592186044416 by rw [List.length_drop]; omega)]
      exact Ev.now _
    | succ d ih =>
      intro i hd
      obtain ⟨ys, y1, y2, y3⟩ := ih (i + 1) (by omega)
      by_cases c : rd xs (i : Int) < v
      · refine ⟨ys, y1, y2, ev_shift ?_⟩
        simp only [spec_l1Put.l0, if_pos (show (i : Int) < (xs.length : Int) by omega), if_pos (show (0 : Int) ≤ (i : Int) by omega), if_pos c, w64 (show -9223372036854775808 ≤ (i : Int) + 1 by omega) (by omega)]
        exact y3
      · by_cases e : rd xs (i : Int) = v
        · refine ⟨xs, hn, by omega, ev_shift ?_⟩
          simp only [spec_l1Put.l0, if_pos (show (i : Int) < (xs.length : Int) by omega), if_pos (show (0 : Int) ≤ (i : Int) by omega), if_neg c, if_pos e]
          exact Ev.now _
        · obtain ⟨f1, f2⟩ := fin i (by omega)
          refine ⟨_, f1, f2, ev_shift ?_⟩
          have l1 : ([] ++ xs.take i : List Int).length ≤ 1000 := by simp only [List.nil_append, List.length_take]; omega
          have l2 : (([] ++ xs.take i : List Int) ++ [v]).length ≤ 1001 := by rw [List.length_append, List.length_singleton]; omega
          simp only [spec_l1Put.l0, if_pos (show (i : Int) < (xs.length : Int) by omega), if_neg c, if_neg e, Option.bind_some, if_pos (show (0 : Int) ≤ (i : Int) by omega), if_pos (show (i : Int) ≤ (xs.length : Int) by omega), Int.toNat_natCast, if_pos (show ([] : List Int).length + (xs.take i).length < 17592186044416 by rw [List.length_take]; simp only [List.length_nil]; omega), if_pos (show ([] ++ xs.take i : List Int).length < 17592186044416 by omega), if_pos (show (([] ++ xs.take i : List Int) ++ [v]).length + (xs.drop i).length < 17592186044416 by rw [List.length_drop]; omega)]
          exact Ev.now _
  exact loop xs.length 0 (by omega)
theorem drawChain_ev (B : Int) (B0 : 0 ≤ B) (B1 : B ≤ 100000000) {code : List Int} (hc : ∀ x ∈ code, 0 ≤ x ∧ x ≤ 255) (at_ seed n : Int) (h0 : 0 ≤ at_) (h1 : at_ ≤ B + 100000) (hn : n ≤ 100) (hn0 : 0 ≤ n) : ∃ (ys : List Int) (a s : Int), ys ≠ [] ∧ ys.length ≤ 200 ∧ 0 ≤ a ∧ a ≤ B + 500000 ∧ Ev (fun k => spec_l1Cur_chain.f k code at_ seed n) (ys, a, s) := by
  unfold spec_l1Cur_chain.f
  obtain ⟨m, q, t, e, m0, m1, q1, q2⟩ := pick_ok hc at_ seed (wrap64 (n + 1)) h0 (by omega)
  rw [w64 (by omega) (by omega)] at e m1
  simp only [w64 (show -9223372036854775808 ≤ n + 1 by omega) (by omega), e, Option.bind_some]
  have loop : ∀ (d : Nat) (xs : List Int) (at_ seed : Int), d ≤ 101 → xs ≠ [] → xs.length + d ≤ 150 → 0 ≤ at_ → at_ + 100 * (d : Int) ≤ B + 400000 → ∃ (ys : List Int) (a s : Int), ys ≠ [] ∧ ys.length ≤ 200 ∧ 0 ≤ a ∧ a ≤ B + 500000 ∧ Ev (fun k => spec_l1Cur_chain.l0 k xs d code at_ seed) (ys, a, s) := by
    intro d
    induction d with
    | zero =>
      intro xs at_ seed hd hx hl h0 h1
      refine ⟨xs, at_, seed, hx, by omega, h0, by omega, ev_shift ?_⟩
      simp only [spec_l1Cur_chain.l0, if_neg (show ¬ ((0 : Nat) : Int) > 0 by omega)]
      exact Ev.now _
    | succ d ih =>
      intro xs at_ seed hd hx hl h0 h1
      have hp := List.length_pos_iff.2 hx
      obtain ⟨b, q, t, e, q1, q2⟩ := one_ok hc at_ seed 4 h0 (by omega)
      have hw : wrap64 (((d + 1 : Nat) : Int) - 1) = (d : Int) := by rw [show ((d + 1 : Nat) : Int) - 1 = (d : Int) by omega]; exact w64 (by omega) (by omega)
      have step : ∀ (x : Int) (q t : Int), 0 ≤ q → q + 100 * (d : Int) ≤ B + 399950 → ∃ (ys : List Int) (a s : Int), ys ≠ [] ∧ ys.length ≤ 200 ∧ 0 ≤ a ∧ a ≤ B + 500000 ∧ Ev (fun k => spec_l1Cur_chain.j1 k xs ((d + 1 : Nat) : Int) x code q t) (ys, a, s) := by
        intro x q t g0 g1
        obtain ⟨v, q', t', e', v0, v1, r1, r2⟩ := pick_ok hc q t xs.length g0 (by omega)
        by_cases c : wrap64 (x + rd xs v) ≤ 1000000
        · obtain ⟨zs, z1, z2, z3⟩ := put_ev xs (wrap64 (x + rd xs v)) (by omega) hx
          obtain ⟨ys, a, s, y1, y2, y3, y4, y5⟩ := ih zs q' t' (by omega) z1 (by omega) (by omega) (by omega)
          refine ⟨ys, a, s, y1, y2, y3, y4, ev_shift ?_⟩
          simp only [spec_l1Cur_chain.j1, e', Option.bind_some, if_pos v0, if_pos (show v < (xs.length : Int) by omega), if_pos c, hw]
          exact ev_bind z3 y5
        · obtain ⟨ys, a, s, y1, y2, y3, y4, y5⟩ := ih xs q' t' (by omega) hx (by omega) (by omega) (by omega)
          refine ⟨ys, a, s, y1, y2, y3, y4, ev_shift ?_⟩
          simp only [spec_l1Cur_chain.j1, e', Option.bind_some, if_pos v0, if_pos (show v < (xs.length : Int) by omega), if_neg c, hw]
          exact y5
      have w1 : wrap64 ((xs.length : Int) - 1) = (xs.length : Int) - 1 := w64 (by omega) (by omega)
      cases b with
      | true =>
        obtain ⟨v, q', t', e', v0, v1, r1, r2⟩ := pick_ok hc q t xs.length (by omega) (by omega)
        obtain ⟨ys, a, s, y1, y2, y3, y4, y5⟩ := step (rd xs v) q' t' (by omega) (by omega)
        refine ⟨ys, a, s, y1, y2, y3, y4, ev_shift ?_⟩
        simp only [spec_l1Cur_chain.l0, if_pos (show ((d + 1 : Nat) : Int) > 0 by omega), w1, if_pos (show (0 : Int) ≤ (xs.length : Int) - 1 by omega), if_pos (show (xs.length : Int) - 1 < (xs.length : Int) by omega), e, e', Option.bind_some, if_true, if_pos v0, if_pos (show v < (xs.length : Int) by omega)]
        exact y5
      | false =>
        obtain ⟨ys, a, s, y1, y2, y3, y4, y5⟩ := step (rd xs ((xs.length : Int) - 1)) q t (by omega) (by omega)
        refine ⟨ys, a, s, y1, y2, y3, y4, ev_shift ?_⟩
        simp only [spec_l1Cur_chain.l0, if_pos (show ((d + 1 : Nat) : Int) > 0 by omega), w1, if_pos (show (0 : Int) ≤ (xs.length : Int) - 1 by omega), if_pos (show (xs.length : Int) - 1 < (xs.length : Int) by omega), e, Option.bind_some, Bool.false_eq_true, if_false]
        exact y5
  obtain ⟨r, rfl⟩ := Int.eq_ofNat_of_zero_le m0
  exact loop r [1] q t (by omega) (by simp) (by simp; omega) (by omega) (by omega)
theorem drawAny_ev (B : Int) (B0 : 0 ≤ B) (B1 : B ≤ 100000000) {code : List Int} (hc : ∀ x ∈ code, 0 ≤ x ∧ x ≤ 255) (at_ seed n : Int) (h0 : 0 ≤ at_) (h1 : at_ ≤ B + 100000) (hn : n ≤ 100) (hn0 : 0 ≤ n) : ∃ (ys : List Int) (a s : Int), ys.length ≤ 1000 ∧ 0 ≤ a ∧ a ≤ B + 1000000 ∧ Ev (fun k => spec_l1Cur_anyChain.f k code at_ seed n) (ys, a, s) := by
  unfold spec_l1Cur_anyChain.f
  obtain ⟨xs, q, t, x1, x2, x3, x4, x5⟩ := drawChain_ev B B0 B1 hc at_ seed n h0 h1 hn hn0
  have hp := List.length_pos_iff.2 x1
  obtain ⟨v, q', t', e, v0, v1, r1, r2⟩ := pick_ok hc q t 14 x3 (by omega)
  by_cases c0 : v = 0
  · obtain ⟨i, q2, t2, e2, i0, i1, s1, s2⟩ := pick_ok hc q' t' xs.length (by omega) (by omega)
    obtain ⟨j, q3, t3, e3, _, _, u1, u2⟩ := pick_ok hc q2 t2 3 (by omega) (by omega)
    refine ⟨xs.set i.toNat (wrap64 (rd xs i + wrap64 (j - 1))), q3, t3, ?_, by omega, by omega, ev_bind x5 ?_⟩
    rotate_left
    · simp only [e, Option.bind_some, if_pos c0, e2, if_pos i0, if_pos (show i < (xs.length : Int) by omega), e3]
      exact Ev.now _
    · rw [List.length_set]; omega
  · by_cases c1 : v = 1
    · obtain ⟨i, q2, t2, e2, i0, i1, s1, s2⟩ := pick_ok hc q' t' 40 (by omega) (by omega)
      refine ⟨xs ++ [i], q2, t2, ?_, by omega, by omega, ev_bind x5 ?_⟩
      rotate_left
      · simp only [e, Option.bind_some, if_neg c0, if_pos c1, e2, if_pos (show xs.length < 17592186044416 by omega)]
        exact Ev.now _
      · rw [List.length_append, List.length_singleton]; omega
    · by_cases c2 : v = 2
      · refine ⟨[], q', t', by simp, by omega, by omega, ev_bind x5 ?_⟩
        simp only [e, Option.bind_some, if_neg c0, if_neg c1, if_pos c2]
        exact Ev.now _
      · by_cases c3 : v = 3
        · have loop : ∀ (d : Nat) (zs : List Int) (at_ seed : Int), zs.length + d = 42 → 0 ≤ at_ → at_ + 10 * (d : Int) ≤ B + 900000 → ∃ (ys : List Int) (a s : Int), ys.length ≤ 1000 ∧ 0 ≤ a ∧ a ≤ B + 1000000 ∧ Ev (fun k => spec_l1Cur_anyChain.l0 k zs code at_ seed) (ys, a, s) := by
            intro d
            induction d with
            | zero =>
              intro zs at_ seed hz h0 h1
              obtain ⟨b, q2, t2, e2, b0, b1, s1, s2⟩ := pick_ok hc at_ seed 2 h0 (by omega)
              refine ⟨zs, q2, t2, by omega, by omega, by omega, ev_shift ?_⟩
              simp only [spec_l1Cur_anyChain.l0, e2, Option.bind_some, w64 (show -9223372036854775808 ≤ 41 + b by omega) (by omega), if_neg (show ¬ (zs.length : Int) < 41 + b by omega)]
              exact Ev.now _
            | succ d ih =>
              intro zs at_ seed hz h0 h1
              obtain ⟨b, q2, t2, e2, b0, b1, s1, s2⟩ := pick_ok hc at_ seed 2 h0 (by omega)
              by_cases c : (zs.length : Int) < 41 + b
              · obtain ⟨ys, a, s, y2, y3, y4, y5⟩ := ih (zs ++ [wrap64 ((zs.length : Int) + 1)]) q2 t2 (by rw [List.length_append, List.length_singleton]; omega) (by omega) (by omega)
                refine ⟨ys, a, s, y2, y3, y4, ev_shift ?_⟩
                simp only [spec_l1Cur_anyChain.l0, e2, Option.bind_some, w64 (show -9223372036854775808 ≤ 41 + b by omega) (by omega), if_pos c, if_pos (show zs.length < 17592186044416 by omega)]
                exact y5
              · refine ⟨zs, q2, t2, by omega, by omega, by omega, ev_shift ?_⟩
                simp only [spec_l1Cur_anyChain.l0, e2, Option.bind_some, w64 (show -9223372036854775808 ≤ 41 + b by omega) (by omega), if_neg c]
                exact Ev.now _
          obtain ⟨ys, a, s, y2, y3, y4, y5⟩ := loop 42 [] q' t' (by simp) (by omega) (by omega)
          refine ⟨ys, a, s, y2, y3, y4, ev_bind x5 ?_⟩
          simp only [e, Option.bind_some, if_neg c0, if_neg c1, if_neg c2, if_pos c3]
          exact y5
        · by_cases c4 : v = 4
          · obtain ⟨i, q2, t2, e2, i0, i1, s1, s2⟩ := pick_ok hc q' t' 4 (by omega) (by omega)
            refine ⟨[1, 2, 4, 8, 16, 32, 64, 128, 256, 512, 1024, 2048, 4096, 8192, 16384, 32768, 65536, 131072, 262144, 524288] ++ [786432, wrap64 (786432 + wrap64 (131072 * i))], q2, t2, ?_, by omega, by omega, ev_bind x5 ?_⟩
            rotate_left
            · simp only [e, Option.bind_some, if_neg c0, if_neg c1, if_neg c2, if_neg c3, if_pos c4, e2, List.length_cons, List.length_nil, Nat.reduceAdd, if_pos (show 22 < 17592186044416 by decide)]
              exact Ev.now _
            · simp
          · refine ⟨xs, q', t', by omega, by omega, by omega, ev_bind x5 ?_⟩
            simp only [e, Option.bind_some, if_neg c0, if_neg c1, if_neg c2, if_neg c3, if_neg c4]
            exact Ev.now _
theorem sameInts_ev (l : List Int) (hl : l.length ≤ 1000000) : Ev (fun k => laws_pSameInts.f k l l) true := by
  have loop : ∀ (d i : Nat), i + d = l.length → Ev (fun k => laws_pSameInts.l0 k l l l.length i) true := by
    intro d
    induction d with
    | zero =>
      intro i hd
      refine ev_shift ?_
      simp only [laws_pSameInts.l0, if_neg (show ¬ (i : Int) < (l.length : Int) by omega)]
      exact Ev.now _
    | succ d ih =>
      intro i hd
      refine ev_shift ?_
      simp only [laws_pSameInts.l0, if_pos (show (i : Int) < (l.length : Int) by omega), if_pos (show (0 : Int) ≤ (i : Int) by omega), if_true, w64 (show -9223372036854775808 ≤ (i : Int) + 1 by omega) (by omega)]
      exact ih (i + 1) (by omega)
  unfold laws_pSameInts.f
  simp only [if_true]
  exact loop l.length 0 (by omega)
theorem pHas_ev (l : List Int) (x : Int) (hl : l.length ≤ 1000000) : Ev (fun k => laws_pHas.f k l x) (decide (x ∈ l)) := by
  have loop : ∀ (d i : Nat), i + d = l.length → Ev (fun k => laws_pHas.l0 k x l l.length i) (decide (x ∈ l.drop i)) := by
    intro d
    induction d with
    | zero =>
      intro i hd
      refine ev_shift ?_
      rw [List.drop_of_length_le (by omega)]
      simp only [laws_pHas.l0, if_neg (show ¬ (i : Int) < (l.length : Int) by omega)]
      exact Ev.now _
    | succ d ih =>
      intro i hd
      have i1 := ih (i + 1) (by omega)
      refine ev_shift ?_
      rw [drop_cons l i (by omega)]
      simp only [laws_pHas.l0, if_pos (show (i : Int) < (l.length : Int) by omega), if_pos (show (0 : Int) ≤ (i : Int) by omega), w64 (show -9223372036854775808 ≤ (i : Int) + 1 by omega) (by omega)]
      by_cases c : rd l (i : Int) = x
      · simp only [if_pos c, decide_eq_true (show x ∈ rd l (i : Int) :: l.drop (i + 1) by rw [c]; exact List.mem_cons_self ..)]
        exact Ev.now _
      · simp only [if_neg c]
        have : decide (x ∈ rd l (i : Int) :: l.drop (i + 1)) = decide (x ∈ l.drop (i + 1)) := by rw [decide_eq_decide, List.mem_cons]; exact ⟨fun h => h.resolve_left (fun e => c e.symm), .inr⟩
        rw [this]
        exact i1
  have h := loop l.length 0 (by omega)
  rw [List.drop_zero] at h
  exact h
theorem len_parts (l : List Int) (p : Int → Bool) : (l.filter p).length + (l.filter (fun x => !(p x))).length = l.length := by
  induction l with
  | nil => rfl
  | cons x l ih =>
    rw [List.filter_cons, List.filter_cons]
    cases p x <;> simp <;> omega
theorem nodup_of {l : List Int} (h : l.Pairwise (· < ·)) : l.Nodup := h.imp (fun h => by omega)
theorem same_len {a b : List Int} (ha : a.Nodup) (hb : b.Nodup) (h : ∀ x, x ∈ a ↔ x ∈ b) : a.length = b.length := ((List.perm_ext_iff_of_nodup ha hb).2 h).length_eq
theorem both_len {xs ys u : List Int} (hx : xs.Pairwise (· < ·)) (hy : ys.Pairwise (· < ·)) (hu : u.Pairwise (· < ·)) (h : ∀ x, x ∈ u ↔ x ∈ xs ∨ x ∈ ys) : (meet xs ys).length + u.length = xs.length + ys.length := by
  have e1 := len_parts ys (fun x => decide (x ∈ xs))
  have e2 : (meet xs ys).length = (ys.filter (fun x => decide (x ∈ xs))).length := same_len ((nodup_of hx).sublist (List.filter_sublist)) ((nodup_of hy).sublist (List.filter_sublist)) (fun x => by
    unfold meet
    rw [List.mem_filter, List.mem_filter, decide_eq_true_eq, decide_eq_true_eq]
    exact And.comm)
  have e3 : u.length = (xs ++ ys.filter (fun x => !(decide (x ∈ xs)))).length := same_len (nodup_of hu) (List.nodup_append.2 ⟨nodup_of hx, (nodup_of hy).sublist (List.filter_sublist), fun a ha b hb e => by
    subst e
    have := (List.mem_filter.1 hb).2
    simp [ha] at this⟩) (fun x => by
    rw [h, List.mem_append, List.mem_filter]
    by_cases c : x ∈ xs
    · simp [c]
    · simp [c])
  rw [List.length_append] at e3
  omega
theorem drawU_ev {code : List Int} (hc : ∀ x ∈ code, 0 ≤ x ∧ x ≤ 255) : ∃ xs ys : List Int, xs.length ≤ 1000 ∧ ys.length ≤ 1000 ∧ Ev (fun k => spec_DrawUnionChains.f k code) (xs, ys) := by
  obtain ⟨xs, a, s, x1, x2, x3, x4⟩ := drawAny_ev 0 (by omega) (by omega) hc 0 0 7 (by omega) (by omega) (by omega) (by omega)
  obtain ⟨b, q, t, e, q1, q2⟩ := one_ok hc a s 12 x2 (by omega)
  have loop : ∀ (d : Nat) (zs : List Int) (at_ seed : Int), zs.length + d = 41 → 0 ≤ at_ → at_ + 10 * (d : Int) ≤ 4000000 → ∃ ts us : List Int, ts.length ≤ 1000 ∧ us.length ≤ 1000 ∧ Ev (fun k => spec_DrawUnionChains.l0 k zs code at_ seed) (ts, us) := by
    intro d
    induction d with
    | zero =>
      intro zs at_ seed hz h0 h1
      obtain ⟨b, q2, t2, e2, b0, b1, s1, s2⟩ := pick_ok hc at_ seed 2 h0 (by omega)
      obtain ⟨us, a2, s2', u1, u2, u3, u4⟩ := drawAny_ev 10000000 (by omega) (by omega) hc q2 t2 7 (by omega) (by omega) (by omega) (by omega)
      refine ⟨zs, us, by omega, u1, ev_shift ?_⟩
      simp only [spec_DrawUnionChains.l0, e2, Option.bind_some, w64 (show -9223372036854775808 ≤ 41 - b by omega) (by omega), if_neg (show ¬ (zs.length : Int) < 41 - b by omega)]
      exact ev_bind u4 (Ev.now _)
    | succ d ih =>
      intro zs at_ seed hz h0 h1
      obtain ⟨b, q2, t2, e2, b0, b1, s1, s2⟩ := pick_ok hc at_ seed 2 h0 (by omega)
      by_cases c : (zs.length : Int) < 41 - b
      · obtain ⟨ts, us, y1, y2, y3⟩ := ih (zs ++ [wrap64 ((zs.length : Int) + 1)]) q2 t2 (by rw [List.length_append, List.length_singleton]; omega) (by omega) (by omega)
        refine ⟨ts, us, y1, y2, ev_shift ?_⟩
        simp only [spec_DrawUnionChains.l0, e2, Option.bind_some, w64 (show -9223372036854775808 ≤ 41 - b by omega) (by omega), if_pos c, if_pos (show zs.length < 17592186044416 by omega)]
        exact y3
      · obtain ⟨us, a2, s2', u1, u2, u3, u4⟩ := drawAny_ev 10000000 (by omega) (by omega) hc q2 t2 7 (by omega) (by omega) (by omega) (by omega)
        refine ⟨zs, us, by omega, u1, ev_shift ?_⟩
        simp only [spec_DrawUnionChains.l0, e2, Option.bind_some, w64 (show -9223372036854775808 ≤ 41 - b by omega) (by omega), if_neg c]
        exact ev_bind u4 (Ev.now _)
  cases b with
  | true =>
    obtain ⟨ts, us, y1, y2, y3⟩ := loop 41 [] q t (by simp) (by omega) (by omega)
    refine ⟨ts, us, y1, y2, ?_⟩
    unfold spec_DrawUnionChains.f
    refine ev_bind x4 ?_
    simp only [e, Option.bind_some, if_true]
    exact y3
  | false =>
    obtain ⟨us, a2, s2', u1, u2, u3, u4⟩ := drawAny_ev 10000000 (by omega) (by omega) hc q t 7 (by omega) (by omega) (by omega) (by omega)
    refine ⟨xs, us, x1, u1, ?_⟩
    unfold spec_DrawUnionChains.f
    refine ev_bind x4 ?_
    simp only [e, Option.bind_some, Bool.false_eq_true, if_false]
    exact ev_bind u4 (Ev.now _)
theorem j3_ok (more u : List Int) (hu : chain u = true) (hm : more.length ≤ 2000000) : Ev (fun k => laws_FnChainsTogether.j3 k more u false) true := by
  obtain ⟨h1, h41, _, _⟩ := chain_from u hu
  have w1 : wrap64 ((u.length : Int) - 1) = (u.length : Int) - 1 := w64 (by omega) (by omega)
  have m0 : 0 ≤ (more.length : Int) % (u.length : Int) := Int.emod_nonneg _ (by omega)
  have m1 : (more.length : Int) % (u.length : Int) < (u.length : Int) := Int.emod_lt_of_pos _ (by omega)
  refine ev_shift ?_
  generalize hq : (more.length : Int) % (u.length : Int) = q at m0 m1
  simp only [laws_FnChainsTogether.j3, hq, Bool.false_eq_true, if_false, w1, if_pos (show (0 : Int) ≤ (u.length : Int) - 1 by omega), if_pos (show (u.length : Int) - 1 < (u.length : Int) by omega), if_neg (show ¬ (u.length : Int) = 0 by omega), if_pos m0, if_pos m1]
  refine ev_bind (extImpl_ev u _ (by omega)) ?_
  unfold extAns ifChain
  split
  · by_cases c : chain (u ++ [wrap64 (rd u ((u.length : Int) - 1) + rd u q)]) = true
    · simp only [c, if_true]
      refine ev_bind (isChain_ev _ (by rw [List.length_append, List.length_singleton]; omega)) ?_
      simp only [c, if_true, if_pos (show (0 : Int) ≤ (u.length : Int) by omega), List.length_append, List.length_singleton, if_pos (show (u.length : Int) ≤ ((u.length + 1 : Nat) : Int) by omega), Int.toNat_natCast, List.take_left]
      exact ev_bind (sameInts_ev u (by omega)) (Ev.now _)
    · simp only [if_neg c, Bool.false_eq_true, if_false]
      exact Ev.now _
  · simp only [Bool.false_eq_true, if_false]
    exact Ev.now _
theorem FnChainsTogether : laws_FnChainsTogether.Pure := by
  intro code more _ _ hcode _ _ _
  have hc : ∀ x ∈ code, 0 ≤ x ∧ x ≤ 255 := fun x hx => u8_of (hcode x hx)
  refine Ev.rounds (r := true) ?_
  have e0 : ∀ q : Bool, (q != q) = false := fun q => by cases q <;> rfl
  unfold laws_FnChainsTogether.f laws_big.f
  by_cases g1 : (code.length : Int) > 1048576
  · simp only [if_pos g1, Option.bind_some, if_true]; exact Ev.now _
  · simp only [if_neg g1, Option.bind_some]
    by_cases g2 : (more.length : Int) > wrap64 (1048576 - (code.length : Int))
    · simp only [decide_eq_true g2, if_true]; exact Ev.now _
    · simp only [decide_eq_false g2, Bool.false_eq_true, if_false]
      have hm : more.length ≤ 2000000 := by rw [w64 (by omega) (by omega)] at g2; omega
      obtain ⟨xs, ys, x1, y1, hd⟩ := drawU_ev hc
      have sh := unionAns_short xs ys
      have mh := meetAns_short xs ys
      refine ev_bind hd ?_
      refine ev_bind (unionImpl_ev xs ys (by omega) (by omega)) ?_
      refine ev_bind (unionSpec_ev xs ys (by omega) (by omega)) ?_
      simp only [e0, Bool.false_eq_true, if_false]
      refine ev_bind (sameInts_ev _ (by omega)) ?_
      refine ev_shift ?_
      simp only [laws_FnChainsTogether.j0, Bool.not_true, Bool.false_eq_true, if_false]
      refine ev_bind (meetImpl_ev xs ys (by omega) (by omega)) ?_
      refine ev_bind (meetSpec_ev xs ys (by omega) (by omega)) ?_
      simp only [e0, Bool.false_eq_true, if_false]
      refine ev_bind (sameInts_ev _ (by omega)) ?_
      refine ev_shift ?_
      simp only [laws_FnChainsTogether.j1, Bool.not_true, Bool.false_eq_true, if_false]
      by_cases cc : chain xs = true ∧ chain ys = true
      · by_cases cu : chain (union xs ys) = true
        · have ea : unionAns xs ys = (union xs ys, true) := by unfold unionAns ifChain; rw [if_pos cc, if_pos cu]
          obtain ⟨q1, q2⟩ := puts_fact ys xs (chain_strict xs cc.1)
          have hu41 := (chain_from _ cu).2.1
          have hub : ∀ x, x ∈ union xs ys ↔ x ∈ xs ∨ x ∈ ys := q2
          have hlen := both_len (chain_strict xs cc.1) (chain_strict ys cc.2) q1 q2
          have hlen' : (meet xs ys).length + (union xs ys).length = xs.length + ys.length := hlen
          have em : meetAns xs ys = ifChain (meet xs ys) := by unfold meetAns; rw [if_pos cc]
          have hx41 := (chain_from xs cc.1).2.1
          have hy41 := (chain_from ys cc.2).2.1
          have hmm : (meet xs ys).length ≤ xs.length := by unfold meet; exact List.length_filter_le ..
          have hms : (meetAns xs ys).2 = true → (meetAns xs ys).1 = meet xs ys := by
            rw [em]; unfold ifChain
            split
            · intro _; rfl
            · intro h; cases h
          generalize meetAns xs ys = ma at mh hms
          obtain ⟨m, mb⟩ := ma
          simp only at hms mh
          rw [ea]
          simp only [if_true]
          clear ea q1 q2 em sh hlen
          generalize union xs ys = u at *
          have loop : ∀ (d i : Nat), i + d = u.length → Ev (fun k => laws_FnChainsTogether.l0 k more xs ys u m mb u u.length i) true := by
            intro d
            induction d with
            | zero =>
              intro i hd
              refine ev_shift ?_
              simp only [laws_FnChainsTogether.l0, if_neg (show ¬ (i : Int) < (u.length : Int) by omega)]
              refine ev_bind (isChain_ev u (by omega)) ?_
              simp only [cu, if_true]
              cases mb with
              | false => simp only [Bool.false_eq_true, if_false]; exact j3_ok more u cu hm
              | true =>
                obtain rfl := hms rfl
                have el : wrap64 (((meet xs ys).length : Int) + (u.length : Int)) = wrap64 ((xs.length : Int) + (ys.length : Int)) := by
                  have : ((meet xs ys).length : Int) + (u.length : Int) = (xs.length : Int) + (ys.length : Int) := by omega
                  rw [this]
                simp only [if_true, el, bne_self_eq_false]
                exact j3_ok more u cu hm
            | succ d ih =>
              intro i hd
              have hnx := ih (i + 1) (by omega)
              have hv : rd u (i : Int) ∈ u := by rw [rd_ne u i (by omega)]; exact List.getElem_mem _
              have hv2 := (hub _).1 hv
              generalize hvn : rd u (i : Int) = v at hv hv2
              refine ev_shift ?_
              simp only [laws_FnChainsTogether.l0, if_pos (show (i : Int) < (u.length : Int) by omega), if_pos (show (0 : Int) ≤ (i : Int) by omega), hvn, w64 (show -9223372036854775808 ≤ (i : Int) + 1 by omega) (by omega)]
              refine ev_bind (pHas_ev xs v (by omega)) ?_
              by_cases c1 : v ∈ xs
              · simp only [decide_eq_true c1, if_true]
                cases mb with
                | false => simp only [Bool.false_eq_true, if_false]; exact hnx
                | true =>
                  obtain rfl := hms rfl
                  simp only [if_true]
                  refine ev_bind (pHas_ev (meet xs ys) v (by omega)) ?_
                  refine ev_bind (pHas_ev xs v (by omega)) ?_
                  simp only [decide_eq_true c1, if_true]
                  refine ev_bind (pHas_ev ys v (by omega)) ?_
                  have ed : decide (v ∈ meet xs ys) = decide (v ∈ ys) := by unfold meet; rw [decide_eq_decide, List.mem_filter, decide_eq_true_eq]; exact ⟨fun h => h.2, fun h => ⟨c1, h⟩⟩
                  simp only [ed, e0, Bool.false_eq_true, if_false]
                  exact hnx
              · have c2 : v ∈ ys := hv2.resolve_left c1
                simp only [decide_eq_false c1, Bool.false_eq_true, if_false]
                refine ev_bind (pHas_ev ys v (by omega)) ?_
                simp only [decide_eq_true c2, if_true]
                cases mb with
                | false => simp only [Bool.false_eq_true, if_false]; exact hnx
                | true =>
                  obtain rfl := hms rfl
                  simp only [if_true]
                  refine ev_bind (pHas_ev (meet xs ys) v (by omega)) ?_
                  refine ev_bind (pHas_ev xs v (by omega)) ?_
                  have ed : decide (v ∈ meet xs ys) = false := decide_eq_false (fun h => c1 (by unfold meet at h; exact (List.mem_filter.1 h).1))
                  simp only [decide_eq_false c1, Bool.false_eq_true, if_false, ed, e0]
                  exact hnx
          exact loop u.length 0 (by omega)
        · have ea : unionAns xs ys = ([], false) := by unfold unionAns ifChain; rw [if_pos cc, if_neg cu]
          rw [ea]
          simp only [Bool.false_eq_true, if_false]
          exact Ev.now _
      · have ea : unionAns xs ys = ([], false) := by unfold unionAns; rw [if_neg cc]
        rw [ea]
        simp only [Bool.false_eq_true, if_false]
        exact Ev.now _
end Go.Proofs.Ytlefjgpkabijdaa.Pure
