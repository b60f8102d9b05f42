/- The plan of a chain has its end as exponent and a step for each further number, and the chain is read back from it, and from its text. -/
import Derived.Test.YtlefjgpkabijdaaGreatDoorMFnChainsArePlansx10
import Derived.Test.YtlefjgpkabijdaaGreatDoorCN
namespace Go.Proofs.YtlefjgpkabijdaaGreatDoor.Pure
open Go.RowKit Go.Proofs.YtlefjgpkabijdaaGreatDoor.MFnChainsArePlans Go.Proofs.YtlefjgpkabijdaaGreatDoorW.PrintWords Go.Proofs.YtlefjgpkabijdaaGreatDoorW.PrintLast Go.Proofs.YtlefjgpkabijdaaGreatDoorW.PrintMore
open Go.Proofs.YtlefjgpkabijdaaGreatDoorH
set_option linter.unusedVariables false
set_option linter.unusedSimpArgs false
theorem w64 {x : Int} (h1 : -9223372036854775808 ≤ x) (h2 : x ≤ 9223372036854775807) : wrap64 x = x := by unfold wrap64; omega

theorem rd_nat (xs : List Int) (j : Nat) : rd xs (j : Int) = xs.getD j 0 := by unfold rd; rw [Int.toNat_natCast]

theorem ev_shift {α : Type} {g : Nat → Option α} {r : α} (h : Ev (fun k => g (k + 1)) r) : Ev g r := by
  obtain ⟨K, hK⟩ := h
  refine ⟨K + 1, fun k hk => ?_⟩
  obtain ⟨m, rfl⟩ : ∃ m, k = m + 1 := ⟨k - 1, by omega⟩
  exact hK m (by omega)

theorem ev_bind {α β : Type} {g : Nat → Option α} {F : Nat → α → Option β} {a : α} {r : β} (h : Ev g a) (k : Ev (fun n => F n a) r) : Ev (fun n => (g n).bind (fun x => F n x)) r := Ev.bind h k

theorem ev_some {α : Type} {g : Nat → Option α} {r : α} (h : ∀ k, g k = some r) : Ev g r := ⟨0, fun k _ => h k⟩

abbrev St := S41
def inner (xs : List Int) (k j : Int) : Nat → Int → List St
  | 0, _ => []
  | d + 1, i => if wrap64 (rd xs i + rd xs j) = rd xs k then ⟨i, j⟩ :: inner xs k j d (i + 1) else inner xs k j d (i + 1)
def outer (xs : List Int) (k : Int) : Nat → Int → List St
  | 0, _ => []
  | d + 1, j => inner xs k j (j + 1).toNat 0 ++ outer xs k d (j + 1)
def sumsOf (xs : List Int) (k : Int) : List St := outer xs k k.toNat 0

theorem inner_length (xs : List Int) (k j : Int) : ∀ (d : Nat) (i : Int), (inner xs k j d i).length ≤ d
  | 0, _ => Nat.le_refl _
  | d + 1, i => by
    have := inner_length xs k j d (i + 1)
    unfold inner
    split
    · simp only [List.length_cons]; omega
    · omega

theorem spec_inner (xs : List Int) (k j : Int) (r : List St) (hj : 0 ≤ j) (hjk : j < k) (hk : k < xs.length) (hl : xs.length ≤ 100000) : ∀ (d : Nat) (i : Int) (acc : List St), 0 ≤ i → i + d = j + 1 → acc.length + d ≤ 8000000000000 →
    Ev (fun f => spec_chPairs.l0 f xs k (acc ++ inner xs k j d i) (j + 1)) r → Ev (fun f => spec_chPairs.l1 f xs k acc j i) r := by
  intro d
  induction d with
  | zero =>
    intro i acc hi hd _ h
    refine ev_shift ?_
    simp only [spec_chPairs.l1, if_neg (show ¬ i ≤ j by omega), w64 (show -9223372036854775808 ≤ j + 1 by omega) (by omega)]
    simpa [inner] using h
  | succ d ih =>
    intro i acc hi hd hacc h
    refine ev_shift ?_
    simp only [spec_chPairs.l1, if_pos (show i ≤ j by omega), if_pos hi, if_pos (show i < (xs.length : Int) by omega), if_pos hj, if_pos (show j < (xs.length : Int) by omega), if_pos (show 0 ≤ k by omega), if_pos hk,
      w64 (show -9223372036854775808 ≤ i + 1 by omega) (by omega)]
    by_cases c : wrap64 (rd xs i + rd xs j) = rd xs k
    · simp only [if_pos c, if_pos (show acc.length < 8796093022208 by omega)]
      refine ih (i + 1) (acc ++ [⟨i, j⟩]) (by omega) (by omega) (by simp only [List.length_append, List.length_singleton]; omega) ?_
      simpa [inner, c] using h
    · simp only [if_neg c]
      refine ih (i + 1) acc (by omega) (by omega) (by omega) ?_
      simpa [inner, c] using h

theorem spec_outer (xs : List Int) (k : Int) (hk : k < xs.length) (hl : xs.length ≤ 100000) : ∀ (d : Nat) (j : Int) (acc : List St), 0 ≤ j → j + d = k → acc.length + d * 100001 ≤ 8000000000000 →
    Ev (fun f => spec_chPairs.l0 f xs k acc j) (acc ++ outer xs k d j) := by
  intro d
  induction d with
  | zero =>
    intro j acc hj hd _
    refine ev_shift ?_
    simp only [spec_chPairs.l0, if_neg (show ¬ j < k by omega), outer, List.append_nil]
    exact Ev.now _
  | succ d ih =>
    intro j acc hj hd hacc
    refine ev_shift ?_
    simp only [spec_chPairs.l0, if_pos (show j < k by omega)]
    have hi := inner_length xs k j (j + 1).toNat 0
    refine spec_inner xs k j _ hj (by omega) hk hl (j + 1).toNat 0 acc (by omega) (by omega) (by omega) ?_
    have h := ih (j + 1) (acc ++ inner xs k j (j + 1).toNat 0) (by omega) (by omega) (by rw [List.length_append]; omega)
    simpa [outer] using h

theorem chPairs_ev (xs : List Int) (k : Int) (h0 : 0 ≤ k) (hk : k < xs.length) (hl : xs.length ≤ 100000) : Ev (fun f => spec_chPairs.f f xs k) (sumsOf xs k) := by
  have h := spec_outer xs k hk hl k.toNat 0 [] (by omega) (by omega) (by simp only [List.length_nil]; omega)
  simpa [sumsOf, spec_chPairs.f] using h

theorem impl_inner (xs : List Int) (k j : Int) (r : List St) (hj : 0 ≤ j) (hjk : j < k) (hk : k < xs.length) (hl : xs.length ≤ 100000) : ∀ (d : Nat) (i : Int) (acc : List St), 0 ≤ i → i + d = j + 1 → acc.length + d ≤ 8000000000000 →
    Ev (fun f => impl_sums.l0 f xs k (acc ++ inner xs k j d i) k (j + 1)) r → Ev (fun f => impl_sums.l1 f xs k acc j k j (j + 1) i) r := by
  intro d
  induction d with
  | zero =>
    intro i acc hi hd _ h
    refine ev_shift ?_
    simp only [impl_sums.l1, if_neg (show ¬ i < j + 1 by omega), w64 (show -9223372036854775808 ≤ j + 1 by omega) (by omega)]
    simpa [inner] using h
  | succ d ih =>
    intro i acc hi hd hacc h
    refine ev_shift ?_
    simp only [impl_sums.l1, if_pos (show i < j + 1 by omega), if_pos hi, if_pos (show i < (xs.length : Int) by omega), if_pos hj, if_pos (show j < (xs.length : Int) by omega), if_pos (show 0 ≤ k by omega), if_pos hk,
      w64 (show -9223372036854775808 ≤ i + 1 by omega) (by omega)]
    by_cases c : wrap64 (rd xs i + rd xs j) = rd xs k
    · simp only [if_pos c, if_pos (show acc.length < 8796093022208 by omega)]
      refine ih (i + 1) (acc ++ [⟨i, j⟩]) (by omega) (by omega) (by simp only [List.length_append, List.length_singleton]; omega) ?_
      simpa [inner, c] using h
    · simp only [if_neg c]
      refine ih (i + 1) acc (by omega) (by omega) (by omega) ?_
      simpa [inner, c] using h
theorem impl_outer (xs : List Int) (k : Int) (hk : k < xs.length) (hl : xs.length ≤ 100000) : ∀ (d : Nat) (j : Int) (acc : List St), 0 ≤ j → j + d = k → acc.length + d * 100001 ≤ 8000000000000 →
    Ev (fun f => impl_sums.l0 f xs k acc k j) (acc ++ outer xs k d j) := by
  intro d
  induction d with
  | zero =>
    intro j acc hj hd _
    refine ev_shift ?_
    simp only [impl_sums.l0, if_neg (show ¬ j < k by omega), outer, List.append_nil]
    exact Ev.now _
  | succ d ih =>
    intro j acc hj hd hacc
    refine ev_shift ?_
    simp only [impl_sums.l0, if_pos (show j < k by omega), w64 (show -9223372036854775808 ≤ j + 1 by omega) (by omega)]
    have hi := inner_length xs k j (j + 1).toNat 0
    refine impl_inner xs k j _ hj (by omega) hk hl (j + 1).toNat 0 acc (by omega) (by omega) (by omega) ?_
    have h := ih (j + 1) (acc ++ inner xs k j (j + 1).toNat 0) (by omega) (by omega) (by rw [List.length_append]; omega)
    simpa [outer] using h
theorem sums_ev (xs : List Int) (k : Int) (h0 : 0 ≤ k) (hk : k < xs.length) (hl : xs.length ≤ 100000) : Ev (fun f => impl_sums.f f xs k) (sumsOf xs k) := by
  have h := impl_outer xs k hk hl k.toNat 0 [] (by omega) (by omega) (by simp only [List.length_nil]; omega)
  simpa [sumsOf, impl_sums.f] using h

/-! the chain's test, in both ways -/
def risingFrom (xs : List Int) : Nat → Int → Bool
  | 0, _ => true
  | d + 1, i => if rd xs i ≥ 1 then (if rd xs i ≤ 1000000 then (if i > 0 then (if rd xs (i - 1) ≥ rd xs i then false else risingFrom xs d (i + 1)) else risingFrom xs d (i + 1)) else false) else false
def pairsFrom (xs : List Int) : Nat → Int → Bool
  | 0, _ => true
  | d + 1, k => if (sumsOf xs k).length = 0 then false else pairsFrom xs d (k + 1)
def implFrom (xs : List Int) : Nat → Int → Bool
  | 0, _ => true
  | d + 1, k => if rd xs k ≤ rd xs (k - 1) then false else if rd xs k > 1000000 then false else if (sumsOf xs k).length = 0 then false else implFrom xs d (k + 1)
/-- Is it a chain? -/
def chain (xs : List Int) : Bool := if 1 ≤ xs.length ∧ xs.length ≤ 41 then (if rd xs 0 = 1 then implFrom xs (xs.length - 1) 1 else false) else false

theorem from_same (xs : List Int) : ∀ (d : Nat) (i : Int), 1 ≤ i → 1 ≤ rd xs (i - 1) → (risingFrom xs d i && pairsFrom xs d i) = implFrom xs d i
  | 0, _, _, _ => rfl
  | d + 1, i, h1, h2 => by
    unfold risingFrom pairsFrom implFrom
    rw [if_pos (show i > 0 by omega)]
    by_cases c1 : rd xs i ≤ rd xs (i - 1)
    · rw [if_pos c1, if_pos (show rd xs (i - 1) ≥ rd xs i from c1)]
      split
      · split <;> rfl
      · rfl
    · rw [if_neg c1, if_neg (show ¬ rd xs (i - 1) ≥ rd xs i from c1), if_pos (show rd xs i ≥ 1 by omega)]
      by_cases c2 : rd xs i > 1000000
      · rw [if_pos c2, if_neg (by omega)]; rfl
      · rw [if_neg c2, if_pos (by omega)]
        by_cases c3 : (sumsOf xs i).length = 0
        · rw [if_pos c3, if_pos c3, Bool.and_false]
        · rw [if_neg c3, if_neg c3]
          have e : i + 1 - 1 = i := by omega
          exact from_same xs d (i + 1) (by omega) (by rw [e]; omega)

theorem l1In_eq (a b c : Int) : spec_l1In.f a b c = some (decide (b ≤ a) && decide (a ≤ c)) := by
  unfold spec_l1In.f
  by_cases h : a ≥ b
  · rw [if_pos h]; simp [show b ≤ a from h]
  · rw [if_neg h]; simp [show ¬ b ≤ a from h]
theorem in_eq (a b c : Int) : impl_in.f a b c = some (decide (b ≤ a) && decide (a ≤ c)) := by
  unfold impl_in.f
  by_cases h : a ≥ b
  · rw [if_pos h]; simp [show b ≤ a from h]
  · rw [if_neg h]; simp [show ¬ b ≤ a from h]
theorem rising_ev (xs : List Int) (hl : xs.length ≤ 100000) : ∀ (d : Nat) (i : Int), 0 ≤ i → i + d = xs.length → Ev (fun f => spec_l1Rising.l0 f xs 1 1000000 xs xs.length i) (risingFrom xs d i) := by
  intro d
  induction d with
  | zero =>
    intro i h0 hd
    refine ev_shift ?_
    simp only [spec_l1Rising.l0, if_neg (show ¬ i < (xs.length : Int) by omega), risingFrom]
    exact Ev.now _
  | succ d ih =>
    intro i h0 hd
    have hn := ih (i + 1) (by omega) (by omega)
    refine ev_shift ?_
    simp only [spec_l1Rising.l0, if_pos (show i < (xs.length : Int) by omega), if_pos h0, w64 (show -9223372036854775808 ≤ i + 1 by omega) (by omega), w64 (show -9223372036854775808 ≤ i - 1 by omega) (by omega), l1In_eq, Option.bind_some]
    unfold risingFrom
    by_cases c1 : rd xs i ≥ 1
    · by_cases c2 : rd xs i ≤ 1000000
      · rw [if_pos c1, if_pos c2]
        simp only [decide_eq_true (show 1 ≤ rd xs i from c1), decide_eq_true c2, Bool.and_self, if_true]
        by_cases c3 : i > 0
        · simp only [if_pos c3, if_pos (show 0 ≤ i - 1 by omega), if_pos (show i - 1 < (xs.length : Int) by omega)]
          by_cases c4 : rd xs (i - 1) ≥ rd xs i
          · simp only [if_pos c4]; exact Ev.now _
          · simp only [if_neg c4]; exact hn
        · simp only [if_neg c3]; exact hn
      · rw [if_pos c1, if_neg c2]
        simp only [decide_eq_false c2, Bool.and_false, Bool.false_eq_true, if_false]
        exact Ev.now _
    · rw [if_neg c1]
      simp only [decide_eq_false (show ¬ 1 ≤ rd xs i from c1), Bool.false_and, Bool.false_eq_true, if_false]
      exact Ev.now _

theorem pairs_ev (xs : List Int) (hl : xs.length ≤ 100000) : ∀ (d : Nat) (k : Int), 0 ≤ k → k + d = xs.length → Ev (fun f => spec_chGood.l0 f xs k) (pairsFrom xs d k) := by
  intro d
  induction d with
  | zero =>
    intro i h0 hd
    refine ev_shift ?_
    simp only [spec_chGood.l0, if_neg (show ¬ i < (xs.length : Int) by omega), pairsFrom]
    exact Ev.now _
  | succ d ih =>
    intro i h0 hd
    have hn := ih (i + 1) (by omega) (by omega)
    refine ev_shift ?_
    simp only [spec_chGood.l0, if_pos (show i < (xs.length : Int) by omega), w64 (show -9223372036854775808 ≤ i + 1 by omega) (by omega)]
    refine ev_bind (chPairs_ev xs i h0 (by omega) hl) ?_
    unfold pairsFrom
    by_cases c : (sumsOf xs i).length = 0
    · simp only [if_pos c, if_pos (show ((sumsOf xs i).length : Int) = 0 by omega)]; exact Ev.now _
    · simp only [if_neg c, if_neg (show ¬ ((sumsOf xs i).length : Int) = 0 by omega)]; exact hn

theorem implFrom_ev (xs : List Int) (hl : xs.length ≤ 100000) : ∀ (d : Nat) (k : Int), 1 ≤ k → k + d = xs.length → Ev (fun f => impl_IsChain.l0 f xs k) (implFrom xs d k) := by
  intro d
  induction d with
  | zero =>
    intro i h0 hd
    refine ev_shift ?_
    simp only [impl_IsChain.l0, if_neg (show ¬ i < (xs.length : Int) by omega), implFrom]
    exact Ev.now _
  | succ d ih =>
    intro i h0 hd
    have hn := ih (i + 1) (by omega) (by omega)
    refine ev_shift ?_
    simp only [impl_IsChain.l0, if_pos (show i < (xs.length : Int) by omega), if_pos (show 0 ≤ i by omega), w64 (show -9223372036854775808 ≤ i + 1 by omega) (by omega), w64 (show -9223372036854775808 ≤ i - 1 by omega) (by omega), if_pos (show 0 ≤ i - 1 by omega), if_pos (show i - 1 < (xs.length : Int) by omega)]
    unfold implFrom
    by_cases c1 : rd xs i ≤ rd xs (i - 1)
    · simp only [if_pos c1]; exact Ev.now _
    · simp only [if_neg c1]
      by_cases c2 : rd xs i > 1000000
      · simp only [if_pos c2]; exact Ev.now _
      · simp only [if_neg c2]
        refine ev_bind (sums_ev xs i (by omega) (by omega) hl) ?_
        by_cases c : (sumsOf xs i).length = 0
        · simp only [if_pos c, if_pos (show ((sumsOf xs i).length : Int) = 0 by omega)]; exact Ev.now _
        · simp only [if_neg c, if_neg (show ¬ ((sumsOf xs i).length : Int) = 0 by omega)]; exact hn
theorem isChain_ev (xs : List Int) (hl : xs.length ≤ 1048576) : Ev (fun f => impl_IsChain.f f xs) (chain xs) := by
  unfold impl_IsChain.f chain
  simp only [in_eq, Option.bind_some]
  by_cases c : 1 ≤ xs.length ∧ xs.length ≤ 41
  · simp only [if_pos c, decide_eq_true (show (1 : Int) ≤ xs.length by omega), decide_eq_true (show (xs.length : Int) ≤ 41 by omega), Bool.and_self, if_true, if_pos (show (0 : Int) < xs.length by omega)]
    by_cases c1 : rd xs 0 = 1
    · simp only [if_pos c1]
      refine ev_shift ?_
      simp only [impl_IsChain.j0, c1, bne_self_eq_false, Bool.false_eq_true, if_false]
      exact implFrom_ev xs (by omega) (xs.length - 1) 1 (by omega) (by omega)
    · simp only [if_neg c1]
      refine ev_shift ?_
      simp only [impl_IsChain.j0, bne_iff_ne.mpr c1, if_true]
      exact Ev.now _
  · rw [if_neg c]
    have e : (decide ((1 : Int) ≤ xs.length) && decide ((xs.length : Int) ≤ 41)) = false := by
      rw [Bool.and_eq_false_iff, decide_eq_false_iff_not, decide_eq_false_iff_not]; omega
    simp only [e, Bool.false_eq_true, if_false]
    refine ev_shift ?_
    simp only [impl_IsChain.j0, if_true]
    exact Ev.now _
theorem chGood_ev (xs : List Int) (hl : xs.length ≤ 1048576) : Ev (fun f => spec_chGood.f f xs) (chain xs) := by
  unfold spec_chGood.f chain
  simp only [l1In_eq, Option.bind_some]
  by_cases c : 1 ≤ xs.length ∧ xs.length ≤ 41
  · simp only [if_pos c, decide_eq_true (show (1 : Int) ≤ xs.length by omega), decide_eq_true (show (xs.length : Int) ≤ 41 by omega), Bool.and_self, if_true, if_pos (show (0 : Int) < xs.length by omega)]
    by_cases c1 : rd xs 0 = 1
    · simp only [if_pos c1]
      unfold spec_l1Rising.f
      refine ev_bind (rising_ev xs (by omega) xs.length 0 (by omega) (by omega)) ?_
      obtain ⟨n, hn⟩ : ∃ n, xs.length = n + 1 := ⟨xs.length - 1, by omega⟩
      have e1 : risingFrom xs xs.length 0 = risingFrom xs n 1 := by
        rw [hn, risingFrom, c1, if_pos (by decide), if_pos (by decide), if_neg (by decide)]
        rfl
      have e2 : xs.length - 1 = n := by omega
      rw [e1, e2, ← from_same xs n 1 (by omega) (by rw [show (1 : Int) - 1 = 0 from rfl, c1]; omega)]
      refine ev_shift ?_
      simp only [spec_chGood.j0]
      cases hr : risingFrom xs n 1 with
      | false =>
        simp only [Bool.not_false, if_true, Bool.false_and]
        exact Ev.now _
      | true =>
        simp only [Bool.not_true, Bool.false_eq_true, if_false, Bool.true_and]
        exact pairs_ev xs (by omega) n 1 (by omega) (by omega)
    · simp only [if_neg c1]
      refine ev_shift ?_
      simp only [spec_chGood.j0, if_true]
      exact Ev.now _
  · rw [if_neg c]
    have e : (decide ((1 : Int) ≤ xs.length) && decide ((xs.length : Int) ≤ 41)) = false := by
      rw [Bool.and_eq_false_iff, decide_eq_false_iff_not, decide_eq_false_iff_not]; omega
    simp only [e, Bool.false_eq_true, if_false]
    refine ev_shift ?_
    simp only [spec_chGood.j0, if_true]
    exact Ev.now _

theorem implFrom_head (xs : List Int) (d : Nat) (k : Int) (h : implFrom xs (d + 1) k = true) : (sumsOf xs k).length ≠ 0 ∧ implFrom xs d (k + 1) = true ∧ rd xs (k - 1) < rd xs k ∧ rd xs k ≤ 1000000 := by
  unfold implFrom at h
  split at h
  · cases h
  · split at h
    · cases h
    · split at h
      · cases h
      · rename_i a b c
        exact ⟨c, h, by omega, by omega⟩
theorem chain_from (xs : List Int) (h : chain xs = true) : 1 ≤ xs.length ∧ xs.length ≤ 41 ∧ rd xs 0 = 1 ∧ implFrom xs (xs.length - 1) 1 = true := by
  unfold chain at h
  split at h
  · rename_i c
    split at h
    · rename_i c1
      exact ⟨c.1, c.2, c1, h⟩
    · cases h
  · cases h

theorem clone_eq (xs : List Int) (h : xs.length < 17592186044416) : slices_Clone_int_int.f xs = some xs := by
  unfold slices_Clone_int_int.f
  rw [if_pos h]

abbrev rdS (ss : List St) (i : Int) : St := rd_T41 ss i
theorem outer_length (xs : List Int) (k : Int) : ∀ (d : Nat) (j : Int), 0 ≤ j → j + d ≤ 100000 → (outer xs k d j).length ≤ d * 100001
  | 0, _, _, _ => Nat.le_refl _
  | d + 1, j, h0, h1 => by
    have h2 := outer_length xs k d (j + 1) (by omega) (by omega)
    have h3 := inner_length xs k j (j + 1).toNat 0
    unfold outer
    rw [List.length_append]
    omega
theorem sums_length (xs : List Int) (k : Int) (h0 : 0 ≤ k) (h1 : k ≤ 100000) : (sumsOf xs k).length ≤ 10000100000 := by
  have := outer_length xs k k.toNat 0 (by omega) (by omega)
  unfold sumsOf
  omega
def lastOf (ss : List St) : St := rdS ss (ss.length - 1)
def stepsFrom (xs : List Int) : Nat → Int → List St
  | 0, _ => []
  | d + 1, k => lastOf (sumsOf xs k) :: stepsFrom xs d (k + 1)
theorem stepsFrom_length (xs : List Int) : ∀ (d : Nat) (k : Int), (stepsFrom xs d k).length = d
  | 0, _ => rfl
  | d + 1, k => by rw [stepsFrom, List.length_cons, stepsFrom_length xs d (k + 1)]
/-- ChainSteps of a chain. -/
def stepsOf (xs : List Int) : List St := stepsFrom xs (xs.length - 1) 1

theorem chSteps_loop (xs : List Int) (hl : xs.length ≤ 100000) : ∀ (d : Nat) (k : Int) (acc : List St), 1 ≤ k → k + d = xs.length → acc.length + d ≤ 8000000000000 → implFrom xs d k = true → Ev (fun f => spec_chSteps.l0 f xs acc k) (acc ++ stepsFrom xs d k) := by
  intro d
  induction d with
  | zero =>
    intro k acc h0 hd _ _
    refine ev_shift ?_
    simp only [spec_chSteps.l0, if_neg (show ¬ k < (xs.length : Int) by omega), stepsFrom, List.append_nil]
    exact Ev.now _
  | succ d ih =>
    intro k acc h0 hd ha hi
    obtain ⟨h1, h2, _, _⟩ := implFrom_head xs d k hi
    have h3 := sums_length xs k (by omega) (by omega)
    refine ev_shift ?_
    simp only [spec_chSteps.l0, if_pos (show k < (xs.length : Int) by omega), w64 (show -9223372036854775808 ≤ k + 1 by omega) (by omega)]
    refine ev_bind (chPairs_ev xs k (by omega) (by omega) hl) ?_
    simp only [w64 (show -9223372036854775808 ≤ ((sumsOf xs k).length : Int) - 1 by omega) (by omega), if_pos (show 0 ≤ ((sumsOf xs k).length : Int) - 1 by omega), if_pos (show ((sumsOf xs k).length : Int) - 1 < (sumsOf xs k).length by omega), if_pos (show acc.length < 8796093022208 by omega)]
    have h := ih (k + 1) (acc ++ [lastOf (sumsOf xs k)]) (by omega) (by omega) (by simp only [List.length_append, List.length_singleton]; omega) h2
    simp only [List.append_assoc, List.singleton_append] at h
    exact h

theorem chainSteps_loop (xs : List Int) (hl : xs.length ≤ 100000) : ∀ (d : Nat) (k : Int) (acc : List St), 1 ≤ k → k + d = xs.length → acc.length + d ≤ 8000000000000 → implFrom xs d k = true → Ev (fun f => impl_chainSteps.l0 f xs acc k) (acc ++ stepsFrom xs d k) := by
  intro d
  induction d with
  | zero =>
    intro k acc h0 hd _ _
    refine ev_shift ?_
    simp only [impl_chainSteps.l0, if_neg (show ¬ k < (xs.length : Int) by omega), stepsFrom, List.append_nil]
    exact Ev.now _
  | succ d ih =>
    intro k acc h0 hd ha hi
    obtain ⟨h1, h2, _, _⟩ := implFrom_head xs d k hi
    have h3 := sums_length xs k (by omega) (by omega)
    refine ev_shift ?_
    simp only [impl_chainSteps.l0, if_pos (show k < (xs.length : Int) by omega), w64 (show -9223372036854775808 ≤ k + 1 by omega) (by omega)]
    refine ev_bind (sums_ev xs k (by omega) (by omega) hl) ?_
    simp only [w64 (show -9223372036854775808 ≤ ((sumsOf xs k).length : Int) - 1 by omega) (by omega), if_pos (show 0 ≤ ((sumsOf xs k).length : Int) - 1 by omega), if_pos (show ((sumsOf xs k).length : Int) - 1 < (sumsOf xs k).length by omega), if_pos (show acc.length < 8796093022208 by omega)]
    have h := ih (k + 1) (acc ++ [lastOf (sumsOf xs k)]) (by omega) (by omega) (by simp only [List.length_append, List.length_singleton]; omega) h2
    simp only [List.append_assoc, List.singleton_append] at h
    exact h

theorem chSteps_ev (xs : List Int) (h : chain xs = true) : Ev (fun f => spec_chSteps.f f xs) (stepsOf xs) := by
  obtain ⟨h1, h2, _, h4⟩ := chain_from xs h
  have := chSteps_loop xs (by omega) (xs.length - 1) 1 [] (by omega) (by omega) (by simp only [List.length_nil]; omega) h4
  simpa [stepsOf, spec_chSteps.f] using this
theorem chainSteps_ev (xs : List Int) (h : chain xs = true) : Ev (fun f => impl_chainSteps.f f xs) (stepsOf xs) := by
  obtain ⟨h1, h2, _, h4⟩ := chain_from xs h
  have := chainSteps_loop xs (by omega) (xs.length - 1) 1 [] (by omega) (by omega) (by simp only [List.length_nil]; omega) h4
  simpa [stepsOf, impl_chainSteps.f] using this
theorem stepsOf_length (xs : List Int) (h : chain xs = true) : (stepsOf xs).length ≤ 40 := by
  obtain ⟨h1, h2, _, _⟩ := chain_from xs h
  unfold stepsOf
  rw [stepsFrom_length]
  omega

theorem rdS_nat (ss : List St) (j : Nat) : rdS ss (j : Int) = ss.getD j z41 := by unfold rdS rd_T41; rw [Int.toNat_natCast]
def allFrom (xs : List Int) (a b : Int) : Nat → Int → Bool
  | 0, _ => true
  | d + 1, i => if a ≤ rd xs i ∧ rd xs i ≤ b then allFrom xs a b d (i + 1) else false
/-! exponents -/
/-- Is each step from i on in order. -/
def InOrder (n : Nat) (ss : List (S41)) : Prop := ∀ i : Nat, i < ss.length → 0 ≤ (rd_T41 ss i).f0 ∧ (rd_T41 ss i).f0 ≤ (rd_T41 ss i).f1 ∧ (rd_T41 ss i).f1 < n + i
def cap2 (x : Int) : Int := if x < 1000001 then x else 1000001
def sumFrom (a b : List Int) : Nat → Int → List Int
  | 0, _ => []
  | d + 1, k => cap2 (wrap64 (rd a k + rd b k)) :: sumFrom a b d (k + 1)
theorem sumFrom_length (a b : List Int) : ∀ d k, (sumFrom a b d k).length = d
  | 0, _ => rfl
  | d + 1, k => by rw [sumFrom, List.length_cons, sumFrom_length a b d (k + 1)]
def addRow (a b : List Int) : List Int := sumFrom a b a.length 0
def row0 (n i : Nat) : List Int := (List.replicate n 0).set i 1
def base0 (n m : Nat) : List (List Int) := (List.range m).map (row0 n)
theorem base0_succ (n m : Nat) : base0 n (m + 1) = base0 n m ++ [row0 n m] := by unfold base0; rw [List.range_succ, List.map_append]; rfl
theorem base0_length (n m : Nat) : (base0 n m).length = m := by unfold base0; simp
def grow (ss : List (S41)) : Nat → Int → List (List Int) → List (List Int)
  | 0, _, rows => rows
  | d + 1, i, rows => grow ss d (i + 1) (rows ++ [addRow (rd_L3 rows (rd_T41 ss i).f0) (rd_L3 rows (rd_T41 ss i).f1)])
/-- The exponents of all values. -/
def exps (n : Nat) (ss : List (S41)) : List (List Int) := grow ss ss.length 0 (base0 n n)
def RowOk (n : Nat) (r : List Int) : Prop := r.length = n ∧ ∀ e ∈ r, 0 ≤ e ∧ e ≤ 1000001
def RowsOk (n m : Nat) (rows : List (List Int)) : Prop := rows.length = m ∧ ∀ r ∈ rows, RowOk n r
theorem rd_mem (rows : List (List Int)) (a : Int) (h0 : 0 ≤ a) (h1 : a < rows.length) : rd_L3 rows a ∈ rows := by
  unfold rd_L3
  have h : a.toNat < rows.length := by omega
  rw [show rows.getD a.toNat [] = rows[a.toNat] by simp [List.getD, h]]
  exact List.getElem_mem h
theorem rd_in (r : List Int) (n : Nat) (hr : RowOk n r) (i : Int) : 0 ≤ rd r i ∧ rd r i ≤ 1000001 := by
  unfold rd
  rw [List.getD_eq_getElem?_getD]
  cases h : r[i.toNat]? with
  | none => simp
  | some e => exact hr.2 e (List.mem_of_getElem? h)
theorem sumFrom_ok (n : Nat) (a b : List Int) (ha : RowOk n a) (hb : RowOk n b) : ∀ d k, ∀ e ∈ sumFrom a b d k, 0 ≤ e ∧ e ≤ 1000001
  | 0, _, e, h => by cases h
  | d + 1, k, e, h => by
    rw [sumFrom] at h
    rcases List.mem_cons.1 h with rfl | h
    · have := rd_in a n ha k
      have := rd_in b n hb k
      rw [w64 (by omega) (by omega)]
      unfold cap2
      split <;> omega
    · exact sumFrom_ok n a b ha hb d (k + 1) e h
theorem addRow_ok (n : Nat) (a b : List Int) (ha : RowOk n a) (hb : RowOk n b) : RowOk n (addRow a b) := ⟨by unfold addRow; rw [sumFrom_length]; exact ha.1, sumFrom_ok n a b ha hb _ _⟩
theorem base0_ok (n m : Nat) : RowsOk n m (base0 n m) := by
  refine ⟨base0_length n m, fun r hr => ?_⟩
  unfold base0 at hr
  obtain ⟨i, _, rfl⟩ := List.mem_map.1 hr
  refine ⟨by unfold row0; simp, fun e he => ?_⟩
  unfold row0 at he
  rcases List.mem_or_eq_of_mem_set he with h | rfl
  · have := (List.mem_replicate.1 h).2
    omega
  · omega
theorem RowsOk.snoc {n m : Nat} {rows : List (List Int)} {r : List Int} (h : RowsOk n m rows) (hr : RowOk n r) : RowsOk n (m + 1) (rows ++ [r]) := ⟨by rw [List.length_append, h.1]; rfl, fun q hq => by
  rcases List.mem_append.1 hq with h1 | h1
  · exact h.2 q h1
  · rw [List.mem_singleton.1 h1]; exact hr⟩
theorem grow_ok (n : Nat) (ss : List (S41)) (ho : InOrder n ss) : ∀ (d i : Nat) (rows : List (List Int)), i + d = ss.length → RowsOk n (n + i) rows → RowsOk n (n + ss.length) (grow ss d i rows) := by
  intro d
  induction d with
  | zero =>
    intro i rows hd h
    obtain rfl : i = ss.length := by omega
    exact h
  | succ d ih =>
    intro i rows hd h
    obtain ⟨h1, h2, h3⟩ := ho i (by omega)
    have hl := h.1
    rw [grow]
    exact ih (i + 1) _ (by omega) (h.snoc (addRow_ok n _ _ (h.2 _ (rd_mem rows _ h1 (by omega))) (h.2 _ (rd_mem rows _ (by omega) (by omega)))))
theorem exps_ok (n : Nat) (ss : List (S41)) (ho : InOrder n ss) : RowsOk n (n + ss.length) (exps n ss) := grow_ok n ss ho ss.length 0 _ (by omega) (base0_ok n n)

theorem exponents_ev (n : Nat) (ss : List (S41)) (os : List Int) (hn : n ≤ 6) (hs : ss.length ≤ 40) (ho : InOrder n ss) : Ev (fun k => impl_Plan_exponents.f k n ss os) (exps n ss) := by
  have inner : ∀ (rows : List (List Int)) (i : Nat) (A B : Int) (r : List (List Int)), rows.length ≤ 100 → RowOk n (rd_L3 rows A) → RowOk n (rd_L3 rows B) → 0 ≤ B → B < rows.length → Ev (fun k => impl_Plan_exponents.l1 k (rows ++ [addRow (rd_L3 rows A) (rd_L3 rows B)]) ss ss.length (wrap64 ((i : Int) + 1))) r → ∀ (d : Nat) (j : Int) (acc : List Int), 0 ≤ j → j + d = (rd_L3 rows A).length → acc.length + d ≤ 1000000 → acc ++ sumFrom (rd_L3 rows A) (rd_L3 rows B) d j = addRow (rd_L3 rows A) (rd_L3 rows B) → Ev (fun k => impl_Plan_exponents.l2 k rows acc ss ss.length i (rd_L3 rows A) (rd_L3 rows A).length j A B) r := by
    intro rows i A B r hl ra rb hb0 hb1 hr d
    induction d with
    | zero =>
      intro j acc h0 hd _ he
      rw [sumFrom, List.append_nil] at he
      refine ev_shift ?_
      simp only [impl_Plan_exponents.l2, if_neg (show ¬ j < ((rd_L3 rows A).length : Int) by omega), if_pos (show rows.length < 5864062014805 by omega)]
      rw [he]
      exact hr
    | succ d ih =>
      intro j acc h0 hd hacc he
      have hlen : (rd_L3 rows B).length = (rd_L3 rows A).length := by rw [ra.1, rb.1]
      have e : ∀ x : Int, mn x 1000001 = cap2 x := fun x => by
        unfold mn cap2
        split <;> split <;> omega
      refine ev_shift ?_
      simp only [impl_Plan_exponents.l2, if_pos (show j < ((rd_L3 rows A).length : Int) by omega), if_pos h0, if_pos hb0, if_pos hb1, if_pos (show j < ((rd_L3 rows B).length : Int) by omega), if_pos (show acc.length < 17592186044416 by omega), e, w64 (show -9223372036854775808 ≤ j + 1 by omega) (by have := ra.1; omega)]
      rw [sumFrom] at he
      exact ih (j + 1) _ (by omega) (by omega) (by simp only [List.length_append, List.length_singleton]; omega) (by rw [List.append_assoc, List.singleton_append]; exact he)
  have second : ∀ (d i : Nat) (rows : List (List Int)), i + d = ss.length → RowsOk n (n + i) rows → Ev (fun k => impl_Plan_exponents.l1 k rows ss ss.length i) (grow ss d i rows) := by
    intro d
    induction d with
    | zero =>
      intro i rows hd _
      refine ev_shift ?_
      simp only [impl_Plan_exponents.l1, if_neg (show ¬ (i : Int) < (ss.length : Int) by omega), grow]
      exact Ev.now _
    | succ d ih =>
      intro i rows hd h
      obtain ⟨h1, h2, h3⟩ := ho i (by omega)
      have hl := h.1
      have ra := h.2 _ (rd_mem rows (rd_T41 ss i).f0 h1 (by omega))
      have rb := h.2 _ (rd_mem rows (rd_T41 ss i).f1 (by omega) (by omega))
      refine ev_shift ?_
      simp only [impl_Plan_exponents.l1, if_pos (show (i : Int) < (ss.length : Int) by omega), if_pos (show (0 : Int) ≤ (i : Int) by omega), if_pos h1, if_pos (show (rd_T41 ss i).f0 < (rows.length : Int) by omega), grow]
      refine inner rows i _ _ _ (by omega) ra rb (by omega) (by omega) ?_ (rd_L3 rows (rd_T41 ss i).f0).length 0 [] (by omega) (by omega) (by have := ra.1; simp; omega) (by rw [List.nil_append]; rfl)
      rw [w64 (by omega) (by omega)]
      exact ih (i + 1) _ (by omega) (h.snoc (addRow_ok n _ _ ra rb))
  have first_ : ∀ (d i : Nat), i + d = n → Ev (fun k => impl_Plan_exponents.l0 k (base0 n i) n i n ss os) (exps n ss) := by
    intro d
    induction d with
    | zero =>
      intro i hd
      obtain rfl : i = n := by omega
      refine ev_shift ?_
      simp only [impl_Plan_exponents.l0, if_neg (show ¬ (i : Int) < (i : Int) by omega)]
      exact second ss.length 0 _ (by omega) (base0_ok i i)
    | succ d ih =>
      intro i hd
      refine ev_shift ?_
      simp only [impl_Plan_exponents.l0, if_pos (show (i : Int) < (n : Int) by omega), if_pos (show (0 : Int) ≤ (n : Int) by omega), Int.toNat_natCast, if_pos (show n ≤ 35184372088832 by omega), Option.bind_some, if_pos (show (0 : Int) ≤ (i : Int) by omega), List.length_replicate, base0_length, if_pos (show i < 5864062014805 by omega), w64 (show -9223372036854775808 ≤ (i : Int) + 1 by omega) (by omega)]
      have := ih (i + 1) (by omega)
      rw [base0_succ] at this
      exact this
  exact first_ n 0 (by omega)
/-! IsPlan -/
def goodFrom (rows : List (List Int)) : Nat → Int → Bool
  | 0, _ => true
  | d + 1, i => if allFrom (rd_L3 rows i) 0 1000000 (rd_L3 rows i).length 0 = true then goodFrom rows d (i + 1) else false
def planOk (n : Int) (ss : List (S41)) (os : List Int) : Bool := impl_IsPlan.formed n ss os && goodFrom (exps n.toNat ss) (exps n.toNat ss).length 0
theorem goodFrom_all (rows : List (List Int)) : ∀ (xs pre : List (List Int)), rows = pre ++ xs → goodFrom rows xs.length (pre.length : Int) = xs.all (fun r => allFrom r 0 1000000 r.length 0)
  | [], pre, _ => rfl
  | x :: xs, pre, h => by
    have e : rd_L3 rows (pre.length : Int) = x := by
      unfold rd_L3
      rw [Int.toNat_natCast, h]
      simp [List.getD_eq_getElem?_getD]
    have := goodFrom_all rows xs (pre ++ [x]) (by rw [h, List.append_assoc]; rfl)
    rw [List.length_append] at this
    rw [List.length_cons, goodFrom, e, List.all_cons]
    cases allFrom x 0 1000000 x.length 0 with
    | true => rw [if_pos rfl, Bool.true_and, ← this]; rfl
    | false => rw [if_neg (by decide), Bool.false_and]
theorem goodFrom_eq (rows : List (List Int)) : goodFrom rows rows.length 0 = rows.all (fun r => allFrom r 0 1000000 r.length 0) := goodFrom_all rows rows [] rfl
theorem steps_order (n : Nat) (ss : List (S41)) : ∀ (d i : Nat), impl_IsPlan.steps n ss d i = true → ∀ j, i ≤ j → j < i + d → 0 ≤ (rd_T41 ss j).f0 ∧ (rd_T41 ss j).f0 ≤ (rd_T41 ss j).f1 ∧ (rd_T41 ss j).f1 < n + j := by
  intro d
  induction d with
  | zero => intro i _ j h1 h2; omega
  | succ d ih =>
    intro i h j h1 h2
    rw [impl_IsPlan.steps] at h
    by_cases k1 : (rd_T41 ss i).f0 < 0
    · rw [if_pos k1] at h; cases h
    · rw [if_neg k1] at h
      by_cases k2 : (rd_T41 ss i).f0 > (rd_T41 ss i).f1
      · rw [if_pos k2] at h; cases h
      · rw [if_neg k2] at h
        by_cases k3 : (rd_T41 ss i).f1 ≥ (n : Int) + i
        · rw [if_pos k3] at h; cases h
        · rw [if_neg k3] at h
          by_cases e : j = i
          · subst e; omega
          · exact ih (i + 1) h j (by omega) (by omega)
theorem order_of (n : Nat) (ss : List (S41)) (h : impl_IsPlan.steps n ss ss.length 0 = true) : InOrder n ss := fun i hi => steps_order n ss ss.length 0 h i (by omega) (by omega)
theorem formed_of {n : Int} {ss : List (S41)} {os : List Int} (h : impl_IsPlan.formed n ss os = true) : (1 ≤ n ∧ n ≤ 6) ∧ ss.length ≤ 40 ∧ os.length ≤ 6 ∧ impl_IsPlan.steps n ss ss.length 0 = true ∧ anyIx (impl_IsPlan.outs n ss os) os.length 0 = false := by
  unfold impl_IsPlan.formed at h
  by_cases c1 : 1 ≤ n ∧ n ≤ 6
  · rw [if_pos c1] at h
    by_cases c2 : ss.length ≤ 40
    · rw [if_pos c2] at h
      by_cases c3 : os.length ≤ 6
      · rw [if_pos c3] at h
        by_cases c4 : impl_IsPlan.steps n ss ss.length 0 = true
        · rw [if_pos c4] at h
          exact ⟨c1, c2, c3, c4, by simpa using h⟩
        · rw [if_neg c4] at h; cases h
      · rw [if_neg c3] at h; cases h
    · rw [if_neg c2] at h; cases h
  · rw [if_neg c1] at h; cases h
def maxFrom (xs : List Int) : Nat → Int → Int → Int
  | 0, _, m => m
  | d + 1, i, m => maxFrom xs d (i + 1) (mx m (rd xs i))
theorem max_ev (xs : List Int) (h0 : 0 < xs.length) (hl : xs.length ≤ 1000000) : Ev (fun k => slices_Max_int_int.f k xs) (maxFrom xs (xs.length - 1) 1 (rd xs 0)) := by
  have loop : ∀ (d : Nat) (i m : Int), 0 ≤ i → i + d = xs.length → Ev (fun k => slices_Max_int_int.l0 k xs m i) (maxFrom xs d i m) := by
    intro d
    induction d with
    | zero =>
      intro i m _ hd
      refine ev_shift ?_
      simp only [slices_Max_int_int.l0, if_neg (show ¬ i < (xs.length : Int) by omega), maxFrom]
      exact Ev.now _
    | succ d ih =>
      intro i m h0 hd
      refine ev_shift ?_
      simp only [slices_Max_int_int.l0, if_pos (show i < (xs.length : Int) by omega), if_pos h0, w64 (show -9223372036854775808 ≤ i + 1 by omega) (by omega), maxFrom]
      exact ih (i + 1) _ (by omega) (by omega)
  unfold slices_Max_int_int.f
  simp only [if_neg (show ¬ (xs.length : Int) < 1 by omega), if_pos (show (0 : Int) < (xs.length : Int) by omega)]
  exact loop (xs.length - 1) 1 _ (by omega) (by omega)
theorem max_all (n : Nat) (xs : List Int) (hx : RowOk n xs) : ∀ (d : Nat) (i m : Int), decide (maxFrom xs d i m > 1000000) = !(decide (m ≤ 1000000) && allFrom xs 0 1000000 d i)
  | 0, i, m => by
    rw [maxFrom, allFrom, Bool.and_true]
    by_cases c : m ≤ 1000000
    · rw [decide_eq_true c, decide_eq_false (by omega)]; rfl
    · rw [decide_eq_false c, decide_eq_true (by omega)]; rfl
  | d + 1, i, m => by
    have hr := rd_in xs n hx i
    rw [maxFrom, max_all n xs hx d (i + 1), allFrom]
    by_cases c : m ≤ 1000000
    · rw [decide_eq_true c]
      by_cases c2 : rd xs i ≤ 1000000
      · rw [if_pos ⟨hr.1, c2⟩, decide_eq_true (by unfold mx; split <;> omega)]
      · rw [if_neg (by omega), decide_eq_false (by unfold mx; split <;> omega)]; rfl
    · rw [decide_eq_false c, decide_eq_false (by unfold mx; split <;> omega)]; rfl
theorem top_ev (n : Nat) (hn : 1 ≤ n) (hn6 : n ≤ 6) : ∀ (rows : List (List Int)), (∀ r ∈ rows, RowOk n r) → Ev (fun k => impl_IsPlan.top k rows) (!(rows.all (fun r => allFrom r 0 1000000 r.length 0)))
  | [], _ => Ev.now _
  | x :: xs, h => by
    have hx := h x (List.mem_cons_self ..)
    have hxl := hx.1
    refine ev_bind (max_ev x (by omega) (by omega)) ?_
    refine ev_bind (top_ev n hn hn6 xs (fun r hr => h r (List.mem_cons_of_mem _ hr))) ?_
    have e : decide (maxFrom x (x.length - 1) 1 (rd x 0) > 1000000) = !(allFrom x 0 1000000 x.length 0) := by
      obtain ⟨m, hm⟩ : ∃ m, x.length = m + 1 := ⟨x.length - 1, by omega⟩
      have hr := rd_in x n hx 0
      rw [hm, Nat.add_sub_cancel, max_all n x hx, allFrom]
      by_cases c : rd x 0 ≤ 1000000
      · rw [decide_eq_true c, if_pos ⟨hr.1, c⟩, Bool.true_and]; rfl
      · rw [decide_eq_false c, if_neg (by omega)]; rfl
    have e2 : (decide (maxFrom x (x.length - 1) 1 (rd x 0) > 1000000) || !(xs.all fun r => allFrom r 0 1000000 r.length 0)) = !((x :: xs).all fun r => allFrom r 0 1000000 r.length 0) := by
      rw [e, List.all_cons, Bool.not_and]
    simp only [e2]
    exact Ev.now _
theorem isPlan_ev (n : Int) (ss : List (S41)) (os : List Int) : Ev (fun k => impl_IsPlan.f k n ss os) (planOk n ss os) := by
  unfold impl_IsPlan.f planOk
  by_cases c : impl_IsPlan.formed n ss os = true
  · obtain ⟨h1, h2, h3, h4, h5⟩ := formed_of c
    obtain ⟨m, rfl⟩ := Int.eq_ofNat_of_zero_le (show 0 ≤ n by omega)
    have ho := order_of m ss h4
    have hok := exps_ok m ss ho
    simp only [c, if_true, Bool.true_and, Int.toNat_natCast]
    refine ev_bind (exponents_ev m ss os (by omega) h2 ho) ?_
    refine ev_bind (top_ev m (by omega) (by omega) _ hok.2) ?_
    rw [goodFrom_eq, Bool.not_not]
    exact Ev.now _
  · simp only [Bool.eq_false_iff.mpr c, Bool.false_and]
    exact Ev.now _
theorem outs_all (n : Int) (ss : List (S41)) (os : List Int) : ∀ (d i : Nat), anyIx (impl_IsPlan.outs n ss os) d i = !(allFrom os 0 (n + ss.length - 1) d i)
  | 0, _ => rfl
  | d + 1, i => by
    have ih := outs_all n ss os d (i + 1)
    rw [anyIx, allFrom, ih]
    unfold impl_IsPlan.outs
    by_cases c : 0 ≤ rd os i ∧ rd os i ≤ n + ss.length - 1
    · rw [if_pos c, decide_eq_true c.1, decide_eq_true c.2]; rfl
    · rw [if_neg c]
      have e : (decide (0 ≤ rd os (i : Int)) && decide (rd os (i : Int) ≤ n + ss.length - 1)) = false := by rw [Bool.and_eq_false_iff, decide_eq_false_iff_not, decide_eq_false_iff_not]; omega
      rw [e]; rfl
theorem planOk_of {n : Int} {ss : List (S41)} {os : List Int} (h : planOk n ss os = true) : ∃ m : Nat, n = m ∧ 1 ≤ m ∧ m ≤ 6 ∧ ss.length ≤ 40 ∧ os.length ≤ 6 ∧ InOrder m ss ∧ (∀ j : Nat, j < os.length → 0 ≤ rd os j ∧ rd os j ≤ (m : Int) + ss.length - 1) ∧ ∀ r ∈ exps m ss, ∀ e ∈ r, 0 ≤ e ∧ e ≤ 1000000 := by
  unfold planOk at h
  rw [Bool.and_eq_true] at h
  obtain ⟨h1, h2, h3, h4, h5⟩ := formed_of h.1
  obtain ⟨m, rfl⟩ := Int.eq_ofNat_of_zero_le (show 0 ≤ n by omega)
  have all_rd : ∀ (xs : List Int) (a b : Int) (d i : Nat), allFrom xs a b d i = true → ∀ j : Nat, i ≤ j → j < i + d → a ≤ rd xs j ∧ rd xs j ≤ b := by
    intro xs a b d
    induction d with
    | zero => intro i _ j h1 h2; omega
    | succ d ih =>
      intro i h j h1 h2
      rw [allFrom] at h
      by_cases c : a ≤ rd xs i ∧ rd xs i ≤ b
      · rw [if_pos c] at h
        by_cases e : j = i
        · subst e; exact c
        · exact ih (i + 1) h j (by omega) (by omega)
      · rw [if_neg c] at h; cases h
  refine ⟨m, rfl, by omega, by omega, h2, h3, order_of m ss h4, fun j hj => ?_, fun r hr e he => ?_⟩
  · rw [outs_all, Bool.not_eq_false'] at h5
    exact all_rd os _ _ os.length 0 h5 j (by omega) (by omega)
  · have h6 := h.2
    rw [Int.toNat_natCast, goodFrom_eq] at h6
    have h7 := List.all_eq_true.1 h6 r hr
    obtain ⟨j, hj, rfl⟩ := List.mem_iff_getElem.1 he
    have := all_rd r 0 1000000 r.length 0 h7 j (by omega) (by omega)
    rw [rd_nat] at this
    simpa [List.getD_eq_getElem?_getD, hj] using this
/-! the plan of a chain -/
theorem inner_mem (xs : List Int) (k j : Int) (hj : 0 ≤ j) : ∀ (d : Nat) (i : Int), 0 ≤ i → i + d = j + 1 → ∀ s ∈ inner xs k j d i, 0 ≤ s.f0 ∧ s.f0 ≤ j ∧ s.f1 = j ∧ wrap64 (rd xs s.f0 + rd xs s.f1) = rd xs k
  | 0, _, _, _, s, h => by cases h
  | d + 1, i, h0, hd, s, h => by
    unfold inner at h
    split at h
    · rename_i c
      rcases List.mem_cons.1 h with rfl | h
      · exact ⟨h0, by show i ≤ j; omega, rfl, c⟩
      · exact inner_mem xs k j hj d (i + 1) (by omega) (by omega) s h
    · exact inner_mem xs k j hj d (i + 1) (by omega) (by omega) s h
theorem outer_mem (xs : List Int) (k : Int) : ∀ (d : Nat) (j : Int), 0 ≤ j → j + d = k → ∀ s ∈ outer xs k d j, 0 ≤ s.f0 ∧ s.f0 ≤ s.f1 ∧ s.f1 < k ∧ wrap64 (rd xs s.f0 + rd xs s.f1) = rd xs k
  | 0, _, _, _, s, h => by cases h
  | d + 1, j, h0, hd, s, h => by
    unfold outer at h
    rcases List.mem_append.1 h with h | h
    · obtain ⟨a, b, c, e⟩ := inner_mem xs k j h0 (j + 1).toNat 0 (by omega) (by omega) s h
      exact ⟨a, by omega, by omega, e⟩
    · exact outer_mem xs k d (j + 1) (by omega) (by omega) s h
theorem lastOf_mem (ss : List St) (h : ss.length ≠ 0) : lastOf ss ∈ ss := by
  unfold lastOf rdS rd_T41
  have e : ((ss.length : Int) - 1).toNat < ss.length := by omega
  generalize ((ss.length : Int) - 1).toNat = q at e ⊢
  rw [show ss.getD q z41 = ss[q] by simp [List.getD, e]]
  exact List.getElem_mem e
theorem stepsFrom_get (xs : List Int) : ∀ (d : Nat) (k : Int) (j : Nat), j < d → rdS (stepsFrom xs d k) (j : Int) = lastOf (sumsOf xs (k + j))
  | 0, _, _, h => absurd h (Nat.not_lt_zero _)
  | d + 1, k, 0, _ => by
    rw [rdS_nat, stepsFrom, show k + ((0 : Nat) : Int) = k by omega]; rfl
  | d + 1, k, j + 1, h => by
    have := stepsFrom_get xs d (k + 1) j (by omega)
    rw [rdS_nat] at this
    rw [rdS_nat, stepsFrom, show k + ((j + 1 : Nat) : Int) = k + 1 + (j : Int) by omega, ← this]
    rfl
theorem implFrom_at (xs : List Int) : ∀ (d : Nat) (k : Int), implFrom xs d k = true → ∀ j : Nat, j < d → (sumsOf xs (k + j)).length ≠ 0 ∧ rd xs (k + j) ≤ 1000000 ∧ rd xs (k + j - 1) < rd xs (k + j)
  | 0, _, _, _, h => absurd h (Nat.not_lt_zero _)
  | d + 1, k, hi, 0, _ => by
    obtain ⟨a, _, c, e⟩ := implFrom_head xs d k hi
    rw [show k + ((0 : Nat) : Int) = k by omega]
    exact ⟨a, e, c⟩
  | d + 1, k, hi, j + 1, h => by
    obtain ⟨_, b, _, _⟩ := implFrom_head xs d k hi
    have := implFrom_at xs d (k + 1) b j (by omega)
    rw [show k + ((j + 1 : Nat) : Int) = k + 1 + (j : Int) by omega]
    exact this
theorem stepOf_fact (xs : List Int) (h : chain xs = true) (j : Nat) (hj : j < xs.length - 1) : 0 ≤ (rdS (stepsOf xs) j).f0 ∧ (rdS (stepsOf xs) j).f0 ≤ (rdS (stepsOf xs) j).f1 ∧ (rdS (stepsOf xs) j).f1 < 1 + (j : Int) ∧ wrap64 (rd xs (rdS (stepsOf xs) j).f0 + rd xs (rdS (stepsOf xs) j).f1) = rd xs (1 + (j : Int)) := by
  obtain ⟨h1, h2, h3, h4⟩ := chain_from xs h
  have hs := (implFrom_at xs _ _ h4 j hj).1
  unfold stepsOf
  rw [stepsFrom_get xs _ _ j hj]
  exact outer_mem xs (1 + (j : Int)) (1 + (j : Int)).toNat 0 (by omega) (by omega) _ (lastOf_mem _ hs)
theorem chain_le (xs : List Int) (h : chain xs = true) (j : Nat) (hj : j < xs.length) : 1 ≤ rd xs j ∧ rd xs j ≤ 1000000 := by
  obtain ⟨h1, h2, h3, h4⟩ := chain_from xs h
  induction j with
  | zero => rw [show ((0 : Nat) : Int) = 0 by rfl, h3]; omega
  | succ j ih =>
    have i := ih (by omega)
    obtain ⟨_, b, c⟩ := implFrom_at xs _ _ h4 j (by omega)
    rw [show (1 : Int) + (j : Int) - 1 = (j : Int) by omega] at c
    rw [show ((j + 1 : Nat) : Int) = 1 + (j : Int) by omega]
    omega
theorem chain_order (xs : List Int) (h : chain xs = true) : InOrder 1 (stepsOf xs) := by
  intro i hi
  unfold stepsOf at hi
  rw [stepsFrom_length] at hi
  obtain ⟨a, b, c, _⟩ := stepOf_fact xs h i hi
  exact ⟨a, b, c⟩
/-- The exponents of a chain's plan are the chain's numbers. -/
theorem chain_exps (xs : List Int) (h : chain xs = true) : exps 1 (stepsOf xs) = xs.map (fun c => [c]) := by
  obtain ⟨h1, h2, h3, h4⟩ := chain_from xs h
  have hsl : (stepsOf xs).length = xs.length - 1 := by unfold stepsOf; rw [stepsFrom_length]
  have rdm : ∀ (n : Nat) (a : Int), 0 ≤ a → a < n → n ≤ xs.length → rd_L3 ((xs.take n).map (fun c => [c])) a = [rd xs a] := by
    intro n a a0 a1 hn
    obtain ⟨m, rfl⟩ := Int.eq_ofNat_of_zero_le a0
    unfold rd_L3 rd
    rw [Int.toNat_natCast]
    simp only [List.getD_eq_getElem?_getD, List.getElem?_map, List.getElem?_take]
    rw [if_pos (by omega), List.getElem?_eq_getElem (by omega)]
    rfl
  have loop : ∀ (d i : Nat), i + d = xs.length - 1 → grow (stepsOf xs) d i ((xs.take (i + 1)).map (fun c => [c])) = xs.map (fun c => [c]) := by
    intro d
    induction d with
    | zero =>
      intro i hd
      rw [grow, List.take_of_length_le (by omega)]
    | succ d ih =>
      intro i hd
      obtain ⟨a, b, c, e⟩ := stepOf_fact xs h i (by omega)
      have hle := chain_le xs h (i + 1) (by omega)
      rw [show ((i + 1 : Nat) : Int) = 1 + (i : Int) by omega] at hle
      rw [grow, rdm (i + 1) _ a (show (rdS (stepsOf xs) i).f0 < ((i + 1 : Nat) : Int) by omega) (by omega), rdm (i + 1) _ (show 0 ≤ (rdS (stepsOf xs) i).f1 by omega) (show (rdS (stepsOf xs) i).f1 < ((i + 1 : Nat) : Int) by omega) (by omega)]
      have e2 : addRow [rd xs (rdS (stepsOf xs) i).f0] [rd xs (rdS (stepsOf xs) i).f1] = [rd xs (1 + (i : Int))] := by
        show [cap2 (wrap64 (rd xs (rdS (stepsOf xs) i).f0 + rd xs (rdS (stepsOf xs) i).f1))] = _
        rw [e]
        unfold cap2
        rw [if_pos (by omega)]
      rw [e2]
      have e3 : (xs.take (i + 1)).map (fun c => [c]) ++ [[rd xs (1 + (i : Int))]] = (xs.take (i + 1 + 1)).map (fun c => [c]) := by
        rw [List.take_succ_eq_append_getElem (show i + 1 < xs.length by omega), List.map_append]
        have : rd xs (1 + (i : Int)) = xs[i + 1] := by
          rw [show (1 : Int) + (i : Int) = ((i + 1 : Nat) : Int) by omega, rd_nat]
          simp [List.getD, show i + 1 < xs.length by omega]
        rw [this]
        rfl
      rw [e3]
      exact ih (i + 1) (by omega)
  unfold exps
  rw [hsl]
  have e0 : base0 1 1 = (xs.take (0 + 1)).map (fun c => [c]) := by
    obtain ⟨x, t, rfl⟩ : ∃ x t, xs = x :: t := by cases xs with
      | nil => simp at h1
      | cons x t => exact ⟨x, t, rfl⟩
    have : x = 1 := h3
    rw [this]
    rfl
  rw [e0]
  exact loop (xs.length - 1) 0 (by omega)
theorem steps_true (n : Nat) (ss : List St) : ∀ (d i : Nat), (∀ j : Nat, i ≤ j → j < i + d → 0 ≤ (rdS ss j).f0 ∧ (rdS ss j).f0 ≤ (rdS ss j).f1 ∧ (rdS ss j).f1 < n + j) → impl_IsPlan.steps n ss d i = true
  | 0, _, _ => rfl
  | d + 1, i, h => by
    obtain ⟨a, b, c⟩ := h i (by omega) (by omega)
    rw [impl_IsPlan.steps, if_neg (by show ¬ (rdS ss i).f0 < 0; omega), if_neg (by show ¬ (rdS ss i).f0 > (rdS ss i).f1; omega), if_neg (by show ¬ (rdS ss i).f1 ≥ (n : Int) + i; omega)]
    exact steps_true n ss d (i + 1) (fun j h1 h2 => h j (by omega) (by omega))
theorem chain_planOk (xs : List Int) (h : chain xs = true) (os : List Int) (ho : os.length ≤ 6) (hr : ∀ j : Nat, j < os.length → 0 ≤ rd os j ∧ rd os j ≤ (xs.length : Int) - 1) : planOk 1 (stepsOf xs) os = true := by
  obtain ⟨h1, h2, h3, h4⟩ := chain_from xs h
  have hsl : (stepsOf xs).length = xs.length - 1 := by unfold stepsOf; rw [stepsFrom_length]
  have hord := chain_order xs h
  have all_ok : ∀ (ys : List Int) (a b : Int) (d i : Nat), (∀ j : Nat, i ≤ j → j < i + d → a ≤ rd ys j ∧ rd ys j ≤ b) → allFrom ys a b d i = true := by
    intro ys a b d
    induction d with
    | zero => intro i _; rfl
    | succ d ih =>
      intro i hh
      rw [allFrom, if_pos (hh i (by omega) (by omega))]
      exact ih (i + 1) (fun j a1 a2 => hh j (by omega) (by omega))
  unfold planOk
  rw [Bool.and_eq_true]
  constructor
  · unfold impl_IsPlan.formed
    have hst : impl_IsPlan.steps 1 (stepsOf xs) (stepsOf xs).length 0 = true := steps_true 1 (stepsOf xs) (stepsOf xs).length 0 (fun j _ hj => hord j (by omega))
    rw [if_pos (by omega), if_pos (by omega), if_pos ho, if_pos hst, outs_all, Bool.not_not]
    exact all_ok os _ _ os.length 0 (fun j _ hj => by have := hr j (by omega); omega)
  · show goodFrom (exps 1 (stepsOf xs)) (exps 1 (stepsOf xs)).length 0 = true
    rw [chain_exps xs h, goodFrom_eq, List.all_eq_true]
    intro r hrr
    obtain ⟨c, hc, rfl⟩ := List.mem_map.1 hrr
    obtain ⟨j, hj, rfl⟩ := List.mem_iff_getElem.1 hc
    have := chain_le xs h j hj
    rw [rd_nat] at this
    have e : xs.getD j 0 = xs[j] := by simp [List.getD, hj]
    rw [e] at this
    exact all_ok [xs[j]] 0 1000000 1 0 (fun q _ hq => by
      obtain rfl : q = 0 := by omega
      show 0 ≤ xs[j] ∧ xs[j] ≤ 1000000
      omega)
theorem gen_exps (xs : List Int) (ss : List St) (h1 : 1 ≤ xs.length) (hsl : ss.length = xs.length - 1) (h3 : rd xs 0 = 1) (hf : ∀ j : Nat, j < xs.length - 1 → 0 ≤ (rdS ss j).f0 ∧ (rdS ss j).f0 ≤ (rdS ss j).f1 ∧ (rdS ss j).f1 < 1 + (j : Int) ∧ wrap64 (rd xs (rdS ss j).f0 + rd xs (rdS ss j).f1) = rd xs (1 + (j : Int))) (hle : ∀ j : Nat, j < xs.length → 1 ≤ rd xs j ∧ rd xs j ≤ 1000000) : exps 1 ss = xs.map (fun c => [c]) := by
  have rdm : ∀ (n : Nat) (a : Int), 0 ≤ a → a < n → n ≤ xs.length → rd_L3 ((xs.take n).map (fun c => [c])) a = [rd xs a] := by
    intro n a a0 a1 hn
    obtain ⟨m, rfl⟩ := Int.eq_ofNat_of_zero_le a0
    unfold rd_L3 rd
    rw [Int.toNat_natCast]
    simp only [List.getD_eq_getElem?_getD, List.getElem?_map, List.getElem?_take]
    rw [if_pos (by omega), List.getElem?_eq_getElem (by omega)]
    rfl
  have loop : ∀ (d i : Nat), i + d = xs.length - 1 → grow ss d i ((xs.take (i + 1)).map (fun c => [c])) = xs.map (fun c => [c]) := by
    intro d
    induction d with
    | zero =>
      intro i hd
      rw [grow, List.take_of_length_le (by omega)]
    | succ d ih =>
      intro i hd
      obtain ⟨a, b, c, e⟩ := hf i (by omega)
      have hle := hle (i + 1) (by omega)
      rw [show ((i + 1 : Nat) : Int) = 1 + (i : Int) by omega] at hle
      rw [grow, rdm (i + 1) _ a (show (rdS ss i).f0 < ((i + 1 : Nat) : Int) by omega) (by omega), rdm (i + 1) _ (show 0 ≤ (rdS ss i).f1 by omega) (show (rdS ss i).f1 < ((i + 1 : Nat) : Int) by omega) (by omega)]
      have e2 : addRow [rd xs (rdS ss i).f0] [rd xs (rdS ss i).f1] = [rd xs (1 + (i : Int))] := by
        show [cap2 (wrap64 (rd xs (rdS ss i).f0 + rd xs (rdS ss i).f1))] = _
        rw [e]
        unfold cap2
        rw [if_pos (by omega)]
      rw [e2]
      have e3 : (xs.take (i + 1)).map (fun c => [c]) ++ [[rd xs (1 + (i : Int))]] = (xs.take (i + 1 + 1)).map (fun c => [c]) := by
        rw [List.take_succ_eq_append_getElem (show i + 1 < xs.length by omega), List.map_append]
        have : rd xs (1 + (i : Int)) = xs[i + 1] := by
          rw [show (1 : Int) + (i : Int) = ((i + 1 : Nat) : Int) by omega, rd_nat]
          simp [List.getD, show i + 1 < xs.length by omega]
        rw [this]
        rfl
      rw [e3]
      exact ih (i + 1) (by omega)
  unfold exps
  rw [hsl]
  have e0 : base0 1 1 = (xs.take (0 + 1)).map (fun c => [c]) := by
    obtain ⟨x, t, rfl⟩ : ∃ x t, xs = x :: t := by cases xs with
      | nil => simp at h1
      | cons x t => exact ⟨x, t, rfl⟩
    have : x = 1 := h3
    rw [this]
    rfl
  rw [e0]
  exact loop (xs.length - 1) 0 (by omega)
theorem gen_planOk (xs : List Int) (ss : List St) (h2 : xs.length ≤ 41) (h1 : 1 ≤ xs.length) (hsl : ss.length = xs.length - 1) (hord : InOrder 1 ss) (he : exps 1 ss = xs.map (fun c => [c])) (hle : ∀ j : Nat, j < xs.length → 1 ≤ rd xs j ∧ rd xs j ≤ 1000000) (os : List Int) (ho : os.length ≤ 6) (hr : ∀ j : Nat, j < os.length → 0 ≤ rd os j ∧ rd os j ≤ (xs.length : Int) - 1) : planOk 1 ss os = true := by
  have all_ok : ∀ (ys : List Int) (a b : Int) (d i : Nat), (∀ j : Nat, i ≤ j → j < i + d → a ≤ rd ys j ∧ rd ys j ≤ b) → allFrom ys a b d i = true := by
    intro ys a b d
    induction d with
    | zero => intro i _; rfl
    | succ d ih =>
      intro i hh
      rw [allFrom, if_pos (hh i (by omega) (by omega))]
      exact ih (i + 1) (fun j a1 a2 => hh j (by omega) (by omega))
  unfold planOk
  rw [Bool.and_eq_true]
  constructor
  · unfold impl_IsPlan.formed
    have hst : impl_IsPlan.steps 1 ss ss.length 0 = true := steps_true 1 ss ss.length 0 (fun j _ hj => hord j (by omega))
    rw [if_pos (by omega), if_pos (by omega), if_pos ho, if_pos hst, outs_all, Bool.not_not]
    exact all_ok os _ _ os.length 0 (fun j _ hj => by have := hr j (by omega); omega)
  · show goodFrom (exps 1 ss) (exps 1 ss).length 0 = true
    rw [he, goodFrom_eq, List.all_eq_true]
    intro r hrr
    obtain ⟨c, hc, rfl⟩ := List.mem_map.1 hrr
    obtain ⟨j, hj, rfl⟩ := List.mem_iff_getElem.1 hc
    have := hle j hj
    rw [rd_nat] at this
    have e : xs.getD j 0 = xs[j] := by simp [List.getD, hj]
    rw [e] at this
    exact all_ok [xs[j]] 0 1000000 1 0 (fun q _ hq => by
      obtain rfl : q = 0 := by omega
      show 0 ≤ xs[j] ∧ xs[j] ≤ 1000000
      omega)
def hasFrom (ys : List Int) (x : Int) : Nat → Int → Bool
  | 0, _ => false
  | d + 1, i => if rd ys i = x then true else hasFrom ys x d (i + 1)
/-- Is x among them? -/
def has (ys : List Int) (x : Int) : Bool := hasFrom ys x ys.length 0
theorem hasFrom_at (ys : List Int) (x : Int) : ∀ (d : Nat) (i : Int), hasFrom ys x d i = true → ∃ j, i ≤ j ∧ j < i + d ∧ rd ys j = x
  | 0, _, h => by cases h
  | d + 1, i, h => by
    unfold hasFrom at h
    split at h
    · rename_i c; exact ⟨i, by omega, by omega, c⟩
    · obtain ⟨j, h1, h2, h3⟩ := hasFrom_at ys x d (i + 1) h
      exact ⟨j, by omega, by omega, h3⟩
theorem hasFrom_mk (ys : List Int) (x : Int) : ∀ (d : Nat) (i j : Int), i ≤ j → j < i + d → rd ys j = x → hasFrom ys x d i = true
  | 0, _, _, _, _, _ => by omega
  | d + 1, i, j, h1, h2, h3 => by
    unfold hasFrom
    split
    · rfl
    · rename_i c
      by_cases e : i = j
      · subst e; exact absurd h3 c
      · exact hasFrom_mk ys x d (i + 1) j (by omega) (by omega) h3
theorem has_iff (ys : List Int) (x : Int) : has ys x = true ↔ ∃ j : Int, 0 ≤ j ∧ j < ys.length ∧ rd ys j = x := by
  constructor
  · intro h
    obtain ⟨j, h1, h2, h3⟩ := hasFrom_at ys x ys.length 0 h
    exact ⟨j, h1, by omega, h3⟩
  · rintro ⟨j, h1, h2, h3⟩
    exact hasFrom_mk ys x ys.length 0 j h1 (by omega) h3
theorem rd_take (xs : List Int) (k j : Int) (h0 : 0 ≤ j) (h1 : j < k) : rd (xs.take k.toNat) j = rd xs j := by
  unfold rd
  simp only [List.getD_eq_getElem?_getD]
  rw [List.getElem?_take_of_lt (by omega)]

theorem rd_ne (xs : List Int) (i : Nat) (h : i < xs.length) : rd xs (i : Int) = xs[i] := by rw [rd_nat]; simp [List.getD, h]
theorem has_mem (ys : List Int) (x : Int) : has ys x = decide (x ∈ ys) := by
  rw [Bool.eq_iff_iff, decide_eq_true_iff, has_iff]
  constructor
  · rintro ⟨j, h0, h1, h2⟩
    obtain ⟨j, rfl⟩ := Int.eq_ofNat_of_zero_le h0
    rw [rd_ne ys j (by omega)] at h2
    exact List.mem_iff_getElem.2 ⟨j, by omega, h2⟩
  · intro h
    obtain ⟨j, h1, h2⟩ := List.mem_iff_getElem.1 h
    exact ⟨j, by omega, by omega, by rw [rd_ne ys j h1]; exact h2⟩
theorem drop_cons (xs : List Int) (i : Nat) (h : i < xs.length) : xs.drop i = rd xs (i : Int) :: xs.drop (i + 1) := by rw [rd_ne xs i h]; exact List.drop_eq_getElem_cons h
theorem from_strict (xs : List Int) : ∀ (d : Nat) (k : Nat), 1 ≤ k → implFrom xs d k = true → ∀ (a b : Nat), k - 1 ≤ a → a < b → b < k + d → rd xs (a : Int) < rd xs (b : Int)
  | 0, k, hk, _, a, b, h1, h2, h3 => by omega
  | d + 1, k, hk, h, a, b, h1, h2, h3 => by
    obtain ⟨_, p2, p3, _⟩ := implFrom_head xs d k h
    have ih := from_strict xs d (k + 1) (by omega) (by rw [show ((k + 1 : Nat) : Int) = (k : Int) + 1 by omega]; exact p2)
    rw [show (k : Int) - 1 = ((k - 1 : Nat) : Int) by omega] at p3
    by_cases c : a = k - 1
    · subst c
      by_cases e : b = k
      · rw [e]; exact p3
      · have := ih k b (by omega) (by omega) (by omega)
        omega
    · exact ih a b (by omega) h2 (by omega)
theorem chain_strict (xs : List Int) (h : chain xs = true) : xs.Pairwise (· < ·) := by
  obtain ⟨h1, _, _, h4⟩ := chain_from xs h
  refine List.pairwise_iff_getElem.2 (fun i j hi hj hij => ?_)
  have := from_strict xs (xs.length - 1) 1 (Nat.le_refl _) h4 i j (by omega) hij (by omega)
  rwa [rd_ne xs i hi, rd_ne xs j hj] at this
/-! the place of a number in a list -/
def place (xs : List Int) (x : Int) : Nat → Nat → Nat
  | 0, i => i
  | d + 1, i => if rd xs (i : Int) < x then place xs x d (i + 1) else i
def putAt (xs : List Int) (x : Int) (k : Nat) : List Int := if k < xs.length ∧ rd xs (k : Int) = x then xs else xs.take k ++ x :: xs.drop k
/-- l1Put. -/
def put (xs : List Int) (x : Int) : List Int := putAt xs x (place xs x xs.length 0)
theorem place_le (xs : List Int) (x : Int) : ∀ (d i : Nat), place xs x d i ≤ i + d
  | 0, i => Nat.le_refl _
  | d + 1, i => by
    unfold place
    split
    · have := place_le xs x d (i + 1); omega
    · omega
theorem place_low (xs : List Int) (x : Int) : ∀ (d i m : Nat), i ≤ m → m < place xs x d i → rd xs (m : Int) < x
  | 0, i, m, h1, h2 => by unfold place at h2; omega
  | d + 1, i, m, h1, h2 => by
    unfold place at h2
    split at h2
    · rename_i c
      by_cases e : i = m
      · subst e; exact c
      · exact place_low xs x d (i + 1) m (by omega) h2
    · omega
theorem place_high (xs : List Int) (x : Int) : ∀ (d i : Nat), place xs x d i < i + d → ¬ rd xs (place xs x d i : Int) < x
  | 0, i, h => by unfold place at h; omega
  | d + 1, i, h => by
    unfold place at h ⊢
    split
    · rename_i c
      rw [if_pos c] at h
      exact place_high xs x d (i + 1) (by omega)
    · assumption
theorem place_eq (xs : List Int) (x : Int) (k : Nat) (hk : k ≤ xs.length) (h1 : ∀ m : Nat, m < k → rd xs (m : Int) < x) (h2 : k < xs.length → ¬ rd xs (k : Int) < x) : place xs x xs.length 0 = k := by
  have a := place_le xs x xs.length 0
  rcases Nat.lt_trichotomy (place xs x xs.length 0) k with c | c | c
  · exact absurd (h1 _ c) (place_high xs x xs.length 0 (by omega))
  · exact c
  · exact absurd (place_low xs x xs.length 0 k (by omega) c) (h2 (by omega))
theorem l1Put_ev (xs : List Int) (x : Int) (hl : xs.length ≤ 100000000) : Ev (fun f => spec_l1Put.f f xs x) (put xs x) := by
  have loop : ∀ (d i : Nat), i + d = xs.length → Ev (fun f => spec_l1Put.l0 f xs x i) (putAt xs x (place xs x d i)) := by
    intro d
    induction d with
    | zero =>
      intro i hd
      refine ev_shift ?_
      have l1 : ([] ++ xs.take i : List Int).length ≤ 100000000 := by simp only [List.nil_append, List.length_take]; omega
      have l2 : (([] ++ xs.take i : List Int) ++ [x]).length ≤ 100000001 := by rw [List.length_append, List.length_singleton]; omega
      simp only [spec_l1Put.l0, if_neg (show ¬ (i : Int) < (xs.length : Int) by omega), Option.bind_some, if_pos (show (0 : Int) ≤ (i : Int) by omega), if_pos (show (i : Int) ≤ (xs.length : Int) by omega), Int.toNat_natCast, if_pos (show ([] : List Int).length + (xs.take i).length < 17592186044416 by rw [List.length_take]; simp only [List.length_nil]; omega), if_pos (show ([] ++ xs.take i : List Int).length < 17592186044416 by omega), if_pos (show (([] ++ xs.take i : List Int) ++ [x]).length + (xs.drop i).length < 17592186044416 by rw [List.length_drop]; omega)]
      unfold place putAt
      rw [if_neg (by omega), List.nil_append, List.append_assoc]
      exact Ev.now _
    | succ d ih =>
      intro i hd
      have ih1 := ih (i + 1) (by omega)
      unfold place
      by_cases c : rd xs (i : Int) < x
      · rw [if_pos c]
        refine ev_shift ?_
        simp only [spec_l1Put.l0, if_pos (show (i : Int) < (xs.length : Int) by omega), if_pos (show (0 : Int) ≤ (i : Int) by omega), if_pos c, w64 (show -9223372036854775808 ≤ (i : Int) + 1 by omega) (by omega)]
        exact ih1
      · rw [if_neg c]
        by_cases e : rd xs (i : Int) = x
        · refine ev_shift ?_
          simp only [spec_l1Put.l0, if_pos (show (i : Int) < (xs.length : Int) by omega), if_pos (show (0 : Int) ≤ (i : Int) by omega), if_neg c, if_pos e]
          unfold putAt
          rw [if_pos ⟨by omega, e⟩]
          exact Ev.now _
        · refine ev_shift ?_
          have l1 : ([] ++ xs.take i : List Int).length ≤ 100000000 := by simp only [List.nil_append, List.length_take]; omega
          have l2 : (([] ++ xs.take i : List Int) ++ [x]).length ≤ 100000001 := by rw [List.length_append, List.length_singleton]; omega
          simp only [spec_l1Put.l0, if_pos (show (i : Int) < (xs.length : Int) by omega), if_neg c, if_neg e, Option.bind_some, if_pos (show (0 : Int) ≤ (i : Int) by omega), if_pos (show (i : Int) ≤ (xs.length : Int) by omega), Int.toNat_natCast, if_pos (show ([] : List Int).length + (xs.take i).length < 17592186044416 by rw [List.length_take]; simp only [List.length_nil]; omega), if_pos (show ([] ++ xs.take i : List Int).length < 17592186044416 by omega), if_pos (show (([] ++ xs.take i : List Int) ++ [x]).length + (xs.drop i).length < 17592186044416 by rw [List.length_drop]; omega)]
          unfold putAt
          rw [if_neg (fun h => e h.2), List.nil_append, List.append_assoc]
          exact Ev.now _
  exact loop xs.length 0 (by omega)
theorem put_length (xs : List Int) (x : Int) : (put xs x).length ≤ xs.length + 1 := by
  unfold put putAt
  split
  · omega
  · rw [List.length_append, List.length_cons, List.length_take, List.length_drop]; omega
/-! lists that rise, and what slices.Sort and slices.Compact make of a list -/
theorem strict_eq : ∀ l1 l2 : List Int, l1.Pairwise (· < ·) → l2.Pairwise (· < ·) → (∀ x, x ∈ l1 ↔ x ∈ l2) → l1 = l2
  | [], [], _, _, _ => rfl
  | [], b :: l2, _, _, h => absurd ((h b).2 (List.mem_cons_self ..)) (by simp)
  | a :: l1, [], _, _, h => absurd ((h a).1 (List.mem_cons_self ..)) (by simp)
  | a :: l1, b :: l2, h1, h2, h => by
    obtain ⟨p1, q1⟩ := List.pairwise_cons.1 h1
    obtain ⟨p2, q2⟩ := List.pairwise_cons.1 h2
    have e : a = b := by
      rcases List.mem_cons.1 ((h a).1 (List.mem_cons_self ..)) with c | c
      · exact c
      · rcases List.mem_cons.1 ((h b).2 (List.mem_cons_self ..)) with d | d
        · exact d.symm
        · have := p1 b d; have := p2 a c; omega
    subst e
    rw [strict_eq l1 l2 q1 q2 (fun x => ?_)]
    constructor
    · intro hx
      rcases List.mem_cons.1 ((h x).1 (List.mem_cons_of_mem _ hx)) with c | c
      · have := p1 x hx; omega
      · exact c
    · intro hx
      rcases List.mem_cons.1 ((h x).2 (List.mem_cons_of_mem _ hx)) with c | c
      · have := p2 x hx; omega
      · exact c
theorem comp_fact (d : Array Int) (hs : ∀ i j, i ≤ j → j < d.size → d[i]! ≤ d[j]!) : ∀ m, m ≤ d.size → (Go.Lib.compactUpTo d m).Pairwise (· < ·) ∧ (∀ x, x ∈ Go.Lib.compactUpTo d m ↔ ∃ j, j < m ∧ d[j]! = x)
  | 0, _ => ⟨by simp [Go.Lib.compactUpTo], fun x => by simp [Go.Lib.compactUpTo]⟩
  | m + 1, hm => by
    obtain ⟨h1, h2⟩ := comp_fact d hs m (by omega)
    rw [Go.Lib.compactUpTo_succ]
    by_cases c : Go.Lib.keeps d m = true
    · rw [if_pos c]
      refine ⟨List.pairwise_append.2 ⟨h1, by simp, fun x hx y hy => ?_⟩, fun x => ?_⟩
      · rw [List.mem_singleton.1 hy]
        obtain ⟨j, hj, rfl⟩ := (h2 x).1 hx
        have a1 := hs j (m - 1) (by omega) (by omega)
        have a2 := hs (m - 1) m (by omega) (by omega)
        have a3 : d[m]! ≠ d[m - 1]! := by
          unfold Go.Lib.keeps at c
          rcases of_decide_eq_true c with q | q
          · omega
          · exact q
        omega
      · rw [List.mem_append, h2, List.mem_singleton]
        constructor
        · rintro (⟨j, hj, e⟩ | e)
          · exact ⟨j, by omega, e⟩
          · exact ⟨m, by omega, e.symm⟩
        · rintro ⟨j, hj, e⟩
          by_cases q : j = m
          · subst q; exact .inr e.symm
          · exact .inl ⟨j, by omega, e⟩
    · rw [if_neg c, List.append_nil]
      refine ⟨h1, fun x => ?_⟩
      rw [h2]
      constructor
      · rintro ⟨j, hj, e⟩; exact ⟨j, by omega, e⟩
      · rintro ⟨j, hj, e⟩
        by_cases q : j = m
        · subst q
          have hj0 : j ≠ 0 := fun h => c (by unfold Go.Lib.keeps; exact decide_eq_true (.inl h))
          have he : d[j]! = d[j - 1]! := by
            by_cases r : d[j]! = d[j - 1]!
            · exact r
            · exact absurd (Go.Lib.keeps_pos r) c
          exact ⟨j - 1, by omega, by rw [← he]; exact e⟩
        · exact ⟨j, by omega, e⟩
theorem inc_fact (l : List Int) : (Go.Lib.compact (l.mergeSort fun x y => decide (x ≤ y))).Pairwise (· < ·) ∧ ∀ x, x ∈ Go.Lib.compact (l.mergeSort fun x y => decide (x ≤ y)) ↔ x ∈ l := by
  have hp : (l.mergeSort fun x y => decide (x ≤ y)).Pairwise (fun a b => decide (a ≤ b) = true) := List.pairwise_mergeSort (le := fun x y : Int => decide (x ≤ y)) (fun a b c h1 h2 => decide_eq_true (Int.le_trans (of_decide_eq_true h1) (of_decide_eq_true h2))) (fun a b => by rcases Int.le_total a b with h | h <;> simp [h]) l
  have hm : ∀ x, x ∈ (l.mergeSort fun x y => decide (x ≤ y)) ↔ x ∈ l := fun x => List.mem_mergeSort
  generalize (l.mergeSort fun x y => decide (x ≤ y)) = z at hp hm ⊢
  have hs : ∀ i j, i ≤ j → j < z.toArray.size → z.toArray[i]! ≤ z.toArray[j]! := fun i j hij hj => by
    have hj' : j < z.length := by simpa using hj
    rw [getElem!_pos _ i (by simp; omega), getElem!_pos _ j hj]
    simp only [List.getElem_toArray]
    by_cases e : i = j
    · subst e; exact Int.le_refl _
    · exact of_decide_eq_true (List.pairwise_iff_getElem.1 hp i j (by omega) hj' (by omega))
  obtain ⟨a, b⟩ := comp_fact z.toArray hs z.length (by simp)
  refine ⟨a, fun x => ?_⟩
  rw [show Go.Lib.compact z = Go.Lib.compactUpTo z.toArray z.length from rfl, b, ← hm]
  constructor
  · rintro ⟨j, hj, e⟩
    rw [getElem!_pos _ j (by simpa using hj)] at e
    exact List.mem_iff_getElem.2 ⟨j, hj, by simpa using e⟩
  · intro h
    obtain ⟨j, hj, e⟩ := List.mem_iff_getElem.1 h
    exact ⟨j, hj, by rw [getElem!_pos _ j (by simpa using hj)]; simpa using e⟩
theorem put_fact (xs : List Int) (n : Int) (h : xs.Pairwise (· < ·)) : (put xs n).Pairwise (· < ·) ∧ ∀ x, x ∈ put xs n ↔ x ∈ xs ∨ x = n := by
  unfold put putAt
  obtain ⟨k, hk⟩ : ∃ k, place xs n xs.length 0 = k := ⟨_, rfl⟩
  have k0 := place_le xs n xs.length 0
  have k1 : ∀ m : Nat, m < k → rd xs (m : Int) < n := fun m hm => place_low xs n xs.length 0 m (Nat.zero_le _) (by omega)
  have k2 : k < xs.length → ¬ rd xs (k : Int) < n := fun hl => by have := place_high xs n xs.length 0 (by omega); rwa [hk] at this
  rw [hk] at k0 ⊢
  have ht : ∀ a ∈ xs.take k, a < n := fun a ha => by
    obtain ⟨j, hj, rfl⟩ := List.mem_iff_getElem.1 ha
    rw [List.length_take] at hj
    rw [List.getElem_take, ← rd_ne xs j (by omega)]
    exact k1 j (by omega)
  split
  · rename_i c
    refine ⟨h, fun x => ⟨.inl, fun q => q.elim id (fun e => ?_)⟩⟩
    rw [e, ← c.2, rd_ne xs k c.1]
    exact List.getElem_mem _
  · rename_i c
    have hd : ∀ b ∈ xs.drop k, n < b := fun b hb => by
      obtain ⟨j, hj, rfl⟩ := List.mem_iff_getElem.1 hb
      rw [List.length_drop] at hj
      rw [List.getElem_drop]
      have a1 := k2 (by omega)
      rw [rd_ne xs k (by omega)] at a1
      have a2 : ¬ xs[k]'(by omega) = n := fun e => c ⟨by omega, by rw [rd_ne xs k (by omega)]; exact e⟩
      by_cases e : j = 0
      · subst e; simp only [Nat.add_zero]; omega
      · have := List.pairwise_iff_getElem.1 h k (k + j) (by omega) (by omega) (by omega)
        omega
    have hsp := List.take_append_drop k xs
    refine ⟨List.pairwise_append.2 ⟨h.sublist (List.take_sublist ..), List.pairwise_cons.2 ⟨hd, h.sublist (List.drop_sublist ..)⟩, fun a ha b hb => ?_⟩, fun x => ?_⟩
    · rcases List.mem_cons.1 hb with e | e
      · rw [e]; exact ht a ha
      · have := ht a ha; have := hd b e; omega
    · have hm : x ∈ xs ↔ x ∈ xs.take k ∨ x ∈ xs.drop k := by rw [← List.mem_append, hsp]
      rw [List.mem_append, List.mem_cons, hm]
      constructor
      · rintro (q | q | q)
        · exact .inl (.inl q)
        · exact .inr q
        · exact .inl (.inr q)
      · rintro ((q | q) | q)
        · exact .inl q
        · exact .inr (.inr q)
        · exact .inr (.inl q)
theorem puts_fact : ∀ (ys xs : List Int), xs.Pairwise (· < ·) → (ys.foldl put xs).Pairwise (· < ·) ∧ ∀ x, x ∈ ys.foldl put xs ↔ x ∈ xs ∨ x ∈ ys
  | [], xs, h => ⟨h, fun x => by simp⟩
  | y :: ys, xs, h => by
    obtain ⟨a, b⟩ := put_fact xs y h
    obtain ⟨c, d⟩ := puts_fact ys (put xs y) a
    refine ⟨c, fun x => ?_⟩
    rw [List.foldl_cons, d, b, List.mem_cons]
    constructor
    · rintro ((q | q) | q)
      · exact .inl q
      · exact .inr (.inl q)
      · exact .inr (.inr q)
    · rintro (q | q | q)
      · exact .inl (.inl q)
      · exact .inl (.inr q)
      · exact .inr q
theorem puts_length : ∀ (ys xs : List Int), (ys.foldl put xs).length ≤ xs.length + ys.length
  | [], _ => Nat.le_refl _
  | y :: ys, xs => by
    have := puts_length ys (put xs y)
    have := put_length xs y
    rw [List.foldl_cons, List.length_cons]
    omega
/-! what makes a chain -/
theorem inner_has (xs : List Int) (k j : Int) : ∀ (d i : Nat) (a : Nat), i ≤ a → a < i + d → wrap64 (rd xs a + rd xs j) = rd xs k → inner xs k j d i ≠ []
  | 0, i, a, h1, h2, _ => by omega
  | d + 1, i, a, h1, h2, h => by
    unfold inner
    by_cases c : wrap64 (rd xs (i : Int) + rd xs j) = rd xs k
    · rw [if_pos c]; simp
    · rw [if_neg c, show ((i : Int) + 1) = ((i + 1 : Nat) : Int) by omega]
      have : i ≠ a := fun e => c (by rw [e]; exact h)
      exact inner_has xs k j d (i + 1) a (by omega) (by omega) h
theorem outer_has (xs : List Int) (k : Int) : ∀ (d j0 j : Nat), j0 ≤ j → j < j0 + d → inner xs k j (j + 1) 0 ≠ [] → outer xs k d j0 ≠ []
  | 0, j0, j, h1, h2, _ => by omega
  | d + 1, j0, j, h1, h2, h => by
    unfold outer
    by_cases e : j0 = j
    · subst e
      rw [show ((j0 : Int) + 1).toNat = j0 + 1 by omega]
      intro q
      exact h (List.append_eq_nil_iff.1 q).1
    · have := outer_has xs k d (j0 + 1) j (by omega) (by omega) h
      rw [show ((j0 : Int) + 1) = ((j0 + 1 : Nat) : Int) by omega]
      intro q
      exact this (List.append_eq_nil_iff.1 q).2
theorem chain_mk (xs : List Int) (h1 : 1 ≤ xs.length) (h2 : xs.length ≤ 41) (h0 : rd xs 0 = 1) (hs : ∀ a b : Nat, a < b → b < xs.length → rd xs (a : Int) < rd xs (b : Int)) (hm : ∀ a : Nat, a < xs.length → 0 ≤ rd xs (a : Int) ∧ rd xs (a : Int) ≤ 1000000)
    (hx : ∀ k : Nat, 1 ≤ k → k < xs.length → ∃ i j : Nat, i ≤ j ∧ j < k ∧ rd xs (i : Int) + rd xs (j : Int) = rd xs (k : Int)) : chain xs = true := by
  have loop : ∀ (d k : Nat), 1 ≤ k → k + d = xs.length → implFrom xs d k = true := by
    intro d
    induction d with
    | zero => intro k _ _; rfl
    | succ d ih =>
      intro k hk hd
      obtain ⟨i, j, hij, hjk, e⟩ := hx k hk (by omega)
      have a1 := hs (k - 1) k (by omega) (by omega)
      have a2 := hm k (by omega)
      have a3 := hm i (by omega)
      have a4 := hm j (by omega)
      rw [show ((k - 1 : Nat) : Int) = (k : Int) - 1 by omega] at a1
      have hw : wrap64 (rd xs (i : Int) + rd xs (j : Int)) = rd xs (k : Int) := by rw [w64 (by omega) (by omega)]; exact e
      have hn : sumsOf xs (k : Int) ≠ [] := by
        unfold sumsOf
        rw [Int.toNat_natCast]
        exact outer_has xs k k 0 j (Nat.zero_le _) (by omega) (inner_has xs k j (j + 1) 0 i (Nat.zero_le _) (by omega) hw)
      unfold implFrom
      rw [if_neg (by omega), if_neg (by omega), if_neg (fun h => hn (List.eq_nil_of_length_eq_zero h)), show ((k : Int) + 1) = ((k + 1 : Nat) : Int) by omega]
      exact ih (k + 1) (by omega) (by omega)
  unfold chain
  rw [if_pos ⟨h1, h2⟩, if_pos h0]
  exact loop (xs.length - 1) 1 (Nat.le_refl _) (by omega)
/-- Rows of one exponent each: 1, too great, or the sum of two. -/
def G (rows : List (List Int)) : Prop := [1] ∈ rows ∧ ∀ r ∈ rows, ∃ e : Int, r = [e] ∧ 1 ≤ e ∧ e ≤ 1000001 ∧ (e = 1 ∨ e = 1000001 ∨ ∃ a b : Int, [a] ∈ rows ∧ [b] ∈ rows ∧ 1 ≤ a ∧ 1 ≤ b ∧ e = a + b)
theorem grow_G (ss : List St) (ho : InOrder 1 ss) : ∀ (d i : Nat) (rows : List (List Int)), i + d = ss.length → rows.length = 1 + i → G rows → G (grow ss d i rows)
  | 0, i, rows, _, _, h => h
  | d + 1, i, rows, hd, hr, h => by
    obtain ⟨f0, f1, f2⟩ := ho i (by omega)
    have m0 := rd_mem rows _ f0 (by omega)
    have m1 := rd_mem rows _ (Int.le_trans f0 f1) (by omega)
    obtain ⟨a, ea, a1, a2, _⟩ := h.2 _ m0
    obtain ⟨b, eb, b1, b2, _⟩ := h.2 _ m1
    rw [grow, ea, eb, show ((i : Int) + 1) = ((i + 1 : Nat) : Int) by omega]
    rw [ea] at m0
    rw [eb] at m1
    have en : addRow [a] [b] = [cap2 (wrap64 (a + b))] := rfl
    rw [en, w64 (by omega) (by omega)]
    refine grow_G ss ho d (i + 1) _ (by omega) (by rw [List.length_append, List.length_singleton]; omega) ⟨List.mem_append_left _ h.1, fun r hr' => ?_⟩
    rcases List.mem_append.1 hr' with q | q
    · obtain ⟨e, e1, e2, e3, e4⟩ := h.2 r q
      refine ⟨e, e1, e2, e3, ?_⟩
      rcases e4 with e4 | e4 | ⟨x, y, hx, hy, hh⟩
      · exact .inl e4
      · exact .inr (.inl e4)
      · exact .inr (.inr ⟨x, y, List.mem_append_left _ hx, List.mem_append_left _ hy, hh⟩)
    · rw [List.mem_singleton.1 q]
      unfold cap2
      by_cases c : a + b < 1000001
      · rw [if_pos c]
        exact ⟨a + b, rfl, by omega, by omega, .inr (.inr ⟨a, b, List.mem_append_left _ m0, List.mem_append_left _ m1, a1, b1, rfl⟩)⟩
      · rw [if_neg c]
        exact ⟨1000001, rfl, by omega, by omega, .inr (.inl rfl)⟩
theorem exps_G (ss : List St) (ho : InOrder 1 ss) : G (exps 1 ss) := by
  refine grow_G ss ho ss.length 0 (base0 1 1) (by omega) (by rw [base0_length]) ⟨by decide, fun r hr => ?_⟩
  have : r = [1] := by
    have e : base0 1 1 = [[1]] := by decide
    rw [e] at hr
    exact List.mem_singleton.1 hr
  exact ⟨1, this, by omega, by omega, .inl rfl⟩
/-- The exponents of the values of a plan of one input. -/
def es (ss : List St) : List Int := (exps 1 ss).map (fun r => rd r 0)
theorem mem_es (ss : List St) (ho : InOrder 1 ss) (x : Int) : x ∈ es ss ↔ [x] ∈ exps 1 ss := by
  unfold es
  rw [List.mem_map]
  constructor
  · rintro ⟨r, hr, e⟩
    obtain ⟨y, rfl, _⟩ := (exps_G ss ho).2 r hr
    rw [← e]; exact hr
  · intro h; exact ⟨_, h, rfl⟩
theorem flat_es (rows : List (List Int)) (h : ∀ r ∈ rows, ∃ e : Int, r = [e]) : rows.flatten = rows.map (fun r => rd r 0) := by
  induction rows with
  | nil => rfl
  | cons r rows ih =>
    obtain ⟨e, rfl⟩ := h r (List.mem_cons_self ..)
    rw [List.flatten_cons, List.map_cons, ih (fun r hr => h r (List.mem_cons_of_mem _ hr))]
    rfl
def inc (l : List Int) : List Int := Go.Lib.compact (l.mergeSort fun x y => decide (x ≤ y))
theorem inc_chain (ss : List St) (ho : InOrder 1 ss) (hs : ss.length ≤ 40) (hb : ∀ r ∈ exps 1 ss, ∀ e ∈ r, 0 ≤ e ∧ e ≤ 1000000) : chain (inc (es ss)) = true := by
  have hp : (inc (es ss)).Pairwise (· < ·) := (inc_fact (es ss)).1
  have g := exps_G ss ho
  have hl : (inc (es ss)).length ≤ 41 := by
    unfold inc
    refine Nat.le_trans (Go.Lib.compact_length_le _) ?_
    rw [List.length_mergeSort]
    unfold es
    rw [List.length_map, (exps_ok 1 ss ho).1]
    omega
  have hmem : ∀ x, x ∈ inc (es ss) ↔ [x] ∈ exps 1 ss := fun x => by rw [← mem_es ss ho]; exact (inc_fact (es ss)).2 x
  generalize inc (es ss) = xs at hp hl hmem ⊢
  have hat : ∀ x : Int, x ∈ xs → ∃ i : Nat, i < xs.length ∧ rd xs (i : Int) = x := fun x hx => by
    obtain ⟨i, hi, e⟩ := List.mem_iff_getElem.1 hx
    exact ⟨i, hi, by rw [rd_ne xs i hi]; exact e⟩
  have hst : ∀ a b : Nat, a < b → b < xs.length → rd xs (a : Int) < rd xs (b : Int) := fun a b hab hb' => by
    rw [rd_ne xs a (by omega), rd_ne xs b hb']
    exact List.pairwise_iff_getElem.1 hp a b (by omega) hb' hab
  have hin : ∀ a : Nat, a < xs.length → [rd xs (a : Int)] ∈ exps 1 ss := fun a ha => (hmem _).1 (by rw [rd_ne xs a ha]; exact List.getElem_mem _)
  have hge : ∀ a : Nat, a < xs.length → 1 ≤ rd xs (a : Int) ∧ rd xs (a : Int) ≤ 1000000 := fun a ha => by
    have h1 := hin a ha
    obtain ⟨e, e1, e2, _⟩ := g.2 _ h1
    have e3 : rd xs (a : Int) = e := by injection e1
    have h2 := hb _ h1 _ (List.mem_singleton.2 rfl)
    omega
  obtain ⟨i1, hi1, e1⟩ := hat 1 ((hmem 1).2 g.1)
  have h0 : rd xs 0 = 1 := by
    by_cases c : i1 = 0
    · subst c; exact e1
    · have a1 := hst 0 i1 (by omega) hi1
      have a2 := hge 0 (by omega)
      rw [show ((0 : Nat) : Int) = 0 from rfl] at a1 a2
      omega
  refine chain_mk xs (by omega) hl h0 hst (fun a ha => by have := hge a ha; omega) (fun k h1 hk => ?_)
  obtain ⟨e, q1, q2, q3, q4⟩ := g.2 _ (hin k hk)
  have q5 : rd xs (k : Int) = e := by injection q1
  have hk1 := hst 0 k (by omega) hk
  have hk2 := hge k hk
  rw [show ((0 : Nat) : Int) = 0 from rfl, h0] at hk1
  rcases q4 with q | q | ⟨a, b, ha, hb', a1, b1, q⟩
  · omega
  · omega
  · obtain ⟨i, hi, ei⟩ := hat a ((hmem a).2 ha)
    obtain ⟨j, hj, ej⟩ := hat b ((hmem b).2 hb')
    have lt : ∀ m : Nat, m < xs.length → rd xs (m : Int) < rd xs (k : Int) → m < k := fun m hm hlt => by
      rcases Nat.lt_trichotomy m k with c | c | c
      · exact c
      · subst c; omega
      · have := hst k m c hm; omega
    have li := lt i hi (by omega)
    have lj := lt j hj (by omega)
    by_cases c : i ≤ j
    · exact ⟨i, j, c, lj, by omega⟩
    · exact ⟨j, i, by omega, li, by omega⟩
def copAns (n : Int) (ss : List St) (os : List Int) : List Int × Bool := if planOk n ss os = true ∧ n = 1 then (inc (es ss), true) else ([], false)
theorem ne_false (n : Int) (h : n = 1) : (n != 1) = false := by subst h; rfl
theorem ne_true (n : Int) (h : ¬ n = 1) : (n != 1) = true := by simp [h]
theorem copImpl_ev (n : Int) (ss : List St) (os : List Int) : Ev (fun k => impl_ChainOfPlan.f k n ss os) (copAns n ss os) := by
  unfold impl_ChainOfPlan.f copAns
  refine ev_bind (isPlan_ev n ss os) ?_
  have fin : Ev (fun k => impl_ChainOfPlan.j0 k true n ss os) (([], false) : List Int × Bool) := by
    refine ev_shift ?_
    simp only [impl_ChainOfPlan.j0, if_true]
    exact Ev.now _
  by_cases c : planOk n ss os = true
  · simp only [c, if_true]
    by_cases c1 : n = 1
    · rw [if_pos ⟨trivial, c1⟩, ne_false n c1]
      obtain ⟨m, em, h1, h2, h3, h4, ho, hos, hb⟩ := planOk_of c
      obtain rfl : m = 1 := by omega
      subst em
      have g := exps_G ss ho
      have hlr : (exps 1 ss).length = 1 + ss.length := (exps_ok 1 ss ho).1
      have hf : (exps 1 ss).flatten = es ss := flat_es _ (fun r hr => by obtain ⟨e, e1, _⟩ := g.2 r hr; exact ⟨e, e1⟩)
      have hel : (es ss).length = 1 + ss.length := by unfold es; rw [List.length_map, hlr]
      have hcc : slices_Concat_int_int.f (exps 1 ss) = some (es ss) := by
        unfold slices_Concat_int_int.f
        rw [hf, if_pos ⟨by omega, by omega⟩]
      have hii : impl_increasing.f (es ss) = some (inc (es ss)) := by
        unfold impl_increasing.f inc
        rw [if_pos ⟨by omega, by omega⟩]
      refine ev_shift ?_
      simp only [impl_ChainOfPlan.j0, Bool.false_eq_true, if_false]
      refine ev_bind (exponents_ev 1 ss os (by omega) h3 ho) ?_
      simp only [hcc, hii, Option.bind_some]
      exact Ev.now _
    · rw [if_neg (fun h => c1 h.2), ne_true n c1]
      exact fin
  · rw [if_neg (fun h => c h.1)]
    simp only [if_neg c]
    exact fin
def outOf (xs : List Int) : List Int := [(xs.length : Int) - 1]
theorem chPlan_ok (xs : List Int) (c : chain xs = true) : planOk 1 (stepsOf xs) (outOf xs) = true := by
  have hf := chain_from xs c
  exact chain_planOk xs c (outOf xs) (by unfold outOf; simp) (fun j hj => by
    obtain rfl : j = 0 := by unfold outOf at hj; simpa using hj
    show 0 ≤ (xs.length : Int) - 1 ∧ (xs.length : Int) - 1 ≤ (xs.length : Int) - 1
    omega)
theorem chPlan_ev (xs : List Int) (c : chain xs = true) : Ev (fun k => impl_ChainPlan.f k xs) (1, stepsOf xs, outOf xs, true) := by
  have hf := chain_from xs c
  have hok := chPlan_ok xs c
  unfold impl_ChainPlan.f impl_chainPlan.f
  refine ev_bind (isChain_ev xs (by omega)) ?_
  simp only [c, if_true, Option.bind_assoc, Option.bind_some, w64 (show -9223372036854775808 ≤ (xs.length : Int) - 1 by omega) (by omega)]
  refine ev_bind (chainSteps_ev xs c) ?_
  unfold impl_told.f
  simp only [Option.bind_assoc]
  refine ev_bind (isPlan_ev 1 (stepsOf xs) (outOf xs)) ?_
  simp only [hok, if_true]
  exact Ev.now _
theorem outRow_ev (n : Nat) (ss : List St) (v : Int) (hn : n ≤ 6) (hs : ss.length ≤ 40) (ho : InOrder n ss) (h0 : 0 ≤ v) (h1 : v < (n : Int) + ss.length) : Ev (fun k => impl_Plan_outputExponents.f k n ss [v]) [rd_L3 (exps n ss) v] := by
  obtain ⟨hl, hok⟩ := exps_ok n ss ho
  have hrow := (hok _ (rd_mem (exps n ss) v h0 (by rw [hl]; omega))).1
  have r0 : rd [v] 0 = v := rfl
  unfold impl_Plan_outputExponents.f
  refine ev_bind (exponents_ev n ss [v] hn hs ho) ?_
  refine ev_shift ?_
  simp only [impl_Plan_outputExponents.l0, List.length_singleton, if_pos (show (0 : Int) < ((1 : Nat) : Int) by decide), if_pos (show (0 : Int) ≤ 0 by decide), r0, if_pos h0, if_pos (show v < ((exps n ss).length : Int) by rw [hl]; omega), clone_eq (rd_L3 (exps n ss) v) (by omega), Option.bind_some, List.length_nil, if_pos (show 0 < 5864062014805 by decide), w64 (show -9223372036854775808 ≤ (0 : Int) + 1 by omega) (by omega), List.nil_append]
  refine ev_shift ?_
  simp only [impl_Plan_outputExponents.l0, List.length_singleton, if_neg (show ¬ (0 : Int) + 1 < ((1 : Nat) : Int) by decide)]
  exact Ev.now _
/-! what is drawn from bytes -/
theorem u8_of {x : Int} (h : (Lit.int .u8 x).wf = true) : 0 ≤ x ∧ x ≤ 255 := by
  simpa [Lit.wf, IntKind.min, IntKind.max, IntKind.signed, IntKind.bits] using h
theorem rd_u8 {code : List Int} (hc : ∀ x ∈ code, 0 ≤ x ∧ x ≤ 255) (i : Int) : 0 ≤ rd code i ∧ rd code i ≤ 255 := by
  unfold rd
  by_cases h : i.toNat < code.length
  · have := hc _ (List.getElem_mem h)
    simpa [List.getD, h] using this
  · simp [List.getD, h]
theorem u64_low (x : Int) : 0 ≤ wrap64 (Go.bits .and .u64 (IntKind.u64.wrap x / 1099511627776) 255) ∧ wrap64 (Go.bits .and .u64 (IntKind.u64.wrap x / 1099511627776) 255) ≤ 255 := by
  have h : 0 ≤ IntKind.u64.wrap x / 1099511627776 ∧ IntKind.u64.wrap x / 1099511627776 < 2 ^ 32 := by rw [IntKind.wrap_u64]; omega
  generalize IntKind.u64.wrap x / 1099511627776 = y at h ⊢
  have e : Go.bits .and .u64 y (2 ^ 8 - 1) = y % 2 ^ 8 := bits_mask .u64 32 (by decide) (fun n a b => by rw [IntKind.wrap_u64]; omega) 8 (by decide) y h.1 h.2
  rw [show (255 : Int) = 2 ^ 8 - 1 by decide, e, w64 (by omega) (by omega)]
  omega
theorem next_ok {code : List Int} (hc : ∀ x ∈ code, 0 ≤ x ∧ x ≤ 255) (at_ seed : Int) (h0 : 0 ≤ at_) (h1 : at_ ≤ 1000000000) : ∃ v s, spec_l1Cur_next.f code at_ seed = some (v, at_ + 1, s) ∧ 0 ≤ v ∧ v ≤ 255 := by
  unfold spec_l1Cur_next.f
  have w1 : wrap64 (at_ + 1) = at_ + 1 := w64 (by omega) (by omega)
  obtain ⟨r0, r1⟩ := rd_u8 hc at_
  rw [w1]
  by_cases c : at_ < (code.length : Int)
  · rw [if_pos c, if_pos h0]
    by_cases d : at_ + 1 ≤ (code.length : Int)
    · rw [if_pos d, w64 (by omega) (by omega)]
      exact ⟨_, _, rfl, r0, r1⟩
    · rw [if_neg d]
      exact ⟨_, _, rfl, u64_low _⟩
  · rw [if_neg c]
    by_cases d : at_ + 1 ≤ (code.length : Int)
    · rw [if_pos d]
      exact ⟨_, _, rfl, by omega, by omega⟩
    · rw [if_neg d]
      exact ⟨_, _, rfl, u64_low _⟩
theorem pick_ok {code : List Int} (hc : ∀ x ∈ code, 0 ≤ x ∧ x ≤ 255) (at_ seed n : Int) (h0 : 0 ≤ at_) (h1 : at_ ≤ 999999000) : ∃ v a s, spec_l1Cur_pick.f code at_ seed n = some (v, a, s) ∧ 0 ≤ v ∧ (v < n ∨ v = 0) ∧ at_ ≤ a ∧ a ≤ at_ + 2 := by
  unfold spec_l1Cur_pick.f
  by_cases c : n ≤ 1
  · rw [if_pos c]
    exact ⟨_, _, _, rfl, by omega, .inr rfl, by omega, by omega⟩
  · rw [if_neg c]
    obtain ⟨v, s, e, v0, v1⟩ := next_ok hc at_ seed h0 (by omega)
    rw [e, Option.bind_some]
    by_cases d : n > 200
    · rw [if_pos d]
      obtain ⟨v', s', e', v0', v1'⟩ := next_ok hc (at_ + 1) s (by omega) (by omega)
      show ∃ v a s, ((spec_l1Cur_next.f code (at_ + 1) _).bind _) = _ ∧ _
      rw [e', Option.bind_some, if_neg (show ¬ n = 0 by omega), w64 (show -9223372036854775808 ≤ v * 256 by omega) (by omega)]
      have hp : 0 ≤ v * 256 + v' := by omega
      rw [w64 (by omega) (by omega)]
      refine ⟨_, _, _, rfl, Int.tmod_nonneg _ hp, .inl ?_, by show at_ ≤ at_ + 1 + 1; omega, by show at_ + 1 + 1 ≤ _; omega⟩
      exact Int.tmod_lt_of_pos _ (by omega)
    · rw [if_neg d, if_neg (show ¬ n = 0 by omega)]
      refine ⟨_, _, _, rfl, Int.tmod_nonneg _ v0, .inl ?_, by show at_ ≤ at_ + 1; omega, by show at_ + 1 ≤ _; omega⟩
      exact Int.tmod_lt_of_pos _ (by omega)
theorem one_ok {code : List Int} (hc : ∀ x ∈ code, 0 ≤ x ∧ x ≤ 255) (at_ seed n : Int) (h0 : 0 ≤ at_) (h1 : at_ ≤ 999999000) : ∃ v a s, spec_l1Cur_one.f code at_ seed n = some (v, a, s) ∧ at_ ≤ a ∧ a ≤ at_ + 2 := by
  unfold spec_l1Cur_one.f
  obtain ⟨v, a, s, e, _, _, a1, a2⟩ := pick_ok hc at_ seed n h0 h1
  rw [e]
  exact ⟨_, _, _, rfl, a1, a2⟩
/-! a list that is drawn, a chain mostly -/
theorem put_ev (xs : List Int) (v : Int) (hl : xs.length ≤ 1000) (hn : xs ≠ []) : ∃ ys : List Int, ys ≠ [] ∧ ys.length ≤ xs.length + 1 ∧ Ev (fun k => spec_l1Put.f k xs v) ys := by
  have fin : ∀ i : Nat, i ≤ xs.length → (([] ++ xs.take i) ++ [v]) ++ xs.drop i ≠ [] ∧ ((([] ++ xs.take i) ++ [v]) ++ xs.drop i).length ≤ xs.length + 1 := fun i hi => by
    refine ⟨by simp, ?_⟩
    simp only [List.nil_append, List.length_append, List.length_take, List.length_drop, List.length_singleton]
    omega
  have loop : ∀ (d i : Nat), i + d = xs.length → ∃ ys : List Int, ys ≠ [] ∧ ys.length ≤ xs.length + 1 ∧ Ev (fun k => spec_l1Put.l0 k xs v i) ys := by
    intro d
    induction d with
    | zero =>
      intro i hd
      obtain ⟨f1, f2⟩ := fin i (by omega)
      refine ⟨_, f1, f2, ev_shift ?_⟩
      have l1 : ([] ++ xs.take i : List Int).length ≤ 1000 := by simp only [List.nil_append, List.length_take]; omega
      have l2 : (([] ++ xs.take i : List Int) ++ [v]).length ≤ 1001 := by rw [List.length_append, List.length_singleton]; omega
      simp only [spec_l1Put.l0, if_neg (show ¬ (i : Int) < (xs.length : Int) by omega), Option.bind_some, if_pos (show (0 : Int) ≤ (i : Int) by omega), if_pos (show (i : Int) ≤ (xs.length : Int) by omega), Int.toNat_natCast, if_pos (show ([] : List Int).length + (xs.take i).length < 17592186044416 by rw [List.length_take]; simp only [List.length_nil]; omega), if_pos (show ([] ++ xs.take i : List Int).length < 17592186044416 by omega), if_pos (show (([] ++ xs.take i : List Int) ++ [v]).length + (xs.drop i).length < 17592186044416 by rw [List.length_drop]; omega)]
      exact Ev.now _
    | succ d ih =>
      intro i hd
      obtain ⟨ys, y1, y2, y3⟩ := ih (i + 1) (by omega)
      by_cases c : rd xs (i : Int) < v
      · refine ⟨ys, y1, y2, ev_shift ?_⟩
        simp only [spec_l1Put.l0, if_pos (show (i : Int) < (xs.length : Int) by omega), if_pos (show (0 : Int) ≤ (i : Int) by omega), if_pos c, w64 (show -9223372036854775808 ≤ (i : Int) + 1 by omega) (by omega)]
        exact y3
      · by_cases e : rd xs (i : Int) = v
        · refine ⟨xs, hn, by omega, ev_shift ?_⟩
          simp only [spec_l1Put.l0, if_pos (show (i : Int) < (xs.length : Int) by omega), if_pos (show (0 : Int) ≤ (i : Int) by omega), if_neg c, if_pos e]
          exact Ev.now _
        · obtain ⟨f1, f2⟩ := fin i (by omega)
          refine ⟨_, f1, f2, ev_shift ?_⟩
          have l1 : ([] ++ xs.take i : List Int).length ≤ 1000 := by simp only [List.nil_append, List.length_take]; omega
          have l2 : (([] ++ xs.take i : List Int) ++ [v]).length ≤ 1001 := by rw [List.length_append, List.length_singleton]; omega
          simp only [spec_l1Put.l0, if_pos (show (i : Int) < (xs.length : Int) by omega), if_neg c, if_neg e, Option.bind_some, if_pos (show (0 : Int) ≤ (i : Int) by omega), if_pos (show (i : Int) ≤ (xs.length : Int) by omega), Int.toNat_natCast, if_pos (show ([] : List Int).length + (xs.take i).length < 17592186044416 by rw [List.length_take]; simp only [List.length_nil]; omega), if_pos (show ([] ++ xs.take i : List Int).length < 17592186044416 by omega), if_pos (show (([] ++ xs.take i : List Int) ++ [v]).length + (xs.drop i).length < 17592186044416 by rw [List.length_drop]; omega)]
          exact Ev.now _
  exact loop xs.length 0 (by omega)
theorem drawChain_ev (B : Int) (B0 : 0 ≤ B) (B1 : B ≤ 100000000) {code : List Int} (hc : ∀ x ∈ code, 0 ≤ x ∧ x ≤ 255) (at_ seed n : Int) (h0 : 0 ≤ at_) (h1 : at_ ≤ B + 100000) (hn : n ≤ 100) (hn0 : 0 ≤ n) : ∃ (ys : List Int) (a s : Int), ys ≠ [] ∧ ys.length ≤ 200 ∧ 0 ≤ a ∧ a ≤ B + 500000 ∧ Ev (fun k => spec_l1Cur_chain.f k code at_ seed n) (ys, a, s) := by
  unfold spec_l1Cur_chain.f
  obtain ⟨m, q, t, e, m0, m1, q1, q2⟩ := pick_ok hc at_ seed (wrap64 (n + 1)) h0 (by omega)
  rw [w64 (by omega) (by omega)] at e m1
  simp only [w64 (show -9223372036854775808 ≤ n + 1 by omega) (by omega), e, Option.bind_some]
  have loop : ∀ (d : Nat) (xs : List Int) (at_ seed : Int), d ≤ 101 → xs ≠ [] → xs.length + d ≤ 150 → 0 ≤ at_ → at_ + 100 * (d : Int) ≤ B + 400000 → ∃ (ys : List Int) (a s : Int), ys ≠ [] ∧ ys.length ≤ 200 ∧ 0 ≤ a ∧ a ≤ B + 500000 ∧ Ev (fun k => spec_l1Cur_chain.l0 k xs d code at_ seed) (ys, a, s) := by
    intro d
    induction d with
    | zero =>
      intro xs at_ seed hd hx hl h0 h1
      refine ⟨xs, at_, seed, hx, by omega, h0, by omega, ev_shift ?_⟩
      simp only [spec_l1Cur_chain.l0, if_neg (show ¬ ((0 : Nat) : Int) > 0 by omega)]
      exact Ev.now _
    | succ d ih =>
      intro xs at_ seed hd hx hl h0 h1
      have hp := List.length_pos_iff.2 hx
      obtain ⟨b, q, t, e, q1, q2⟩ := one_ok hc at_ seed 4 h0 (by omega)
      have hw : wrap64 (((d + 1 : Nat) : Int) - 1) = (d : Int) := by rw [show ((d + 1 : Nat) : Int) - 1 = (d : Int) by omega]; exact w64 (by omega) (by omega)
      have step : ∀ (x : Int) (q t : Int), 0 ≤ q → q + 100 * (d : Int) ≤ B + 399950 → ∃ (ys : List Int) (a s : Int), ys ≠ [] ∧ ys.length ≤ 200 ∧ 0 ≤ a ∧ a ≤ B + 500000 ∧ Ev (fun k => spec_l1Cur_chain.j1 k xs ((d + 1 : Nat) : Int) x code q t) (ys, a, s) := by
        intro x q t g0 g1
        obtain ⟨v, q', t', e', v0, v1, r1, r2⟩ := pick_ok hc q t xs.length g0 (by omega)
        by_cases c : wrap64 (x + rd xs v) ≤ 1000000
        · obtain ⟨zs, z1, z2, z3⟩ := put_ev xs (wrap64 (x + rd xs v)) (by omega) hx
          obtain ⟨ys, a, s, y1, y2, y3, y4, y5⟩ := ih zs q' t' (by omega) z1 (by omega) (by omega) (by omega)
          refine ⟨ys, a, s, y1, y2, y3, y4, ev_shift ?_⟩
          simp only [spec_l1Cur_chain.j1, e', Option.bind_some, if_pos v0, if_pos (show v < (xs.length : Int) by omega), if_pos c, hw]
          exact ev_bind z3 y5
        · obtain ⟨ys, a, s, y1, y2, y3, y4, y5⟩ := ih xs q' t' (by omega) hx (by omega) (by omega) (by omega)
          refine ⟨ys, a, s, y1, y2, y3, y4, ev_shift ?_⟩
          simp only [spec_l1Cur_chain.j1, e', Option.bind_some, if_pos v0, if_pos (show v < (xs.length : Int) by omega), if_neg c, hw]
          exact y5
      have w1 : wrap64 ((xs.length : Int) - 1) = (xs.length : Int) - 1 := w64 (by omega) (by omega)
      cases b with
      | true =>
        obtain ⟨v, q', t', e', v0, v1, r1, r2⟩ := pick_ok hc q t xs.length (by omega) (by omega)
        obtain ⟨ys, a, s, y1, y2, y3, y4, y5⟩ := step (rd xs v) q' t' (by omega) (by omega)
        refine ⟨ys, a, s, y1, y2, y3, y4, ev_shift ?_⟩
        simp only [spec_l1Cur_chain.l0, if_pos (show ((d + 1 : Nat) : Int) > 0 by omega), w1, if_pos (show (0 : Int) ≤ (xs.length : Int) - 1 by omega), if_pos (show (xs.length : Int) - 1 < (xs.length : Int) by omega), e, e', Option.bind_some, if_true, if_pos v0, if_pos (show v < (xs.length : Int) by omega)]
        exact y5
      | false =>
        obtain ⟨ys, a, s, y1, y2, y3, y4, y5⟩ := step (rd xs ((xs.length : Int) - 1)) q t (by omega) (by omega)
        refine ⟨ys, a, s, y1, y2, y3, y4, ev_shift ?_⟩
        simp only [spec_l1Cur_chain.l0, if_pos (show ((d + 1 : Nat) : Int) > 0 by omega), w1, if_pos (show (0 : Int) ≤ (xs.length : Int) - 1 by omega), if_pos (show (xs.length : Int) - 1 < (xs.length : Int) by omega), e, Option.bind_some, Bool.false_eq_true, if_false]
        exact y5
  obtain ⟨r, rfl⟩ := Int.eq_ofNat_of_zero_le m0
  exact loop r [1] q t (by omega) (by simp) (by simp; omega) (by omega) (by omega)
theorem drawAny_ev (B : Int) (B0 : 0 ≤ B) (B1 : B ≤ 100000000) {code : List Int} (hc : ∀ x ∈ code, 0 ≤ x ∧ x ≤ 255) (at_ seed n : Int) (h0 : 0 ≤ at_) (h1 : at_ ≤ B + 100000) (hn : n ≤ 100) (hn0 : 0 ≤ n) : ∃ (ys : List Int) (a s : Int), ys.length ≤ 1000 ∧ 0 ≤ a ∧ a ≤ B + 1000000 ∧ Ev (fun k => spec_l1Cur_anyChain.f k code at_ seed n) (ys, a, s) := by
  unfold spec_l1Cur_anyChain.f
  obtain ⟨xs, q, t, x1, x2, x3, x4, x5⟩ := drawChain_ev B B0 B1 hc at_ seed n h0 h1 hn hn0
  have hp := List.length_pos_iff.2 x1
  obtain ⟨v, q', t', e, v0, v1, r1, r2⟩ := pick_ok hc q t 14 x3 (by omega)
  by_cases c0 : v = 0
  · obtain ⟨i, q2, t2, e2, i0, i1, s1, s2⟩ := pick_ok hc q' t' xs.length (by omega) (by omega)
    obtain ⟨j, q3, t3, e3, _, _, u1, u2⟩ := pick_ok hc q2 t2 3 (by omega) (by omega)
    refine ⟨xs.set i.toNat (wrap64 (rd xs i + wrap64 (j - 1))), q3, t3, ?_, by omega, by omega, ev_bind x5 ?_⟩
    rotate_left
    · simp only [e, Option.bind_some, if_pos c0, e2, if_pos i0, if_pos (show i < (xs.length : Int) by omega), e3]
      exact Ev.now _
    · rw [List.length_set]; omega
  · by_cases c1 : v = 1
    · obtain ⟨i, q2, t2, e2, i0, i1, s1, s2⟩ := pick_ok hc q' t' 40 (by omega) (by omega)
      refine ⟨xs ++ [i], q2, t2, ?_, by omega, by omega, ev_bind x5 ?_⟩
      rotate_left
      · simp only [e, Option.bind_some, if_neg c0, if_pos c1, e2, if_pos (show xs.length < 17592186044416 by omega)]
        exact Ev.now _
      · rw [List.length_append, List.length_singleton]; omega
    · by_cases c2 : v = 2
      · refine ⟨[], q', t', by simp, by omega, by omega, ev_bind x5 ?_⟩
        simp only [e, Option.bind_some, if_neg c0, if_neg c1, if_pos c2]
        exact Ev.now _
      · by_cases c3 : v = 3
        · have loop : ∀ (d : Nat) (zs : List Int) (at_ seed : Int), zs.length + d = 42 → 0 ≤ at_ → at_ + 10 * (d : Int) ≤ B + 900000 → ∃ (ys : List Int) (a s : Int), ys.length ≤ 1000 ∧ 0 ≤ a ∧ a ≤ B + 1000000 ∧ Ev (fun k => spec_l1Cur_anyChain.l0 k zs code at_ seed) (ys, a, s) := by
            intro d
            induction d with
            | zero =>
              intro zs at_ seed hz h0 h1
              obtain ⟨b, q2, t2, e2, b0, b1, s1, s2⟩ := pick_ok hc at_ seed 2 h0 (by omega)
              refine ⟨zs, q2, t2, by omega, by omega, by omega, ev_shift ?_⟩
              simp only [spec_l1Cur_anyChain.l0, e2, Option.bind_some, w64 (show -9223372036854775808 ≤ 41 + b by omega) (by omega), if_neg (show ¬ (zs.length : Int) < 41 + b by omega)]
              exact Ev.now _
            | succ d ih =>
              intro zs at_ seed hz h0 h1
              obtain ⟨b, q2, t2, e2, b0, b1, s1, s2⟩ := pick_ok hc at_ seed 2 h0 (by omega)
              by_cases c : (zs.length : Int) < 41 + b
              · obtain ⟨ys, a, s, y2, y3, y4, y5⟩ := ih (zs ++ [wrap64 ((zs.length : Int) + 1)]) q2 t2 (by rw [List.length_append, List.length_singleton]; omega) (by omega) (by omega)
                refine ⟨ys, a, s, y2, y3, y4, ev_shift ?_⟩
                simp only [spec_l1Cur_anyChain.l0, e2, Option.bind_some, w64 (show -9223372036854775808 ≤ 41 + b by omega) (by omega), if_pos c, if_pos (show zs.length < 17592186044416 by omega)]
                exact y5
              · refine ⟨zs, q2, t2, by omega, by omega, by omega, ev_shift ?_⟩
                simp only [spec_l1Cur_anyChain.l0, e2, Option.bind_some, w64 (show -9223372036854775808 ≤ 41 + b by omega) (by omega), if_neg c]
                exact Ev.now _
          obtain ⟨ys, a, s, y2, y3, y4, y5⟩ := loop 42 [] q' t' (by simp) (by omega) (by omega)
          refine ⟨ys, a, s, y2, y3, y4, ev_bind x5 ?_⟩
          simp only [e, Option.bind_some, if_neg c0, if_neg c1, if_neg c2, if_pos c3]
          exact y5
        · by_cases c4 : v = 4
          · obtain ⟨i, q2, t2, e2, i0, i1, s1, s2⟩ := pick_ok hc q' t' 4 (by omega) (by omega)
            refine ⟨[1, 2, 4, 8, 16, 32, 64, 128, 256, 512, 1024, 2048, 4096, 8192, 16384, 32768, 65536, 131072, 262144, 524288] ++ [786432, wrap64 (786432 + wrap64 (131072 * i))], q2, t2, ?_, by omega, by omega, ev_bind x5 ?_⟩
            rotate_left
            · simp only [e, Option.bind_some, if_neg c0, if_neg c1, if_neg c2, if_neg c3, if_pos c4, e2, List.length_cons, List.length_nil, Nat.reduceAdd, if_pos (show 22 < 17592186044416 by decide)]
              exact Ev.now _
            · simp
          · refine ⟨xs, q', t', by omega, by omega, by omega, ev_bind x5 ?_⟩
            simp only [e, Option.bind_some, if_neg c0, if_neg c1, if_neg c2, if_neg c3, if_neg c4]
            exact Ev.now _
theorem sameInts_ev (l : List Int) (hl : l.length ≤ 1000000) : Ev (fun k => laws_pSameInts.f k l l) true := by
  have loop : ∀ (d i : Nat), i + d = l.length → Ev (fun k => laws_pSameInts.l0 k l l l.length i) true := by
    intro d
    induction d with
    | zero =>
      intro i hd
      refine ev_shift ?_
      simp only [laws_pSameInts.l0, if_neg (show ¬ (i : Int) < (l.length : Int) by omega)]
      exact Ev.now _
    | succ d ih =>
      intro i hd
      refine ev_shift ?_
      simp only [laws_pSameInts.l0, if_pos (show (i : Int) < (l.length : Int) by omega), if_pos (show (0 : Int) ≤ (i : Int) by omega), if_true, w64 (show -9223372036854775808 ≤ (i : Int) + 1 by omega) (by omega)]
      exact ih (i + 1) (by omega)
  unfold laws_pSameInts.f
  simp only [if_true]
  exact loop l.length 0 (by omega)
theorem sameSteps_ev (l : List St) (hl : l.length ≤ 1000000) : Ev (fun k => laws_pSameSteps.f k l l) true := by
  have loop : ∀ (d i : Nat), i + d = l.length → Ev (fun k => laws_pSameSteps.l0 k l l l.length i) true := by
    intro d
    induction d with
    | zero =>
      intro i hd
      refine ev_shift ?_
      simp only [laws_pSameSteps.l0, if_neg (show ¬ (i : Int) < (l.length : Int) by omega)]
      exact Ev.now _
    | succ d ih =>
      intro i hd
      refine ev_shift ?_
      simp only [laws_pSameSteps.l0, if_pos (show (i : Int) < (l.length : Int) by omega), if_pos (show (0 : Int) ≤ (i : Int) by omega), beq_self_eq_true, Bool.not_true, Bool.or_self, Bool.false_eq_true, if_false, w64 (show -9223372036854775808 ≤ (i : Int) + 1 by omega) (by omega)]
      exact ih (i + 1) (by omega)
  unfold laws_pSameSteps.f
  simp only [if_true]
  exact loop l.length 0 (by omega)
theorem samePlan_ev (n : Int) (ss : List St) (os : List Int) (h1 : ss.length ≤ 1000000) (h2 : os.length ≤ 1000000) : Ev (fun k => laws_pSamePlan.f k n ss os n ss os) true := by
  unfold laws_pSamePlan.f
  simp only [if_true]
  refine ev_bind (sameSteps_ev ss h1) ?_
  simp only [if_true]
  exact ev_bind (sameInts_ev os h2) (Ev.now _)
theorem chain_each (xs : List Int) : ∀ (d : Nat) (i : Int), 1 ≤ i → 1 ≤ rd xs (i - 1) → implFrom xs d i = true → ∀ j : Int, i ≤ j → j < i + d → 1 ≤ rd xs j ∧ rd xs j ≤ 1000000
  | 0, _, _, _, _ => fun j h1 h2 => by omega
  | d + 1, i, h0, h1, h => fun j h2 h3 => by
    obtain ⟨_, h', h4, h5⟩ := implFrom_head xs d i h
    by_cases e : j = i
    · subst e; omega
    · exact chain_each xs d (i + 1) (by omega) (by rw [show i + 1 - 1 = i by omega]; omega) h' j (by omega) (by omega)
theorem chain_nums (xs : List Int) (h : chain xs = true) : ∀ x ∈ xs, 1 ≤ x ∧ x ≤ 1000000 := by
  obtain ⟨h1, h2, h3, h4⟩ := chain_from xs h
  intro x hx
  obtain ⟨j, hj, rfl⟩ := List.getElem_of_mem hx
  have e : rd xs (j : Int) = xs[j] := by simp [rd, List.getD, hj]
  rw [← e]
  by_cases e0 : j = 0
  · subst e0
    rw [show ((0 : Nat) : Int) = 0 from rfl, h3]; omega
  · exact chain_each xs _ 1 (by omega) (by rw [show (1 : Int) - 1 = 0 from rfl, h3]; omega) h4 j (by omega) (by omega)
theorem specPlan_ev (xs : List Int) (hl : xs.length ≤ 1048576) (c : chain xs = true) : Ev (fun k => spec_ChainPlan.f k xs) (1, stepsOf xs, outOf xs, true) := by
  have hf := chain_from xs c
  unfold spec_ChainPlan.f spec_chPlan.f
  refine ev_bind (chGood_ev xs hl) ?_
  simp only [c, if_true, Option.bind_assoc, Option.bind_some, w64 (show -9223372036854775808 ≤ (xs.length : Int) - 1 by omega) (by omega)]
  exact ev_bind (chSteps_ev xs c) (Ev.now _)
theorem back_ev (xs : List Int) (ho : chain xs = true) : Ev (fun k => impl_ChainOfPlan.f k 1 (stepsOf xs) (outOf xs)) (xs, true) := by
  have h := copImpl_ev 1 (stepsOf xs) (outOf xs)
  have e : copAns 1 (stepsOf xs) (outOf xs) = (xs, true) := by
    unfold copAns
    rw [if_pos ⟨chPlan_ok xs ho, rfl⟩]
    have e1 : es (stepsOf xs) = xs := by
      unfold es
      rw [chain_exps xs ho, List.map_map]
      exact (List.map_congr_left (fun a _ => rfl)).trans (List.map_id _)
    obtain ⟨q1, q2⟩ := inc_fact (es (stepsOf xs))
    have e2 : inc (es (stepsOf xs)) = xs := strict_eq _ _ q1 (chain_strict _ ho) (fun x => by
      rw [show (x ∈ inc (es (stepsOf xs))) = (x ∈ Go.Lib.compact ((es (stepsOf xs)).mergeSort fun x y => decide (x ≤ y))) from rfl, q2, e1])
    rw [e2]
  rw [e] at h
  exact h
theorem ends_ev (xs : List Int) (ho : chain xs = true) : Ev (fun k => laws_pEnds.f k 1 (stepsOf xs) (outOf xs) (rd xs ((xs.length : Int) - 1))) true := by
  obtain ⟨o1, o2, _⟩ := chain_from _ ho
  have hl : (stepsOf xs).length = xs.length - 1 := by unfold stepsOf; rw [stepsFrom_length]
  have hr := outRow_ev 1 (stepsOf xs) ((xs.length : Int) - 1) (by omega) (by omega) (chain_order xs ho) (by omega) (by omega)
  have er : rd_L3 (exps 1 (stepsOf xs)) ((xs.length : Int) - 1) = [rd xs ((xs.length : Int) - 1)] := by
    rw [chain_exps xs ho, show (xs.length : Int) - 1 = ((xs.length - 1 : Nat) : Int) by omega, rd_nat]
    unfold rd_L3
    rw [Int.toNat_natCast]
    simp [List.getD, show xs.length - 1 < xs.length by omega]
  rw [er] at hr
  generalize rd xs ((xs.length : Int) - 1) = z at hr
  unfold laws_pEnds.f impl_OutputExponents.f
  simp only [Option.bind_assoc]
  refine ev_bind (isPlan_ev 1 (stepsOf xs) (outOf xs)) ?_
  simp only [chPlan_ok xs ho, if_true, Option.bind_assoc, Option.bind_some]
  refine ev_bind hr ?_
  have e0 : rd_L3 [[z]] 0 = [z] := rfl
  have e1 : rd [z] 0 = z := rfl
  simp only [List.length_singleton, if_pos (show ((1 : Nat) : Int) = 1 from rfl), if_pos (show (0 : Int) < ((1 : Nat) : Int) by decide), e0, e1, beq_self_eq_true]
  exact Ev.now _
theorem fit_of (xs : List Int) (ho : chain xs = true) : Go.Proofs.YtlefjgpkabijdaaGreatDoor.CW.Fit xs := by
  obtain ⟨o1, o2, _⟩ := chain_from _ ho
  have hx := chain_nums xs ho
  have hj := Go.Proofs.YtlefjgpkabijdaaGreatDoor.CN.join_eight xs hx
  exact ⟨by omega, by omega, hx, by omega⟩
theorem toText_ev (xs : List Int) (ho : chain xs = true) : Ev (fun k => impl_ChainText.f k xs) (Go.Proofs.YtlefjgpkabijdaaGreatDoor.CW.text xs, true) := by
  obtain ⟨o1, o2, _⟩ := chain_from _ ho
  have h := isChain_ev xs (by omega)
  rw [ho] at h
  unfold impl_ChainText.f
  refine ev_bind h ?_
  simp only [if_true, if_pos (fit_of xs ho)]
  exact Ev.now _
theorem ofText_ev (xs : List Int) (ho : chain xs = true) : Ev (fun k => impl_ParseChain.f k (Go.Proofs.YtlefjgpkabijdaaGreatDoor.CW.text xs)) (xs, true) := by
  obtain ⟨o1, o2, _⟩ := chain_from _ ho
  have hx := chain_nums xs ho
  have h := isChain_ev xs (by omega)
  rw [ho] at h
  have hs := Go.Proofs.YtlefjgpkabijdaaGreatDoor.CN.text_size xs hx
  have hn := Go.Proofs.YtlefjgpkabijdaaGreatDoor.CN.nums_text xs (by omega) (by omega) hx
  unfold impl_ParseChain.f
  simp only [if_pos (show (Go.Proofs.YtlefjgpkabijdaaGreatDoor.CW.text xs).size ≤ 1048576 by omega), hn]
  refine ev_bind h ?_
  simp only [if_true, if_pos (fit_of xs ho), beq_self_eq_true]
  exact Ev.now _
theorem law_loop (xs : List Int) (ho : chain xs = true) : ∀ (d j : Nat), j + d = xs.length - 1 → Ev (fun k => laws_FnChainsArePlans.l0 k xs (stepsOf xs) ((stepsOf xs).length : Int) (j : Int)) true := by
  obtain ⟨o1, o2, _⟩ := chain_from _ ho
  have hl : (stepsOf xs).length = xs.length - 1 := by unfold stepsOf; rw [stepsFrom_length]
  intro d
  induction d with
  | zero =>
    intro j hj
    refine ev_shift ?_
    simp only [laws_FnChainsArePlans.l0, if_neg (show ¬ (j : Int) < ((stepsOf xs).length : Int) by omega)]
    refine ev_bind (toText_ev xs ho) ?_
    refine ev_bind (ofText_ev xs ho) ?_
    simp only [if_true]
    exact ev_bind (sameInts_ev xs (by omega)) (Ev.now _)
  | succ d ih =>
    intro j hj
    have hn := ih (j + 1) (by omega)
    obtain ⟨a, b, e, f⟩ := stepOf_fact xs ho j (by omega)
    refine ev_shift ?_
    have hw : wrap64 ((j : Int) + 1) = ((j + 1 : Nat) : Int) := by unfold wrap64; omega
    rw [show (1 : Int) + (j : Int) = ((j + 1 : Nat) : Int) by omega] at f
    unfold rdS at a b e f
    generalize hA : (rd_T41 (stepsOf xs) (j : Int)).f0 = A at a b e f
    generalize hB : (rd_T41 (stepsOf xs) (j : Int)).f1 = B at a b e f
    simp only [laws_FnChainsArePlans.l0, if_pos (show (j : Int) < ((stepsOf xs).length : Int) by omega), if_pos (show (0 : Int) ≤ j by omega), hw, hA, hB, if_pos a, if_pos (show A < (xs.length : Int) by omega), if_pos (show 0 ≤ B by omega), if_pos (show B < (xs.length : Int) by omega), if_pos (show (0 : Int) ≤ ((j + 1 : Nat) : Int) by omega), if_pos (show ((j + 1 : Nat) : Int) < (xs.length : Int) by omega), if_pos f]
    exact hn
theorem FnChainsArePlans : laws_FnChainsArePlans.Pure := by
  intro code more _ _ hcode _ _ _
  have hc : ∀ x ∈ code, 0 ≤ x ∧ x ≤ 255 := fun x hx => u8_of (hcode x hx)
  refine Ev.rounds (r := true) ?_
  obtain ⟨g, hg⟩ : ∃ g, laws_big.f code more = some g := by unfold laws_big.f; split <;> exact ⟨_, rfl⟩
  have e0 : ∀ q : Bool, (q != q) = false := fun q => by cases q <;> rfl
  unfold laws_FnChainsArePlans.f
  simp only [hg, Option.bind_some]
  cases g with
  | true => simp only [if_true]; exact Ev.now _
  | false =>
    obtain ⟨xs, a, s, x1, x2, x3, x4⟩ := drawAny_ev 0 (by omega) (by omega) hc 0 0 9 (by omega) (by omega) (by omega) (by omega)
    have hd : Ev (fun k => spec_DrawChainPlan.f k code) xs := by
      unfold spec_DrawChainPlan.f
      exact ev_bind x4 (Ev.now _)
    simp only [Bool.false_eq_true, if_false]
    refine ev_bind hd ?_
    have hic := isChain_ev xs (by omega)
    by_cases c : chain xs = true
    · obtain ⟨o1, o2, _⟩ := chain_from _ c
      have hl : (stepsOf xs).length = xs.length - 1 := by unfold stepsOf; rw [stepsFrom_length]
      rw [c] at hic
      refine ev_bind (chPlan_ev xs c) ?_
      refine ev_bind (specPlan_ev xs (by omega) c) ?_
      simp only [e0, Bool.false_eq_true, if_false]
      refine ev_bind (samePlan_ev 1 (stepsOf xs) (outOf xs) (by omega) (by unfold outOf; simp)) ?_
      simp only [if_true]
      refine ev_bind hic ?_
      simp only [e0, Bool.false_eq_true, if_false, if_true]
      refine ev_bind (back_ev xs c) ?_
      have hcs : Ev (fun k => impl_ChainSteps.f k xs) (stepsOf xs, true) := by
        unfold impl_ChainSteps.f
        refine ev_bind hic ?_
        simp only [if_true]
        exact ev_bind (chainSteps_ev xs c) (Ev.now _)
      refine ev_bind hcs ?_
      simp only [if_true]
      refine ev_bind (sameInts_ev xs (by omega)) ?_
      simp only [if_true]
      refine ev_bind (sameSteps_ev (stepsOf xs) (by omega)) ?_
      simp only [if_true, w64 (show -9223372036854775808 ≤ (xs.length : Int) - 1 by omega) (by omega), if_pos (show (0 : Int) ≤ (xs.length : Int) - 1 by omega), if_pos (show (xs.length : Int) - 1 < (xs.length : Int) by omega)]
      refine ev_bind (ends_ev xs c) ?_
      simp only [if_true, if_pos (show ((stepsOf xs).length : Int) = (xs.length : Int) - 1 by omega)]
      exact law_loop xs c (xs.length - 1) 0 (by omega)
    · have cf : chain xs = false := by cases h : chain xs with | true => exact absurd h c | false => rfl
      rw [cf] at hic
      have h1 : Ev (fun k => impl_ChainPlan.f k xs) (0, ([] : List St), ([] : List Int), false) := by
        unfold impl_ChainPlan.f
        refine ev_bind hic ?_
        simp only [Bool.false_eq_true, if_false]; exact Ev.now _
      have h2 : Ev (fun k => spec_ChainPlan.f k xs) (0, ([] : List St), ([] : List Int), false) := by
        unfold spec_ChainPlan.f
        refine ev_bind (chGood_ev xs (by omega)) ?_
        simp only [cf, Bool.false_eq_true, if_false]; exact Ev.now _
      refine ev_bind h1 ?_
      refine ev_bind h2 ?_
      simp only [e0, Bool.false_eq_true, if_false]
      refine ev_bind (samePlan_ev 0 [] [] (by simp) (by simp)) ?_
      simp only [if_true]
      refine ev_bind hic ?_
      simp only [e0, Bool.false_eq_true, if_false]
      exact Ev.now _
end Go.Proofs.YtlefjgpkabijdaaGreatDoor.Pure
