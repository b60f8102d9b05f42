/- For every list: SmallSteps of the program answers as the reference does. -/
import Derived.Test.YtailgfeffoimaaaMFnExactSmallStepsx4
namespace Go.Proofs.Ytailgfeffoimaaa.Pure
open Go.RowKit Go.Proofs.Ytailgfeffoimaaa.MFnExactSmallSteps Go.Proofs.YtailgfeffoimaaaW.PrintWords Go.Proofs.YtailgfeffoimaaaW.PrintLast Go.Proofs.YtailgfeffoimaaaW.PrintMore

theorem w64 {x : Int} (h1 : -9223372036854775808 ≤ x) (h2 : x ≤ 9223372036854775807) : wrap64 x = x := by unfold wrap64; omega

theorem rd_nat (xs : List Int) (j : Nat) : rd xs (j : Int) = xs.getD j 0 := by unfold rd; rw [Int.toNat_natCast]

theorem ev_shift {α : Type} {g : Nat → Option α} {r : α} (h : Ev (fun k => g (k + 1)) r) : Ev g r := by
  obtain ⟨K, hK⟩ := h
  refine ⟨K + 1, fun k hk => ?_⟩
  obtain ⟨m, rfl⟩ : ∃ m, k = m + 1 := ⟨k - 1, by omega⟩
  exact hK m (by omega)

theorem ev_bind {α β : Type} {g : Nat → Option α} {F : Nat → α → Option β} {a : α} {r : β} (h : Ev g a) (k : Ev (fun n => F n a) r) : Ev (fun n => (g n).bind (fun x => F n x)) r := Ev.bind h k

theorem ev_some {α : Type} {g : Nat → Option α} {r : α} (h : ∀ k, g k = some r) : Ev g r := ⟨0, fun k _ => h k⟩

theorem eqIntS_same (xs : List Int) (hb : xs.length ≤ 4611686018427387904) : Ev (fun k => laws_eqIntS.f k xs xs) true := by
  have loop : ∀ (d k : Nat) (i : Int), 0 ≤ i → i ≤ xs.length → (xs.length : Int) - i = d → d < k → laws_eqIntS.l0 k xs xs i = some true := by
    intro d
    induction d with
    | zero =>
      intro k i h0 h1 hd hk
      obtain ⟨k, rfl⟩ : ∃ m, k = m + 1 := ⟨k - 1, by omega⟩
      rw [laws_eqIntS.l0, if_neg (by omega)]
    | succ d ih =>
      intro k i h0 h1 hd hk
      obtain ⟨k, rfl⟩ : ∃ m, k = m + 1 := ⟨k - 1, by omega⟩
      rw [laws_eqIntS.l0, if_pos (by omega), if_pos h0, if_pos (by omega), if_pos rfl, w64 (by omega) (by omega)]
      exact ih k (i + 1) (by omega) (by omega) (by omega) (by omega)
  refine ⟨xs.length + 1, fun k hk => ?_⟩
  show laws_eqIntS.f k xs xs = some true
  unfold laws_eqIntS.f
  rw [if_pos rfl]
  exact loop xs.length k 0 (by omega) (by omega) (by omega) (by omega)

theorem toIntS_step (xs : List Int) (i : Nat) (h : i < xs.length) : (xs.take i ++ List.replicate (xs.length - i) 0).set i (xs.getD i 0) = xs.take (i + 1) ++ List.replicate (xs.length - (i + 1)) 0 := by
  have hl : (xs.take i).length = i := by simp; omega
  rw [List.set_append_right _ _ (by omega), hl, Nat.sub_self]
  obtain ⟨m, hm⟩ : ∃ m, xs.length - i = m + 1 := ⟨xs.length - i - 1, by omega⟩
  have hm2 : xs.length - (i + 1) = m := by omega
  have e : xs.getD i 0 = xs[i] := by simp [List.getD, h]
  rw [hm, hm2, List.replicate_succ, List.set_cons_zero, e, List.take_succ_eq_append_getElem h, List.append_assoc]
  rfl

theorem toIntS_ev (xs : List Int) (hb : xs.length ≤ 35184372088832) : Ev (fun k => laws_toIntS.f k xs) xs := by
  have loop : ∀ (d k i : Nat), i ≤ xs.length → xs.length - i = d → d < k → laws_toIntS.l0 k xs (xs.take i ++ List.replicate (xs.length - i) 0) i = some xs := by
    intro d
    induction d with
    | zero =>
      intro k i h1 hd hk
      obtain ⟨k, rfl⟩ : ∃ m, k = m + 1 := ⟨k - 1, by omega⟩
      obtain rfl : i = xs.length := by omega
      rw [laws_toIntS.l0, if_neg (by omega)]
      simp
    | succ d ih =>
      intro k i h1 hd hk
      obtain ⟨k, rfl⟩ : ∃ m, k = m + 1 := ⟨k - 1, by omega⟩
      have hl : (xs.take i ++ List.replicate (xs.length - i) 0).length = xs.length := by simp; omega
      rw [laws_toIntS.l0, if_pos (by omega), if_pos (by omega), hl, if_pos (by omega), Int.toNat_natCast, rd_nat, toIntS_step xs i (by omega), w64 (by omega) (by omega)]
      exact ih k (i + 1) (by omega) (by omega) (by omega)
  refine ⟨xs.length + 1, fun k hk => ?_⟩
  have h := loop xs.length k 0 (by omega) (by omega) (by omega)
  show laws_toIntS.f k xs = some xs
  unfold laws_toIntS.f
  rw [if_pos (by omega), Int.toNat_natCast, if_pos hb]
  simpa using h

abbrev St := S51
def inner (xs : List Int) (k j : Int) : Nat → Int → List St
  | 0, _ => []
  | d + 1, i => if wrap64 (rd xs i + rd xs j) = rd xs k then ⟨i, j⟩ :: inner xs k j d (i + 1) else inner xs k j d (i + 1)
def outer (xs : List Int) (k : Int) : Nat → Int → List St
  | 0, _ => []
  | d + 1, j => inner xs k j (j + 1).toNat 0 ++ outer xs k d (j + 1)
def sumsOf (xs : List Int) (k : Int) : List St := outer xs k k.toNat 0

theorem inner_length (xs : List Int) (k j : Int) : ∀ (d : Nat) (i : Int), (inner xs k j d i).length ≤ d
  | 0, _ => Nat.le_refl _
  | d + 1, i => by
    have := inner_length xs k j d (i + 1)
    unfold inner
    split
    · simp only [List.length_cons]; omega
    · omega

theorem spec_inner (xs : List Int) (k j : Int) (r : List St) (hj : 0 ≤ j) (hjk : j < k) (hk : k < xs.length) (hl : xs.length ≤ 100000) : ∀ (d : Nat) (i : Int) (acc : List St), 0 ≤ i → i + d = j + 1 → acc.length + d ≤ 8000000000000 →
    Ev (fun f => spec_chPairs.l0 f xs k (acc ++ inner xs k j d i) (j + 1)) r → Ev (fun f => spec_chPairs.l1 f xs k acc j i) r := by
  intro d
  induction d with
  | zero =>
    intro i acc hi hd _ h
    refine ev_shift ?_
    simp only [spec_chPairs.l1, if_neg (show ¬ i ≤ j by omega), w64 (show -9223372036854775808 ≤ j + 1 by omega) (by omega)]
    simpa [inner] using h
  | succ d ih =>
    intro i acc hi hd hacc h
    refine ev_shift ?_
    simp only [spec_chPairs.l1, if_pos (show i ≤ j by omega), if_pos hi, if_pos (show i < (xs.length : Int) by omega), if_pos hj, if_pos (show j < (xs.length : Int) by omega), if_pos (show 0 ≤ k by omega), if_pos hk,
      w64 (show -9223372036854775808 ≤ i + 1 by omega) (by omega)]
    by_cases c : wrap64 (rd xs i + rd xs j) = rd xs k
    · simp only [if_pos c, if_pos (show acc.length < 8796093022208 by omega)]
      refine ih (i + 1) (acc ++ [⟨i, j⟩]) (by omega) (by omega) (by simp only [List.length_append, List.length_singleton]; omega) ?_
      simpa [inner, c] using h
    · simp only [if_neg c]
      refine ih (i + 1) acc (by omega) (by omega) (by omega) ?_
      simpa [inner, c] using h

theorem spec_outer (xs : List Int) (k : Int) (hk : k < xs.length) (hl : xs.length ≤ 100000) : ∀ (d : Nat) (j : Int) (acc : List St), 0 ≤ j → j + d = k → acc.length + d * 100001 ≤ 8000000000000 →
    Ev (fun f => spec_chPairs.l0 f xs k acc j) (acc ++ outer xs k d j) := by
  intro d
  induction d with
  | zero =>
    intro j acc hj hd _
    refine ev_shift ?_
    simp only [spec_chPairs.l0, if_neg (show ¬ j < k by omega), outer, List.append_nil]
    exact Ev.now _
  | succ d ih =>
    intro j acc hj hd hacc
    refine ev_shift ?_
    simp only [spec_chPairs.l0, if_pos (show j < k by omega)]
    have hi := inner_length xs k j (j + 1).toNat 0
    refine spec_inner xs k j _ hj (by omega) hk hl (j + 1).toNat 0 acc (by omega) (by omega) (by omega) ?_
    have h := ih (j + 1) (acc ++ inner xs k j (j + 1).toNat 0) (by omega) (by omega) (by rw [List.length_append]; omega)
    simpa [outer] using h

theorem chPairs_ev (xs : List Int) (k : Int) (h0 : 0 ≤ k) (hk : k < xs.length) (hl : xs.length ≤ 100000) : Ev (fun f => spec_chPairs.f f xs k) (sumsOf xs k) := by
  have h := spec_outer xs k hk hl k.toNat 0 [] (by omega) (by omega) (by simp only [List.length_nil]; omega)
  simpa [sumsOf, spec_chPairs.f] using h

theorem impl_inner (xs : List Int) (k j : Int) (r : List St) (hj : 0 ≤ j) (hjk : j < k) (hk : k < xs.length) (hl : xs.length ≤ 100000) : ∀ (d : Nat) (i : Int) (acc : List St), 0 ≤ i → i + d = j + 1 → acc.length + d ≤ 8000000000000 →
    Ev (fun f => impl_sums.l0 f xs k (acc ++ inner xs k j d i) k (j + 1)) r → Ev (fun f => impl_sums.l1 f xs k acc j k j (j + 1) i) r := by
  intro d
  induction d with
  | zero =>
    intro i acc hi hd _ h
    refine ev_shift ?_
    simp only [impl_sums.l1, if_neg (show ¬ i < j + 1 by omega), w64 (show -9223372036854775808 ≤ j + 1 by omega) (by omega)]
    simpa [inner] using h
  | succ d ih =>
    intro i acc hi hd hacc h
    refine ev_shift ?_
    simp only [impl_sums.l1, if_pos (show i < j + 1 by omega), if_pos hi, if_pos (show i < (xs.length : Int) by omega), if_pos hj, if_pos (show j < (xs.length : Int) by omega), if_pos (show 0 ≤ k by omega), if_pos hk,
      w64 (show -9223372036854775808 ≤ i + 1 by omega) (by omega)]
    by_cases c : wrap64 (rd xs i + rd xs j) = rd xs k
    · simp only [if_pos c, if_pos (show acc.length < 8796093022208 by omega)]
      refine ih (i + 1) (acc ++ [⟨i, j⟩]) (by omega) (by omega) (by simp only [List.length_append, List.length_singleton]; omega) ?_
      simpa [inner, c] using h
    · simp only [if_neg c]
      refine ih (i + 1) acc (by omega) (by omega) (by omega) ?_
      simpa [inner, c] using h

theorem impl_outer (xs : List Int) (k : Int) (hk : k < xs.length) (hl : xs.length ≤ 100000) : ∀ (d : Nat) (j : Int) (acc : List St), 0 ≤ j → j + d = k → acc.length + d * 100001 ≤ 8000000000000 →
    Ev (fun f => impl_sums.l0 f xs k acc k j) (acc ++ outer xs k d j) := by
  intro d
  induction d with
  | zero =>
    intro j acc hj hd _
    refine ev_shift ?_
    simp only [impl_sums.l0, if_neg (show ¬ j < k by omega), outer, List.append_nil]
    exact Ev.now _
  | succ d ih =>
    intro j acc hj hd hacc
    refine ev_shift ?_
    simp only [impl_sums.l0, if_pos (show j < k by omega), w64 (show -9223372036854775808 ≤ j + 1 by omega) (by omega)]
    have hi := inner_length xs k j (j + 1).toNat 0
    refine impl_inner xs k j _ hj (by omega) hk hl (j + 1).toNat 0 acc (by omega) (by omega) (by omega) ?_
    have h := ih (j + 1) (acc ++ inner xs k j (j + 1).toNat 0) (by omega) (by omega) (by rw [List.length_append]; omega)
    simpa [outer] using h

theorem sums_ev (xs : List Int) (k : Int) (h0 : 0 ≤ k) (hk : k < xs.length) (hl : xs.length ≤ 100000) : Ev (fun f => impl_sums.f f xs k) (sumsOf xs k) := by
  have h := impl_outer xs k hk hl k.toNat 0 [] (by omega) (by omega) (by simp only [List.length_nil]; omega)
  simpa [sumsOf, impl_sums.f] using h

/-! the chain's test, in both ways -/
def risingFrom (xs : List Int) : Nat → Int → Bool
  | 0, _ => true
  | d + 1, i => if rd xs i ≥ 1 then (if rd xs i ≤ 1000000 then (if i > 0 then (if rd xs (i - 1) ≥ rd xs i then false else risingFrom xs d (i + 1)) else risingFrom xs d (i + 1)) else false) else false
def pairsFrom (xs : List Int) : Nat → Int → Bool
  | 0, _ => true
  | d + 1, k => if (sumsOf xs k).length = 0 then false else pairsFrom xs d (k + 1)
def implFrom (xs : List Int) : Nat → Int → Bool
  | 0, _ => true
  | d + 1, k => if rd xs k ≤ rd xs (k - 1) then false else if rd xs k > 1000000 then false else if (sumsOf xs k).length = 0 then false else implFrom xs d (k + 1)
/-- Is it a chain? -/
def chain (xs : List Int) : Bool := if 1 ≤ xs.length ∧ xs.length ≤ 41 then (if rd xs 0 = 1 then implFrom xs (xs.length - 1) 1 else false) else false

theorem from_same (xs : List Int) : ∀ (d : Nat) (i : Int), 1 ≤ i → 1 ≤ rd xs (i - 1) → (risingFrom xs d i && pairsFrom xs d i) = implFrom xs d i
  | 0, _, _, _ => rfl
  | d + 1, i, h1, h2 => by
    unfold risingFrom pairsFrom implFrom
    rw [if_pos (show i > 0 by omega)]
    by_cases c1 : rd xs i ≤ rd xs (i - 1)
    · rw [if_pos c1, if_pos (show rd xs (i - 1) ≥ rd xs i from c1)]
      split
      · split <;> rfl
      · rfl
    · rw [if_neg c1, if_neg (show ¬ rd xs (i - 1) ≥ rd xs i from c1), if_pos (show rd xs i ≥ 1 by omega)]
      by_cases c2 : rd xs i > 1000000
      · rw [if_pos c2, if_neg (by omega)]; rfl
      · rw [if_neg c2, if_pos (by omega)]
        by_cases c3 : (sumsOf xs i).length = 0
        · rw [if_pos c3, if_pos c3, Bool.and_false]
        · rw [if_neg c3, if_neg c3]
          have e : i + 1 - 1 = i := by omega
          exact from_same xs d (i + 1) (by omega) (by rw [e]; omega)

theorem l1In_eq (a b c : Int) : spec_l1In.f a b c = some (decide (b ≤ a) && decide (a ≤ c)) := by
  unfold spec_l1In.f
  by_cases h : a ≥ b
  · rw [if_pos h]; simp [show b ≤ a from h]
  · rw [if_neg h]; simp [show ¬ b ≤ a from h]
theorem in_eq (a b c : Int) : impl_in.f a b c = some (decide (b ≤ a) && decide (a ≤ c)) := by
  unfold impl_in.f
  by_cases h : a ≥ b
  · rw [if_pos h]; simp [show b ≤ a from h]
  · rw [if_neg h]; simp [show ¬ b ≤ a from h]

theorem rising_ev (xs : List Int) (hl : xs.length ≤ 100000) : ∀ (d : Nat) (i : Int), 0 ≤ i → i + d = xs.length → Ev (fun f => spec_l1Rising.l0 f xs 1 1000000 xs xs.length i) (risingFrom xs d i) := by
  intro d
  induction d with
  | zero =>
    intro i h0 hd
    refine ev_shift ?_
    simp only [spec_l1Rising.l0, if_neg (show ¬ i < (xs.length : Int) by omega), risingFrom]
    exact Ev.now _
  | succ d ih =>
    intro i h0 hd
    have hn := ih (i + 1) (by omega) (by omega)
    refine ev_shift ?_
    simp only [spec_l1Rising.l0, if_pos (show i < (xs.length : Int) by omega), if_pos h0, w64 (show -9223372036854775808 ≤ i + 1 by omega) (by omega), w64 (show -9223372036854775808 ≤ i - 1 by omega) (by omega), l1In_eq, Option.bind_some]
    unfold risingFrom
    by_cases c1 : rd xs i ≥ 1
    · by_cases c2 : rd xs i ≤ 1000000
      · rw [if_pos c1, if_pos c2]
        simp only [decide_eq_true (show 1 ≤ rd xs i from c1), decide_eq_true c2, Bool.and_self, if_true]
        by_cases c3 : i > 0
        · simp only [if_pos c3, if_pos (show 0 ≤ i - 1 by omega), if_pos (show i - 1 < (xs.length : Int) by omega)]
          by_cases c4 : rd xs (i - 1) ≥ rd xs i
          · simp only [if_pos c4]; exact Ev.now _
          · simp only [if_neg c4]; exact hn
        · simp only [if_neg c3]; exact hn
      · rw [if_pos c1, if_neg c2]
        simp only [decide_eq_false c2, Bool.and_false, Bool.false_eq_true, if_false]
        exact Ev.now _
    · rw [if_neg c1]
      simp only [decide_eq_false (show ¬ 1 ≤ rd xs i from c1), Bool.false_and, Bool.false_eq_true, if_false]
      exact Ev.now _

theorem pairs_ev (xs : List Int) (hl : xs.length ≤ 100000) : ∀ (d : Nat) (k : Int), 0 ≤ k → k + d = xs.length → Ev (fun f => spec_chGood.l0 f xs k) (pairsFrom xs d k) := by
  intro d
  induction d with
  | zero =>
    intro i h0 hd
    refine ev_shift ?_
    simp only [spec_chGood.l0, if_neg (show ¬ i < (xs.length : Int) by omega), pairsFrom]
    exact Ev.now _
  | succ d ih =>
    intro i h0 hd
    have hn := ih (i + 1) (by omega) (by omega)
    refine ev_shift ?_
    simp only [spec_chGood.l0, if_pos (show i < (xs.length : Int) by omega), w64 (show -9223372036854775808 ≤ i + 1 by omega) (by omega)]
    refine ev_bind (chPairs_ev xs i h0 (by omega) hl) ?_
    unfold pairsFrom
    by_cases c : (sumsOf xs i).length = 0
    · simp only [if_pos c, if_pos (show ((sumsOf xs i).length : Int) = 0 by omega)]; exact Ev.now _
    · simp only [if_neg c, if_neg (show ¬ ((sumsOf xs i).length : Int) = 0 by omega)]; exact hn

theorem implFrom_ev (xs : List Int) (hl : xs.length ≤ 100000) : ∀ (d : Nat) (k : Int), 1 ≤ k → k + d = xs.length → Ev (fun f => impl_IsChain.l0 f xs k) (implFrom xs d k) := by
  intro d
  induction d with
  | zero =>
    intro i h0 hd
    refine ev_shift ?_
    simp only [impl_IsChain.l0, if_neg (show ¬ i < (xs.length : Int) by omega), implFrom]
    exact Ev.now _
  | succ d ih =>
    intro i h0 hd
    have hn := ih (i + 1) (by omega) (by omega)
    refine ev_shift ?_
    simp only [impl_IsChain.l0, if_pos (show i < (xs.length : Int) by omega), if_pos (show 0 ≤ i by omega), w64 (show -9223372036854775808 ≤ i + 1 by omega) (by omega), w64 (show -9223372036854775808 ≤ i - 1 by omega) (by omega), if_pos (show 0 ≤ i - 1 by omega), if_pos (show i - 1 < (xs.length : Int) by omega)]
    unfold implFrom
    by_cases c1 : rd xs i ≤ rd xs (i - 1)
    · simp only [if_pos c1]; exact Ev.now _
    · simp only [if_neg c1]
      by_cases c2 : rd xs i > 1000000
      · simp only [if_pos c2]; exact Ev.now _
      · simp only [if_neg c2]
        refine ev_bind (sums_ev xs i (by omega) (by omega) hl) ?_
        by_cases c : (sumsOf xs i).length = 0
        · simp only [if_pos c, if_pos (show ((sumsOf xs i).length : Int) = 0 by omega)]; exact Ev.now _
        · simp only [if_neg c, if_neg (show ¬ ((sumsOf xs i).length : Int) = 0 by omega)]; exact hn

theorem isChain_ev (xs : List Int) (hl : xs.length ≤ 1048576) : Ev (fun f => impl_IsChain.f f xs) (chain xs) := by
  unfold impl_IsChain.f chain
  simp only [in_eq, Option.bind_some]
  by_cases c : 1 ≤ xs.length ∧ xs.length ≤ 41
  · simp only [if_pos c, decide_eq_true (show (1 : Int) ≤ xs.length by omega), decide_eq_true (show (xs.length : Int) ≤ 41 by omega), Bool.and_self, if_true, if_pos (show (0 : Int) < xs.length by omega)]
    by_cases c1 : rd xs 0 = 1
    · simp only [if_pos c1]
      refine ev_shift ?_
      simp only [impl_IsChain.j0, c1, bne_self_eq_false, Bool.false_eq_true, if_false]
      exact implFrom_ev xs (by omega) (xs.length - 1) 1 (by omega) (by omega)
    · simp only [if_neg c1]
      refine ev_shift ?_
      simp only [impl_IsChain.j0, bne_iff_ne.mpr c1, if_true]
      exact Ev.now _
  · rw [if_neg c]
    have e : (decide ((1 : Int) ≤ xs.length) && decide ((xs.length : Int) ≤ 41)) = false := by
      rw [Bool.and_eq_false_iff, decide_eq_false_iff_not, decide_eq_false_iff_not]; omega
    simp only [e, Bool.false_eq_true, if_false]
    refine ev_shift ?_
    simp only [impl_IsChain.j0, if_true]
    exact Ev.now _

theorem chGood_ev (xs : List Int) (hl : xs.length ≤ 1048576) : Ev (fun f => spec_chGood.f f xs) (chain xs) := by
  unfold spec_chGood.f chain
  simp only [l1In_eq, Option.bind_some]
  by_cases c : 1 ≤ xs.length ∧ xs.length ≤ 41
  · simp only [if_pos c, decide_eq_true (show (1 : Int) ≤ xs.length by omega), decide_eq_true (show (xs.length : Int) ≤ 41 by omega), Bool.and_self, if_true, if_pos (show (0 : Int) < xs.length by omega)]
    by_cases c1 : rd xs 0 = 1
    · simp only [if_pos c1]
      unfold spec_l1Rising.f
      refine ev_bind (rising_ev xs (by omega) xs.length 0 (by omega) (by omega)) ?_
      obtain ⟨n, hn⟩ : ∃ n, xs.length = n + 1 := ⟨xs.length - 1, by omega⟩
      have e1 : risingFrom xs xs.length 0 = risingFrom xs n 1 := by
        rw [hn, risingFrom, c1, if_pos (by decide), if_pos (by decide), if_neg (by decide)]
        rfl
      have e2 : xs.length - 1 = n := by omega
      rw [e1, e2, ← from_same xs n 1 (by omega) (by rw [show (1 : Int) - 1 = 0 from rfl, c1]; omega)]
      refine ev_shift ?_
      simp only [spec_chGood.j0]
      cases hr : risingFrom xs n 1 with
      | false =>
        simp only [Bool.not_false, if_true, Bool.false_and]
        exact Ev.now _
      | true =>
        simp only [Bool.not_true, Bool.false_eq_true, if_false, Bool.true_and]
        exact pairs_ev xs (by omega) n 1 (by omega) (by omega)
    · simp only [if_neg c1]
      refine ev_shift ?_
      simp only [spec_chGood.j0, if_true]
      exact Ev.now _
  · rw [if_neg c]
    have e : (decide ((1 : Int) ≤ xs.length) && decide ((xs.length : Int) ≤ 41)) = false := by
      rw [Bool.and_eq_false_iff, decide_eq_false_iff_not, decide_eq_false_iff_not]; omega
    simp only [e, Bool.false_eq_true, if_false]
    refine ev_shift ?_
    simp only [spec_chGood.j0, if_true]
    exact Ev.now _

theorem implFrom_head (xs : List Int) (d : Nat) (k : Int) (h : implFrom xs (d + 1) k = true) : (sumsOf xs k).length ≠ 0 ∧ implFrom xs d (k + 1) = true ∧ rd xs (k - 1) < rd xs k ∧ rd xs k ≤ 1000000 := by
  unfold implFrom at h
  split at h
  · cases h
  · split at h
    · cases h
    · split at h
      · cases h
      · rename_i a b c
        exact ⟨c, h, by omega, by omega⟩
theorem chain_from (xs : List Int) (h : chain xs = true) : 1 ≤ xs.length ∧ xs.length ≤ 41 ∧ rd xs 0 = 1 ∧ implFrom xs (xs.length - 1) 1 = true := by
  unfold chain at h
  split at h
  · rename_i c
    split at h
    · rename_i c1
      exact ⟨c.1, c.2, c1, h⟩
    · cases h
  · cases h

/-- the table of the bit lengths of bytes -/
def len8 : ByteArray := (⟨#[0, 1, 2, 2, 3, 3, 3, 3, 4, 4, 4, 4, 4, 4, 4, 4, 5, 5, 5, 5, 5, 5, 5, 5, 5, 5, 5, 5, 5, 5, 5, 5, 6, 6, 6, 6, 6, 6, 6, 6, 6, 6, 6, 6, 6, 6, 6, 6, 6, 6, 6, 6, 6, 6, 6, 6, 6, 6, 6, 6, 6, 6, 6, 6, 7, 7, 7, 7, 7, 7, 7, 7, 7, 7, 7, 7, 7, 7, 7, 7, 7, 7, 7, 7, 7, 7, 7, 7, 7, 7, 7, 7, 7, 7, 7, 7, 7, 7, 7, 7, 7, 7, 7, 7, 7, 7, 7, 7, 7, 7, 7, 7, 7, 7, 7, 7, 7, 7, 7, 7, 7, 7, 7, 7, 7, 7, 7, 7, 8, 8, 8, 8, 8, 8, 8, 8, 8, 8, 8, 8, 8, 8, 8, 8, 8, 8, 8, 8, 8, 8, 8, 8, 8, 8, 8, 8, 8, 8, 8, 8, 8, 8, 8, 8, 8, 8, 8, 8, 8, 8, 8, 8, 8, 8, 8, 8, 8, 8, 8, 8, 8, 8, 8, 8, 8, 8, 8, 8, 8, 8, 8, 8, 8, 8, 8, 8, 8, 8, 8, 8, 8, 8, 8, 8, 8, 8, 8, 8, 8, 8, 8, 8, 8, 8, 8, 8, 8, 8, 8, 8, 8, 8, 8, 8, 8, 8, 8, 8, 8, 8, 8, 8, 8, 8, 8, 8, 8, 8, 8, 8, 8, 8, 8, 8, 8, 8, 8, 8, 8, 8, 8, 8, 8, 8, 8, 8]⟩ : ByteArray)
theorem len8_1 : ∀ i : Nat, i < 2 → 1 ≤ i → bt len8 (i : Int) = 1 := by decide +kernel
theorem len8_2 : ∀ i : Nat, i < 4 → 2 ≤ i → bt len8 (i : Int) = 2 := by decide +kernel
theorem len8_3 : ∀ i : Nat, i < 8 → 4 ≤ i → bt len8 (i : Int) = 3 := by decide +kernel
theorem len8_4 : ∀ i : Nat, i < 16 → 8 ≤ i → bt len8 (i : Int) = 4 := by decide +kernel
theorem len8_5 : ∀ i : Nat, i < 32 → 16 ≤ i → bt len8 (i : Int) = 5 := by decide +kernel
theorem len8_6 : ∀ i : Nat, i < 64 → 32 ≤ i → bt len8 (i : Int) = 6 := by decide +kernel
theorem len8_7 : ∀ i : Nat, i < 128 → 64 ≤ i → bt len8 (i : Int) = 7 := by decide +kernel
theorem len8_8 : ∀ i : Nat, i < 256 → 128 ≤ i → bt len8 (i : Int) = 8 := by decide +kernel

theorem u64_id (n : Int) (h0 : 0 ≤ n) (h1 : n ≤ 1000000) : IntKind.u64.wrap n = n := by
  simp only [IntKind.wrap, IntKind.signed, IntKind.bits, Bool.false_and, Bool.false_eq_true, if_false]
  omega

theorem len8_fact (i : Int) (h0 : 1 ≤ i) (h1 : i < 256) : ∃ t : Nat, bt len8 i = t ∧ 1 ≤ t ∧ t ≤ 8 ∧ (2 : Int) ^ (t - 1) ≤ i ∧ i < 2 ^ t := by
  obtain ⟨j, rfl⟩ := Int.eq_ofNat_of_zero_le (show 0 ≤ i by omega)
  by_cases c1 : j < 2
  · exact ⟨1, len8_1 j c1 (by omega), by decide, by decide, by simp; omega, by simp; omega⟩
  by_cases c2 : j < 4
  · exact ⟨2, len8_2 j c2 (by omega), by decide, by decide, by simp; omega, by simp; omega⟩
  by_cases c3 : j < 8
  · exact ⟨3, len8_3 j c3 (by omega), by decide, by decide, by simp; omega, by simp; omega⟩
  by_cases c4 : j < 16
  · exact ⟨4, len8_4 j c4 (by omega), by decide, by decide, by simp; omega, by simp; omega⟩
  by_cases c5 : j < 32
  · exact ⟨5, len8_5 j c5 (by omega), by decide, by decide, by simp; omega, by simp; omega⟩
  by_cases c6 : j < 64
  · exact ⟨6, len8_6 j c6 (by omega), by decide, by decide, by simp; omega, by simp; omega⟩
  by_cases c7 : j < 128
  · exact ⟨7, len8_7 j c7 (by omega), by decide, by decide, by simp; omega, by simp; omega⟩
  by_cases c8 : j < 256
  · exact ⟨8, len8_8 j c8 (by omega), by decide, by decide, by simp; omega, by simp; omega⟩
  exact absurd h1 (by omega)

set_option maxRecDepth 100000 in
/-- bits.Len of a number: the L with 2^(L-1) ≤ n < 2^L. -/
theorem len_ev (n : Int) (h0 : 1 ≤ n) (h1 : n ≤ 1000000) : ∃ L : Nat, 1 ≤ L ∧ L ≤ 20 ∧ (2 : Int) ^ (L - 1) ≤ n ∧ n < 2 ^ L ∧ Ev (fun k => bits_Len.f k (IntKind.u64.wrap n)) (L : Int) := by
  have key : ∃ L : Nat, 1 ≤ L ∧ L ≤ 20 ∧ (2 : Int) ^ (L - 1) ≤ n ∧ n < 2 ^ L ∧ Ev (fun k => bits_Len64.j0 k n 0) (L : Int) := by
    by_cases c1 : n ≥ 65536
    · have q0 : 1 ≤ n / 65536 := by omega
      have q1 : n / 65536 < 256 := by omega
      have m : n / 65536 % 256 = n / 65536 := by omega
      obtain ⟨t, ht, t1, t8, p1, p2⟩ := len8_fact (n / 65536) q0 q1
      have hn : (16 : Int) + t = ((t + 16 : Nat) : Int) := by omega
      have t4 : t ≤ 4 := by
        rcases (by omega : t = 1 ∨ t = 2 ∨ t = 3 ∨ t = 4 ∨ t = 5 ∨ t = 6 ∨ t = 7 ∨ t = 8) with rfl | rfl | rfl | rfl | rfl | rfl | rfl | rfl <;> simp at p1 <;> omega
      refine ⟨t + 16, by omega, by omega, ?_, ?_, ?_⟩
      · rcases (by omega : t = 1 ∨ t = 2 ∨ t = 3 ∨ t = 4) with rfl | rfl | rfl | rfl <;> simp at p1 ⊢ <;> omega
      · rcases (by omega : t = 1 ∨ t = 2 ∨ t = 3 ∨ t = 4) with rfl | rfl | rfl | rfl <;> simp at p2 ⊢ <;> omega
      · refine ev_shift (ev_some fun k => ?_)
        rw [bits_Len64.j0]
        rw [if_pos c1, if_neg (show ¬ n / 65536 ≥ 256 by omega), m, if_pos (by omega), if_pos q1]
        change some (wrap64 (wrap64 (0 + 16) + wrap64 (bt len8 (n / 65536)))) = _
        rw [ht, w64 (show -9223372036854775808 ≤ (0 : Int) + 16 by omega) (by omega), w64 (show -9223372036854775808 ≤ (t : Int) by omega) (by omega), w64 (by omega) (by omega)]
        exact congrArg some (by omega)
    · by_cases c2 : n ≥ 256
      · have q0 : 1 ≤ n / 256 := by omega
        have q1 : n / 256 < 256 := by omega
        have m : n / 256 % 256 = n / 256 := by omega
        obtain ⟨t, ht, t1, t8, p1, p2⟩ := len8_fact (n / 256) q0 q1
        refine ⟨t + 8, by omega, by omega, ?_, ?_, ?_⟩
        · rcases (by omega : t = 1 ∨ t = 2 ∨ t = 3 ∨ t = 4 ∨ t = 5 ∨ t = 6 ∨ t = 7 ∨ t = 8) with rfl | rfl | rfl | rfl | rfl | rfl | rfl | rfl <;> simp at p1 ⊢ <;> omega
        · rcases (by omega : t = 1 ∨ t = 2 ∨ t = 3 ∨ t = 4 ∨ t = 5 ∨ t = 6 ∨ t = 7 ∨ t = 8) with rfl | rfl | rfl | rfl | rfl | rfl | rfl | rfl <;> simp at p2 ⊢ <;> omega
        · refine ev_shift (ev_some fun k => ?_)
          rw [bits_Len64.j0]
          rw [if_neg c1, if_pos c2, m, if_pos (by omega), if_pos q1]
          change some (wrap64 (wrap64 (0 + 8) + wrap64 (bt len8 (n / 256)))) = _
          rw [ht, w64 (show -9223372036854775808 ≤ (0 : Int) + 8 by omega) (by omega), w64 (show -9223372036854775808 ≤ (t : Int) by omega) (by omega), w64 (by omega) (by omega)]
          exact congrArg some (by omega)
      · have m : n % 256 = n := by omega
        obtain ⟨t, ht, t1, t8, p1, p2⟩ := len8_fact n h0 (by omega)
        refine ⟨t, t1, by omega, p1, p2, ?_⟩
        refine ev_shift (ev_some fun k => ?_)
        rw [bits_Len64.j0]
        rw [if_neg c1, if_neg c2, m, if_pos (by omega), if_pos (by omega)]
        change some (wrap64 (0 + wrap64 (bt len8 n))) = _
        rw [ht, w64 (show -9223372036854775808 ≤ (t : Int) by omega) (by omega), w64 (by omega) (by omega)]
        exact congrArg some (by omega)
  obtain ⟨L, a, b, c, d, e⟩ := key
  refine ⟨L, a, b, c, d, ?_⟩
  rw [u64_id n (by omega) h1]
  unfold bits_Len.f bits_Len64.f
  simp only [if_neg (show ¬ n ≥ 4294967296 by omega)]
  exact ev_bind e (Ev.now _)

theorem pow_le_of (a b : Nat) (h : a ≤ b) : (2 : Int) ^ a ≤ 2 ^ b := by
  have := Nat.pow_le_pow_right (show 0 < 2 by decide) h
  exact_mod_cast this

theorem shr_pos (n : Int) (b : Nat) (hb : b ≤ 40) (h : (2 : Int) ^ b ≤ n) : shr .i64 n (b : Int) > 0 := by
  unfold shr
  have e : min (b : Int).toNat IntKind.i64.bits = b := by rw [Int.toNat_natCast]; exact Nat.min_eq_left (by simp [IntKind.bits]; omega)
  rw [e]
  have p : (0 : Int) < 2 ^ b := Int.pow_pos (by omega)
  have := (Int.le_ediv_iff_mul_le p (a := 1) (b := n)).2 (by omega)
  omega
theorem shr_zero (n : Int) (b : Nat) (hb : b ≤ 40) (h0 : 0 ≤ n) (h : n < (2 : Int) ^ b) : ¬ shr .i64 n (b : Int) > 0 := by
  unfold shr
  have e : min (b : Int).toNat IntKind.i64.bits = b := by rw [Int.toNat_natCast]; exact Nat.min_eq_left (by simp [IntKind.bits]; omega)
  rw [e, Int.ediv_eq_zero_of_lt h0 h]
  omega

theorem chLength_ev (n : Int) (L : Nat) (hL : L ≤ 20) (h1 : 1 ≤ L) (h2 : (2 : Int) ^ (L - 1) ≤ n) (h3 : n < 2 ^ L) : Ev (fun k => spec_chLength.f k n) (L : Int) := by
  have n0 : 0 ≤ n := by have : (0 : Int) < 2 ^ (L - 1) := Int.pow_pos (by omega)
                        omega
  have loop : ∀ (d b : Nat), b + d = L → Ev (fun k => spec_chLength.l0 k n (b : Int)) (L : Int) := by
    intro d
    induction d with
    | zero =>
      intro b hb
      obtain rfl : b = L := by omega
      refine ev_shift ?_
      simp only [spec_chLength.l0, if_pos (show (0 : Int) ≤ (b : Int) by omega), if_neg (shr_zero n b (by omega) n0 h3)]
      exact Ev.now _
    | succ d ih =>
      intro b hb
      have := pow_le_of b (L - 1) (by omega)
      refine ev_shift ?_
      simp only [spec_chLength.l0, if_pos (show (0 : Int) ≤ (b : Int) by omega), if_pos (shr_pos n b (by omega) (by omega)), w64 (show -9223372036854775808 ≤ (b : Int) + 1 by omega) (by omega)]
      exact ih (b + 1) (by omega)
  exact loop L 0 (by omega)

def blen (n : Int) : Nat := Nat.log2 n.toNat + 1
theorem blen_of (n : Int) (L : Nat) (h0 : 1 ≤ n) (h1 : 1 ≤ L) (h2 : (2 : Int) ^ (L - 1) ≤ n) (h3 : n < 2 ^ L) : blen n = L := by
  obtain ⟨m, rfl⟩ := Int.eq_ofNat_of_zero_le (show 0 ≤ n by omega)
  obtain ⟨l, rfl⟩ : ∃ l, L = l + 1 := ⟨L - 1, by omega⟩
  have a : 2 ^ l ≤ m := by rw [Nat.add_sub_cancel] at h2; exact_mod_cast h2
  have b : m < 2 ^ (l + 1) := by exact_mod_cast h3
  have := (Nat.log2_eq_iff (n := m) (k := l) (by omega)).2 ⟨a, b⟩
  unfold blen
  rw [Int.toNat_natCast, this]
theorem blen_ev (n : Int) (h0 : 1 ≤ n) (h1 : n ≤ 1000000) : Ev (fun k => bits_Len.f k (IntKind.u64.wrap n)) (blen n : Int) ∧ Ev (fun k => spec_chLength.f k n) (blen n : Int) ∧ blen n ≤ 20 := by
  obtain ⟨L, a, b, c, d, e⟩ := len_ev n h0 h1
  rw [blen_of n L h0 a c d]
  exact ⟨e, chLength_ev n L b a c d, b⟩

def smallFrom (xs : List Int) : Nat → Int → Int → Int
  | 0, _, m => m
  | d + 1, k, m => if (blen (rd xs k) : Int) = blen (rd xs (k - 1)) then smallFrom xs d (k + 1) (m + 1) else smallFrom xs d (k + 1) m
theorem specSmall_loop (xs : List Int) (hl : xs.length ≤ 100000) : ∀ (d : Nat) (k m : Int), 1 ≤ k → k + d = xs.length → 0 ≤ m → m ≤ k → 1 ≤ rd xs (k - 1) → rd xs (k - 1) ≤ 1000000 → implFrom xs d k = true → Ev (fun f => spec_SmallSteps.l0 f xs m k) (smallFrom xs d k m, true) := by
  intro d
  induction d with
  | zero =>
    intro k m h0 hd _ _ _ _ _
    refine ev_shift ?_
    simp only [spec_SmallSteps.l0, if_neg (show ¬ k < (xs.length : Int) by omega), smallFrom]
    exact Ev.now _
  | succ d ih =>
    intro k m h0 hd hm0 hm1 r1 r2 hi
    obtain ⟨h1, h2, h3, h4⟩ := implFrom_head xs d k hi
    obtain ⟨_, a2, _⟩ := blen_ev (rd xs k) (by omega) h4
    obtain ⟨_, b2, _⟩ := blen_ev (rd xs (k - 1)) r1 r2
    have e : k + 1 - 1 = k := by omega
    refine ev_shift ?_
    simp only [spec_SmallSteps.l0, if_pos (show k < (xs.length : Int) by omega), if_pos (show 0 ≤ k by omega), w64 (show -9223372036854775808 ≤ k + 1 by omega) (by omega), w64 (show -9223372036854775808 ≤ k - 1 by omega) (by omega), w64 (show -9223372036854775808 ≤ m + 1 by omega) (by omega)]
    refine ev_bind a2 ?_
    simp only [if_pos (show 0 ≤ k - 1 by omega), if_pos (show k - 1 < (xs.length : Int) by omega)]
    refine ev_bind b2 ?_
    unfold smallFrom
    by_cases c : (blen (rd xs k) : Int) = blen (rd xs (k - 1))
    · rw [if_pos c]; simp only [if_pos c]
      exact ih (k + 1) (m + 1) (by omega) (by omega) (by omega) (by omega) (by rw [e]; omega) (by rw [e]; omega) h2
    · rw [if_neg c]; simp only [if_neg c]
      exact ih (k + 1) m (by omega) (by omega) (by omega) (by omega) (by rw [e]; omega) (by rw [e]; omega) h2
theorem implSmall_loop (xs : List Int) (hl : xs.length ≤ 100000) : ∀ (d : Nat) (k m : Int), 1 ≤ k → k + d = xs.length → 0 ≤ m → m ≤ k → 1 ≤ rd xs (k - 1) → rd xs (k - 1) ≤ 1000000 → implFrom xs d k = true → Ev (fun f => impl_SmallSteps.l0 f xs m k) (smallFrom xs d k m, true) := by
  intro d
  induction d with
  | zero =>
    intro k m h0 hd _ _ _ _ _
    refine ev_shift ?_
    simp only [impl_SmallSteps.l0, if_neg (show ¬ k < (xs.length : Int) by omega), smallFrom]
    exact Ev.now _
  | succ d ih =>
    intro k m h0 hd hm0 hm1 r1 r2 hi
    obtain ⟨h1, h2, h3, h4⟩ := implFrom_head xs d k hi
    obtain ⟨a2, _, _⟩ := blen_ev (rd xs k) (by omega) h4
    obtain ⟨b2, _, _⟩ := blen_ev (rd xs (k - 1)) r1 r2
    have e : k + 1 - 1 = k := by omega
    refine ev_shift ?_
    simp only [impl_SmallSteps.l0, if_pos (show k < (xs.length : Int) by omega), if_pos (show 0 ≤ k by omega), w64 (show -9223372036854775808 ≤ k + 1 by omega) (by omega), w64 (show -9223372036854775808 ≤ k - 1 by omega) (by omega), w64 (show -9223372036854775808 ≤ m + 1 by omega) (by omega)]
    refine ev_bind a2 ?_
    simp only [if_pos (show 0 ≤ k - 1 by omega), if_pos (show k - 1 < (xs.length : Int) by omega)]
    refine ev_bind b2 ?_
    unfold smallFrom
    by_cases c : (blen (rd xs k) : Int) = blen (rd xs (k - 1))
    · rw [if_pos c]; simp only [if_pos c]
      exact ih (k + 1) (m + 1) (by omega) (by omega) (by omega) (by omega) (by rw [e]; omega) (by rw [e]; omega) h2
    · rw [if_neg c]; simp only [if_neg c]
      exact ih (k + 1) m (by omega) (by omega) (by omega) (by omega) (by rw [e]; omega) (by rw [e]; omega) h2
/-- SmallSteps. -/
def smallOf (xs : List Int) : Int × Bool := if chain xs = true then (smallFrom xs (xs.length - 1) 1 0, true) else (0, false)
theorem specSmall_ev (xs : List Int) (hl : xs.length ≤ 1048576) : Ev (fun f => spec_SmallSteps.f f xs) (smallOf xs) := by
  unfold spec_SmallSteps.f smallOf
  refine ev_bind (chGood_ev xs hl) ?_
  by_cases c : chain xs = true
  · obtain ⟨h1, h2, h3, h4⟩ := chain_from xs c
    simp only [c, if_true]
    exact specSmall_loop xs (by omega) (xs.length - 1) 1 0 (by omega) (by omega) (by omega) (by omega) (by rw [show (1 : Int) - 1 = 0 from rfl]; omega) (by rw [show (1 : Int) - 1 = 0 from rfl]; omega) h4
  · simp only [if_neg c]; exact Ev.now _
theorem implSmall_ev (xs : List Int) (hl : xs.length ≤ 1048576) : Ev (fun f => impl_SmallSteps.f f xs) (smallOf xs) := by
  unfold impl_SmallSteps.f smallOf
  refine ev_bind (isChain_ev xs hl) ?_
  by_cases c : chain xs = true
  · obtain ⟨h1, h2, h3, h4⟩ := chain_from xs c
    simp only [c, if_true]
    exact implSmall_loop xs (by omega) (xs.length - 1) 1 0 (by omega) (by omega) (by omega) (by omega) (by rw [show (1 : Int) - 1 = 0 from rfl]; omega) (by rw [show (1 : Int) - 1 = 0 from rfl]; omega) h4
  · simp only [if_neg c]; exact Ev.now _

/-- A list that is too long: the law answers true at once. -/
theorem over_ (xs : List Int) (hl : ¬ xs.length ≤ 1048576) : Ev (fun k => laws_FnExactSmallSteps.f k xs) true := by
  have big : (xs.length : Int) > 1048576 := by omega
  unfold laws_FnExactSmallSteps.f
  simp only [if_pos big]
  exact Ev.now _

/-- The law's tail where the argument is a slice and the answer a value and a bool. -/
theorem tail_ (xs : List Int) (hl : xs.length ≤ 1048576) (v : Int) (b : Bool) (hs : Ev (fun k => spec_SmallSteps.f k xs) (v, b)) (hi : Ev (fun k => impl_SmallSteps.f k xs) (v, b)) : Ev (fun k => laws_FnExactSmallSteps.f k xs) true := by
  have ht := toIntS_ev xs (by omega)
  have hex := eqIntS_same xs (by omega)
  have e0 : (b != b) = false := by cases b <;> rfl
  have big : ¬ ((xs.length : Int) > 1048576) := by omega
  have j0 : Ev (fun k => laws_FnExactSmallSteps.j0 k xs xs false) true := by
    refine ev_shift ?_
    simp only [laws_FnExactSmallSteps.j0, Bool.false_eq_true, if_false]
    refine ev_bind ht ?_
    refine ev_bind hex ?_
    simp only [if_true]
    exact Ev.now _
  unfold laws_FnExactSmallSteps.f
  simp only [if_neg big]
  refine ev_bind ht ?_
  refine ev_bind hs ?_
  refine ev_bind ht ?_
  refine ev_bind hi ?_
  simp only [if_true, e0]
  exact j0

theorem FnExactSmallSteps : laws_FnExactSmallSteps.Pure := by
  intro xs _ _ _
  by_cases hl : xs.length ≤ 1048576
  · exact (tail_ xs hl (smallOf xs).1 (smallOf xs).2 (specSmall_ev xs hl) (implSmall_ev xs hl)).rounds
  · exact (over_ xs hl).rounds

end Go.Proofs.Ytailgfeffoimaaa.Pure
