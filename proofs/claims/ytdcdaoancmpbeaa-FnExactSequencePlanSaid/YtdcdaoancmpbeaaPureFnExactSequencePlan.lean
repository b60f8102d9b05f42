/- For every list and targets: SequencePlan of the program answers as the reference does, and shares no memory. -/
import Derived.Test.YtdcdaoancmpbeaaMFnExactSequencePlanx13
namespace Go.Proofs.Ytdcdaoancmpbeaa.Pure
open Go.RowKit Go.Proofs.Ytdcdaoancmpbeaa.MFnExactSequencePlan Go.Proofs.YtdcdaoancmpbeaaW.PrintWords Go.Proofs.YtdcdaoancmpbeaaW.PrintLast Go.Proofs.YtdcdaoancmpbeaaW.PrintMore
set_option linter.unusedVariables false
set_option linter.unusedSimpArgs false
open Go.Proofs.YtdcdaoancmpbeaaH

theorem w64 {x : Int} (h1 : -9223372036854775808 ≤ x) (h2 : x ≤ 9223372036854775807) : wrap64 x = x := by unfold wrap64; omega

theorem rd_nat (xs : List Int) (j : Nat) : rd xs (j : Int) = xs.getD j 0 := by unfold rd; rw [Int.toNat_natCast]

theorem ev_shift {α : Type} {g : Nat → Option α} {r : α} (h : Ev (fun k => g (k + 1)) r) : Ev g r := by
  obtain ⟨K, hK⟩ := h
  refine ⟨K + 1, fun k hk => ?_⟩
  obtain ⟨m, rfl⟩ : ∃ m, k = m + 1 := ⟨k - 1, by omega⟩
  exact hK m (by omega)

theorem ev_bind {α β : Type} {g : Nat → Option α} {F : Nat → α → Option β} {a : α} {r : β} (h : Ev g a) (k : Ev (fun n => F n a) r) : Ev (fun n => (g n).bind (fun x => F n x)) r := Ev.bind h k

theorem ev_some {α : Type} {g : Nat → Option α} {r : α} (h : ∀ k, g k = some r) : Ev g r := ⟨0, fun k _ => h k⟩

theorem eqIntS_same (xs : List Int) (hb : xs.length ≤ 4611686018427387904) : Ev (fun k => laws_eqIntS.f k xs xs) true := by
  have loop : ∀ (d k : Nat) (i : Int), 0 ≤ i → i ≤ xs.length → (xs.length : Int) - i = d → d < k → laws_eqIntS.l0 k xs xs i = some true := by
    intro d
    induction d with
    | zero =>
      intro k i h0 h1 hd hk
      obtain ⟨k, rfl⟩ : ∃ m, k = m + 1 := ⟨k - 1, by omega⟩
      rw [laws_eqIntS.l0, if_neg (by omega)]
    | succ d ih =>
      intro k i h0 h1 hd hk
      obtain ⟨k, rfl⟩ : ∃ m, k = m + 1 := ⟨k - 1, by omega⟩
      rw [laws_eqIntS.l0, if_pos (by omega), if_pos h0, if_pos (by omega), if_pos rfl, w64 (by omega) (by omega)]
      exact ih k (i + 1) (by omega) (by omega) (by omega) (by omega)
  refine ⟨xs.length + 1, fun k hk => ?_⟩
  show laws_eqIntS.f k xs xs = some true
  unfold laws_eqIntS.f
  rw [if_pos rfl]
  exact loop xs.length k 0 (by omega) (by omega) (by omega) (by omega)

def marked (n : Nat) (a : Int) : List Int := (List.range n).map (fun j : Nat => a + (j : Int))
theorem marked_length (n : Nat) (a : Int) : (marked n a).length = n := by simp [marked]
theorem marked_succ (n : Nat) (a : Int) : marked (n + 1) a = marked n a ++ [a + n] := by simp [marked, List.range_succ]
theorem marked_get (n : Nat) (a : Int) (j : Nat) (h : j < n) : (marked n a).getD j 0 = a + j := by simp [marked, List.getD, h]

theorem marked_step (xs : List Int) (a : Int) (i : Nat) (h : i < xs.length) : (marked i a ++ xs.drop i).set i (a + i) = marked (i + 1) a ++ xs.drop (i + 1) := by
  rw [List.set_append_right _ _ (by rw [marked_length]; exact Nat.le_refl _), marked_length, Nat.sub_self, List.drop_eq_getElem_cons h, List.set_cons_zero, marked_succ]
  simp

theorem markIntS_ev (xs : List Int) (a : Int) (h0 : 0 ≤ a) (ha : a + xs.length ≤ 4611686018427387904) : Ev (fun k => laws_markIntS.f k xs a) (a + xs.length, marked xs.length a) := by
  have loop : ∀ (d k i : Nat), i ≤ xs.length → xs.length - i = d → d < k → laws_markIntS.l0 k (marked i a ++ xs.drop i) (a + i) i = some (a + xs.length, marked xs.length a) := by
    intro d
    induction d with
    | zero =>
      intro k i h1 hd hk
      obtain ⟨k, rfl⟩ : ∃ m, k = m + 1 := ⟨k - 1, by omega⟩
      obtain rfl : i = xs.length := by omega
      have hl : (marked xs.length a ++ xs.drop xs.length).length = xs.length := by simp [marked_length]
      rw [laws_markIntS.l0, hl, if_neg (by omega)]
      simp
    | succ d ih =>
      intro k i h1 hd hk
      obtain ⟨k, rfl⟩ : ∃ m, k = m + 1 := ⟨k - 1, by omega⟩
      have hl : (marked i a ++ xs.drop i).length = xs.length := by simp [marked_length]; omega
      rw [laws_markIntS.l0, hl, if_pos (by omega), if_pos (by omega), Int.toNat_natCast, marked_step xs a i (by omega), w64 (by omega) (by omega), w64 (by omega) (by omega)]
      have e : a + (i : Int) + 1 = a + ((i + 1 : Nat) : Int) := by omega
      rw [e]
      exact ih k (i + 1) (by omega) (by omega) (by omega)
  refine ⟨xs.length + 1, fun k hk => ?_⟩
  have h := loop xs.length k 0 (by omega) (by omega) (by omega)
  simpa [marked, laws_markIntS.f] using h

theorem heldIntS_ev (n : Nat) (a : Int) (h0 : 0 ≤ a) (ha : a + n ≤ 4611686018427387904) : Ev (fun k => laws_heldIntS.f k (marked n a) a) (a + n) := by
  have loop : ∀ (d k i : Nat), i ≤ n → n - i = d → d < k → laws_heldIntS.l0 k (marked n a) (a + i) i = some (a + n) := by
    intro d
    induction d with
    | zero =>
      intro k i h1 hd hk
      obtain ⟨k, rfl⟩ : ∃ m, k = m + 1 := ⟨k - 1, by omega⟩
      obtain rfl : i = n := by omega
      rw [laws_heldIntS.l0, marked_length, if_neg (by omega)]
    | succ d ih =>
      intro k i h1 hd hk
      obtain ⟨k, rfl⟩ : ∃ m, k = m + 1 := ⟨k - 1, by omega⟩
      rw [laws_heldIntS.l0, marked_length, if_pos (by omega), if_pos (by omega), rd_nat, marked_get n a i (by omega), if_pos rfl, w64 (by omega) (by omega), w64 (by omega) (by omega)]
      have e : a + (i : Int) + 1 = a + ((i + 1 : Nat) : Int) := by omega
      rw [e]
      exact ih k (i + 1) (by omega) (by omega) (by omega)
  refine ⟨n + 1, fun k hk => ?_⟩
  have h := loop n k 0 (by omega) (by omega) (by omega)
  simpa [laws_heldIntS.f] using h

theorem toIntS_step (xs : List Int) (i : Nat) (h : i < xs.length) : (xs.take i ++ List.replicate (xs.length - i) 0).set i (xs.getD i 0) = xs.take (i + 1) ++ List.replicate (xs.length - (i + 1)) 0 := by
  have hl : (xs.take i).length = i := by simp; omega
  rw [List.set_append_right _ _ (by omega), hl, Nat.sub_self]
  obtain ⟨m, hm⟩ : ∃ m, xs.length - i = m + 1 := ⟨xs.length - i - 1, by omega⟩
  have hm2 : xs.length - (i + 1) = m := by omega
  have e : xs.getD i 0 = xs[i] := by simp [List.getD, h]
  rw [hm, hm2, List.replicate_succ, List.set_cons_zero, e, List.take_succ_eq_append_getElem h, List.append_assoc]
  rfl

theorem toIntS_ev (xs : List Int) (hb : xs.length ≤ 35184372088832) : Ev (fun k => laws_toIntS.f k xs) xs := by
  have loop : ∀ (d k i : Nat), i ≤ xs.length → xs.length - i = d → d < k → laws_toIntS.l0 k xs (xs.take i ++ List.replicate (xs.length - i) 0) i = some xs := by
    intro d
    induction d with
    | zero =>
      intro k i h1 hd hk
      obtain ⟨k, rfl⟩ : ∃ m, k = m + 1 := ⟨k - 1, by omega⟩
      obtain rfl : i = xs.length := by omega
      rw [laws_toIntS.l0, if_neg (by omega)]
      simp
    | succ d ih =>
      intro k i h1 hd hk
      obtain ⟨k, rfl⟩ : ∃ m, k = m + 1 := ⟨k - 1, by omega⟩
      have hl : (xs.take i ++ List.replicate (xs.length - i) 0).length = xs.length := by simp; omega
      rw [laws_toIntS.l0, if_pos (by omega), if_pos (by omega), hl, if_pos (by omega), Int.toNat_natCast, rd_nat, toIntS_step xs i (by omega), w64 (by omega) (by omega)]
      exact ih k (i + 1) (by omega) (by omega) (by omega)
  refine ⟨xs.length + 1, fun k hk => ?_⟩
  have h := loop xs.length k 0 (by omega) (by omega) (by omega)
  show laws_toIntS.f k xs = some xs
  unfold laws_toIntS.f
  rw [if_pos (by omega), Int.toNat_natCast, if_pos hb]
  simpa using h

abbrev St := S73
def inner (xs : List Int) (k j : Int) : Nat → Int → List St
  | 0, _ => []
  | d + 1, i => if wrap64 (rd xs i + rd xs j) = rd xs k then ⟨i, j⟩ :: inner xs k j d (i + 1) else inner xs k j d (i + 1)
def outer (xs : List Int) (k : Int) : Nat → Int → List St
  | 0, _ => []
  | d + 1, j => inner xs k j (j + 1).toNat 0 ++ outer xs k d (j + 1)
def sumsOf (xs : List Int) (k : Int) : List St := outer xs k k.toNat 0

theorem inner_length (xs : List Int) (k j : Int) : ∀ (d : Nat) (i : Int), (inner xs k j d i).length ≤ d
  | 0, _ => Nat.le_refl _
  | d + 1, i => by
    have := inner_length xs k j d (i + 1)
    unfold inner
    split
    · simp only [List.length_cons]; omega
    · omega

theorem spec_inner (xs : List Int) (k j : Int) (r : List St) (hj : 0 ≤ j) (hjk : j < k) (hk : k < xs.length) (hl : xs.length ≤ 100000) : ∀ (d : Nat) (i : Int) (acc : List St), 0 ≤ i → i + d = j + 1 → acc.length + d ≤ 8000000000000 →
    Ev (fun f => spec_chPairs.l0 f xs k (acc ++ inner xs k j d i) (j + 1)) r → Ev (fun f => spec_chPairs.l1 f xs k acc j i) r := by
  intro d
  induction d with
  | zero =>
    intro i acc hi hd _ h
    refine ev_shift ?_
    simp only [spec_chPairs.l1, if_neg (show ¬ i ≤ j by omega), w64 (show -9223372036854775808 ≤ j + 1 by omega) (by omega)]
    simpa [inner] using h
  | succ d ih =>
    intro i acc hi hd hacc h
    refine ev_shift ?_
    simp only [spec_chPairs.l1, if_pos (show i ≤ j by omega), if_pos hi, if_pos (show i < (xs.length : Int) by omega), if_pos hj, if_pos (show j < (xs.length : Int) by omega), if_pos (show 0 ≤ k by omega), if_pos hk,
      w64 (show -9223372036854775808 ≤ i + 1 by omega) (by omega)]
    by_cases c : wrap64 (rd xs i + rd xs j) = rd xs k
    · simp only [if_pos c, if_pos (show acc.length < 8796093022208 by omega)]
      refine ih (i + 1) (acc ++ [⟨i, j⟩]) (by omega) (by omega) (by simp only [List.length_append, List.length_singleton]; omega) ?_
      simpa [inner, c] using h
    · simp only [if_neg c]
      refine ih (i + 1) acc (by omega) (by omega) (by omega) ?_
      simpa [inner, c] using h

theorem spec_outer (xs : List Int) (k : Int) (hk : k < xs.length) (hl : xs.length ≤ 100000) : ∀ (d : Nat) (j : Int) (acc : List St), 0 ≤ j → j + d = k → acc.length + d * 100001 ≤ 8000000000000 →
    Ev (fun f => spec_chPairs.l0 f xs k acc j) (acc ++ outer xs k d j) := by
  intro d
  induction d with
  | zero =>
    intro j acc hj hd _
    refine ev_shift ?_
    simp only [spec_chPairs.l0, if_neg (show ¬ j < k by omega), outer, List.append_nil]
    exact Ev.now _
  | succ d ih =>
    intro j acc hj hd hacc
    refine ev_shift ?_
    simp only [spec_chPairs.l0, if_pos (show j < k by omega)]
    have hi := inner_length xs k j (j + 1).toNat 0
    refine spec_inner xs k j _ hj (by omega) hk hl (j + 1).toNat 0 acc (by omega) (by omega) (by omega) ?_
    have h := ih (j + 1) (acc ++ inner xs k j (j + 1).toNat 0) (by omega) (by omega) (by rw [List.length_append]; omega)
    simpa [outer] using h

theorem chPairs_ev (xs : List Int) (k : Int) (h0 : 0 ≤ k) (hk : k < xs.length) (hl : xs.length ≤ 100000) : Ev (fun f => spec_chPairs.f f xs k) (sumsOf xs k) := by
  have h := spec_outer xs k hk hl k.toNat 0 [] (by omega) (by omega) (by simp only [List.length_nil]; omega)
  simpa [sumsOf, spec_chPairs.f] using h

theorem impl_inner (xs : List Int) (k j : Int) (r : List St) (hj : 0 ≤ j) (hjk : j < k) (hk : k < xs.length) (hl : xs.length ≤ 100000) : ∀ (d : Nat) (i : Int) (acc : List St), 0 ≤ i → i + d = j + 1 → acc.length + d ≤ 8000000000000 →
    Ev (fun f => impl_sums.l0 f xs k (acc ++ inner xs k j d i) k (j + 1)) r → Ev (fun f => impl_sums.l1 f xs k acc j k j (j + 1) i) r := by
  intro d
  induction d with
  | zero =>
    intro i acc hi hd _ h
    refine ev_shift ?_
    simp only [impl_sums.l1, if_neg (show ¬ i < j + 1 by omega), w64 (show -9223372036854775808 ≤ j + 1 by omega) (by omega)]
    simpa [inner] using h
  | succ d ih =>
    intro i acc hi hd hacc h
    refine ev_shift ?_
    simp only [impl_sums.l1, if_pos (show i < j + 1 by omega), if_pos hi, if_pos (show i < (xs.length : Int) by omega), if_pos hj, if_pos (show j < (xs.length : Int) by omega), if_pos (show 0 ≤ k by omega), if_pos hk,
      w64 (show -9223372036854775808 ≤ i + 1 by omega) (by omega)]
    by_cases c : wrap64 (rd xs i + rd xs j) = rd xs k
    · simp only [if_pos c, if_pos (show acc.length < 8796093022208 by omega)]
      refine ih (i + 1) (acc ++ [⟨i, j⟩]) (by omega) (by omega) (by simp only [List.length_append, List.length_singleton]; omega) ?_
      simpa [inner, c] using h
    · simp only [if_neg c]
      refine ih (i + 1) acc (by omega) (by omega) (by omega) ?_
      simpa [inner, c] using h

theorem impl_outer (xs : List Int) (k : Int) (hk : k < xs.length) (hl : xs.length ≤ 100000) : ∀ (d : Nat) (j : Int) (acc : List St), 0 ≤ j → j + d = k → acc.length + d * 100001 ≤ 8000000000000 →
    Ev (fun f => impl_sums.l0 f xs k acc k j) (acc ++ outer xs k d j) := by
  intro d
  induction d with
  | zero =>
    intro j acc hj hd _
    refine ev_shift ?_
    simp only [impl_sums.l0, if_neg (show ¬ j < k by omega), outer, List.append_nil]
    exact Ev.now _
  | succ d ih =>
    intro j acc hj hd hacc
    refine ev_shift ?_
    simp only [impl_sums.l0, if_pos (show j < k by omega), w64 (show -9223372036854775808 ≤ j + 1 by omega) (by omega)]
    have hi := inner_length xs k j (j + 1).toNat 0
    refine impl_inner xs k j _ hj (by omega) hk hl (j + 1).toNat 0 acc (by omega) (by omega) (by omega) ?_
    have h := ih (j + 1) (acc ++ inner xs k j (j + 1).toNat 0) (by omega) (by omega) (by rw [List.length_append]; omega)
    simpa [outer] using h

theorem sums_ev (xs : List Int) (k : Int) (h0 : 0 ≤ k) (hk : k < xs.length) (hl : xs.length ≤ 100000) : Ev (fun f => impl_sums.f f xs k) (sumsOf xs k) := by
  have h := impl_outer xs k hk hl k.toNat 0 [] (by omega) (by omega) (by simp only [List.length_nil]; omega)
  simpa [sumsOf, impl_sums.f] using h

/-! the chain's test, in both ways -/
def risingFrom (xs : List Int) : Nat → Int → Bool
  | 0, _ => true
  | d + 1, i => if rd xs i ≥ 1 then (if rd xs i ≤ 1000000 then (if i > 0 then (if rd xs (i - 1) ≥ rd xs i then false else risingFrom xs d (i + 1)) else risingFrom xs d (i + 1)) else false) else false
def pairsFrom (xs : List Int) : Nat → Int → Bool
  | 0, _ => true
  | d + 1, k => if (sumsOf xs k).length = 0 then false else pairsFrom xs d (k + 1)
def implFrom (xs : List Int) : Nat → Int → Bool
  | 0, _ => true
  | d + 1, k => if rd xs k ≤ rd xs (k - 1) then false else if rd xs k > 1000000 then false else if (sumsOf xs k).length = 0 then false else implFrom xs d (k + 1)
/-- Is it a chain? -/
def chain (xs : List Int) : Bool := if 1 ≤ xs.length ∧ xs.length ≤ 41 then (if rd xs 0 = 1 then implFrom xs (xs.length - 1) 1 else false) else false

theorem from_same (xs : List Int) : ∀ (d : Nat) (i : Int), 1 ≤ i → 1 ≤ rd xs (i - 1) → (risingFrom xs d i && pairsFrom xs d i) = implFrom xs d i
  | 0, _, _, _ => rfl
  | d + 1, i, h1, h2 => by
    unfold risingFrom pairsFrom implFrom
    rw [if_pos (show i > 0 by omega)]
    by_cases c1 : rd xs i ≤ rd xs (i - 1)
    · rw [if_pos c1, if_pos (show rd xs (i - 1) ≥ rd xs i from c1)]
      split
      · split <;> rfl
      · rfl
    · rw [if_neg c1, if_neg (show ¬ rd xs (i - 1) ≥ rd xs i from c1), if_pos (show rd xs i ≥ 1 by omega)]
      by_cases c2 : rd xs i > 1000000
      · rw [if_pos c2, if_neg (by omega)]; rfl
      · rw [if_neg c2, if_pos (by omega)]
        by_cases c3 : (sumsOf xs i).length = 0
        · rw [if_pos c3, if_pos c3, Bool.and_false]
        · rw [if_neg c3, if_neg c3]
          have e : i + 1 - 1 = i := by omega
          exact from_same xs d (i + 1) (by omega) (by rw [e]; omega)

theorem l1In_eq (a b c : Int) : spec_l1In.f a b c = some (decide (b ≤ a) && decide (a ≤ c)) := by
  unfold spec_l1In.f
  by_cases h : a ≥ b
  · rw [if_pos h]; simp [show b ≤ a from h]
  · rw [if_neg h]; simp [show ¬ b ≤ a from h]
theorem in_eq (a b c : Int) : impl_in.f a b c = some (decide (b ≤ a) && decide (a ≤ c)) := by
  unfold impl_in.f
  by_cases h : a ≥ b
  · rw [if_pos h]; simp [show b ≤ a from h]
  · rw [if_neg h]; simp [show ¬ b ≤ a from h]

theorem rising_ev (xs : List Int) (hl : xs.length ≤ 100000) : ∀ (d : Nat) (i : Int), 0 ≤ i → i + d = xs.length → Ev (fun f => spec_l1Rising.l0 f xs 1 1000000 xs xs.length i) (risingFrom xs d i) := by
  intro d
  induction d with
  | zero =>
    intro i h0 hd
    refine ev_shift ?_
    simp only [spec_l1Rising.l0, if_neg (show ¬ i < (xs.length : Int) by omega), risingFrom]
    exact Ev.now _
  | succ d ih =>
    intro i h0 hd
    have hn := ih (i + 1) (by omega) (by omega)
    refine ev_shift ?_
    simp only [spec_l1Rising.l0, if_pos (show i < (xs.length : Int) by omega), if_pos h0, w64 (show -9223372036854775808 ≤ i + 1 by omega) (by omega), w64 (show -9223372036854775808 ≤ i - 1 by omega) (by omega), l1In_eq, Option.bind_some]
    unfold risingFrom
    by_cases c1 : rd xs i ≥ 1
    · by_cases c2 : rd xs i ≤ 1000000
      · rw [if_pos c1, if_pos c2]
        simp only [decide_eq_true (show 1 ≤ rd xs i from c1), decide_eq_true c2, Bool.and_self, if_true]
        by_cases c3 : i > 0
        · simp only [if_pos c3, if_pos (show 0 ≤ i - 1 by omega), if_pos (show i - 1 < (xs.length : Int) by omega)]
          by_cases c4 : rd xs (i - 1) ≥ rd xs i
          · simp only [if_pos c4]; exact Ev.now _
          · simp only [if_neg c4]; exact hn
        · simp only [if_neg c3]; exact hn
      · rw [if_pos c1, if_neg c2]
        simp only [decide_eq_false c2, Bool.and_false, Bool.false_eq_true, if_false]
        exact Ev.now _
    · rw [if_neg c1]
      simp only [decide_eq_false (show ¬ 1 ≤ rd xs i from c1), Bool.false_and, Bool.false_eq_true, if_false]
      exact Ev.now _

theorem pairs_ev (xs : List Int) (hl : xs.length ≤ 100000) : ∀ (d : Nat) (k : Int), 0 ≤ k → k + d = xs.length → Ev (fun f => spec_chGood.l0 f xs k) (pairsFrom xs d k) := by
  intro d
  induction d with
  | zero =>
    intro i h0 hd
    refine ev_shift ?_
    simp only [spec_chGood.l0, if_neg (show ¬ i < (xs.length : Int) by omega), pairsFrom]
    exact Ev.now _
  | succ d ih =>
    intro i h0 hd
    have hn := ih (i + 1) (by omega) (by omega)
    refine ev_shift ?_
    simp only [spec_chGood.l0, if_pos (show i < (xs.length : Int) by omega), w64 (show -9223372036854775808 ≤ i + 1 by omega) (by omega)]
    refine ev_bind (chPairs_ev xs i h0 (by omega) hl) ?_
    unfold pairsFrom
    by_cases c : (sumsOf xs i).length = 0
    · simp only [if_pos c, if_pos (show ((sumsOf xs i).length : Int) = 0 by omega)]; exact Ev.now _
    · simp only [if_neg c, if_neg (show ¬ ((sumsOf xs i).length : Int) = 0 by omega)]; exact hn

theorem implFrom_ev (xs : List Int) (hl : xs.length ≤ 100000) : ∀ (d : Nat) (k : Int), 1 ≤ k → k + d = xs.length → Ev (fun f => impl_IsChain.l0 f xs k) (implFrom xs d k) := by
  intro d
  induction d with
  | zero =>
    intro i h0 hd
    refine ev_shift ?_
    simp only [impl_IsChain.l0, if_neg (show ¬ i < (xs.length : Int) by omega), implFrom]
    exact Ev.now _
  | succ d ih =>
    intro i h0 hd
    have hn := ih (i + 1) (by omega) (by omega)
    refine ev_shift ?_
    simp only [impl_IsChain.l0, if_pos (show i < (xs.length : Int) by omega), if_pos (show 0 ≤ i by omega), w64 (show -9223372036854775808 ≤ i + 1 by omega) (by omega), w64 (show -9223372036854775808 ≤ i - 1 by omega) (by omega), if_pos (show 0 ≤ i - 1 by omega), if_pos (show i - 1 < (xs.length : Int) by omega)]
    unfold implFrom
    by_cases c1 : rd xs i ≤ rd xs (i - 1)
    · simp only [if_pos c1]; exact Ev.now _
    · simp only [if_neg c1]
      by_cases c2 : rd xs i > 1000000
      · simp only [if_pos c2]; exact Ev.now _
      · simp only [if_neg c2]
        refine ev_bind (sums_ev xs i (by omega) (by omega) hl) ?_
        by_cases c : (sumsOf xs i).length = 0
        · simp only [if_pos c, if_pos (show ((sumsOf xs i).length : Int) = 0 by omega)]; exact Ev.now _
        · simp only [if_neg c, if_neg (show ¬ ((sumsOf xs i).length : Int) = 0 by omega)]; exact hn

theorem isChain_ev (xs : List Int) (hl : xs.length ≤ 1048576) : Ev (fun f => impl_IsChain.f f xs) (chain xs) := by
  unfold impl_IsChain.f chain
  simp only [in_eq, Option.bind_some]
  by_cases c : 1 ≤ xs.length ∧ xs.length ≤ 41
  · simp only [if_pos c, decide_eq_true (show (1 : Int) ≤ xs.length by omega), decide_eq_true (show (xs.length : Int) ≤ 41 by omega), Bool.and_self, if_true, if_pos (show (0 : Int) < xs.length by omega)]
    by_cases c1 : rd xs 0 = 1
    · simp only [if_pos c1]
      refine ev_shift ?_
      simp only [impl_IsChain.j0, c1, bne_self_eq_false, Bool.false_eq_true, if_false]
      exact implFrom_ev xs (by omega) (xs.length - 1) 1 (by omega) (by omega)
    · simp only [if_neg c1]
      refine ev_shift ?_
      simp only [impl_IsChain.j0, bne_iff_ne.mpr c1, if_true]
      exact Ev.now _
  · rw [if_neg c]
    have e : (decide ((1 : Int) ≤ xs.length) && decide ((xs.length : Int) ≤ 41)) = false := by
      rw [Bool.and_eq_false_iff, decide_eq_false_iff_not, decide_eq_false_iff_not]; omega
    simp only [e, Bool.false_eq_true, if_false]
    refine ev_shift ?_
    simp only [impl_IsChain.j0, if_true]
    exact Ev.now _

theorem chGood_ev (xs : List Int) (hl : xs.length ≤ 1048576) : Ev (fun f => spec_chGood.f f xs) (chain xs) := by
  unfold spec_chGood.f chain
  simp only [l1In_eq, Option.bind_some]
  by_cases c : 1 ≤ xs.length ∧ xs.length ≤ 41
  · simp only [if_pos c, decide_eq_true (show (1 : Int) ≤ xs.length by omega), decide_eq_true (show (xs.length : Int) ≤ 41 by omega), Bool.and_self, if_true, if_pos (show (0 : Int) < xs.length by omega)]
    by_cases c1 : rd xs 0 = 1
    · simp only [if_pos c1]
      unfold spec_l1Rising.f
      refine ev_bind (rising_ev xs (by omega) xs.length 0 (by omega) (by omega)) ?_
      obtain ⟨n, hn⟩ : ∃ n, xs.length = n + 1 := ⟨xs.length - 1, by omega⟩
      have e1 : risingFrom xs xs.length 0 = risingFrom xs n 1 := by
        rw [hn, risingFrom, c1, if_pos (by decide), if_pos (by decide), if_neg (by decide)]
        rfl
      have e2 : xs.length - 1 = n := by omega
      rw [e1, e2, ← from_same xs n 1 (by omega) (by rw [show (1 : Int) - 1 = 0 from rfl, c1]; omega)]
      refine ev_shift ?_
      simp only [spec_chGood.j0]
      cases hr : risingFrom xs n 1 with
      | false =>
        simp only [Bool.not_false, if_true, Bool.false_and]
        exact Ev.now _
      | true =>
        simp only [Bool.not_true, Bool.false_eq_true, if_false, Bool.true_and]
        exact pairs_ev xs (by omega) n 1 (by omega) (by omega)
    · simp only [if_neg c1]
      refine ev_shift ?_
      simp only [spec_chGood.j0, if_true]
      exact Ev.now _
  · rw [if_neg c]
    have e : (decide ((1 : Int) ≤ xs.length) && decide ((xs.length : Int) ≤ 41)) = false := by
      rw [Bool.and_eq_false_iff, decide_eq_false_iff_not, decide_eq_false_iff_not]; omega
    simp only [e, Bool.false_eq_true, if_false]
    refine ev_shift ?_
    simp only [spec_chGood.j0, if_true]
    exact Ev.now _

theorem implFrom_head (xs : List Int) (d : Nat) (k : Int) (h : implFrom xs (d + 1) k = true) : (sumsOf xs k).length ≠ 0 ∧ implFrom xs d (k + 1) = true ∧ rd xs (k - 1) < rd xs k ∧ rd xs k ≤ 1000000 := by
  unfold implFrom at h
  split at h
  · cases h
  · split at h
    · cases h
    · split at h
      · cases h
      · rename_i a b c
        exact ⟨c, h, by omega, by omega⟩
theorem chain_from (xs : List Int) (h : chain xs = true) : 1 ≤ xs.length ∧ xs.length ≤ 41 ∧ rd xs 0 = 1 ∧ implFrom xs (xs.length - 1) 1 = true := by
  unfold chain at h
  split at h
  · rename_i c
    split at h
    · rename_i c1
      exact ⟨c.1, c.2, c1, h⟩
    · cases h
  · cases h

abbrev rdS (ss : List St) (i : Int) : St := rd_T73 ss i
theorem outer_length (xs : List Int) (k : Int) : ∀ (d : Nat) (j : Int), 0 ≤ j → j + d ≤ 100000 → (outer xs k d j).length ≤ d * 100001
  | 0, _, _, _ => Nat.le_refl _
  | d + 1, j, h0, h1 => by
    have h2 := outer_length xs k d (j + 1) (by omega) (by omega)
    have h3 := inner_length xs k j (j + 1).toNat 0
    unfold outer
    rw [List.length_append]
    omega
theorem sums_length (xs : List Int) (k : Int) (h0 : 0 ≤ k) (h1 : k ≤ 100000) : (sumsOf xs k).length ≤ 10000100000 := by
  have := outer_length xs k k.toNat 0 (by omega) (by omega)
  unfold sumsOf
  omega
def lastOf (ss : List St) : St := rdS ss (ss.length - 1)
def stepsFrom (xs : List Int) : Nat → Int → List St
  | 0, _ => []
  | d + 1, k => lastOf (sumsOf xs k) :: stepsFrom xs d (k + 1)
theorem stepsFrom_length (xs : List Int) : ∀ (d : Nat) (k : Int), (stepsFrom xs d k).length = d
  | 0, _ => rfl
  | d + 1, k => by rw [stepsFrom, List.length_cons, stepsFrom_length xs d (k + 1)]
/-- ChainSteps of a chain. -/
def stepsOf (xs : List Int) : List St := stepsFrom xs (xs.length - 1) 1

theorem chSteps_loop (xs : List Int) (hl : xs.length ≤ 100000) : ∀ (d : Nat) (k : Int) (acc : List St), 1 ≤ k → k + d = xs.length → acc.length + d ≤ 8000000000000 → implFrom xs d k = true → Ev (fun f => spec_chSteps.l0 f xs acc k) (acc ++ stepsFrom xs d k) := by
  intro d
  induction d with
  | zero =>
    intro k acc h0 hd _ _
    refine ev_shift ?_
    simp only [spec_chSteps.l0, if_neg (show ¬ k < (xs.length : Int) by omega), stepsFrom, List.append_nil]
    exact Ev.now _
  | succ d ih =>
    intro k acc h0 hd ha hi
    obtain ⟨h1, h2, _, _⟩ := implFrom_head xs d k hi
    have h3 := sums_length xs k (by omega) (by omega)
    refine ev_shift ?_
    simp only [spec_chSteps.l0, if_pos (show k < (xs.length : Int) by omega), w64 (show -9223372036854775808 ≤ k + 1 by omega) (by omega)]
    refine ev_bind (chPairs_ev xs k (by omega) (by omega) hl) ?_
    simp only [w64 (show -9223372036854775808 ≤ ((sumsOf xs k).length : Int) - 1 by omega) (by omega), if_pos (show 0 ≤ ((sumsOf xs k).length : Int) - 1 by omega), if_pos (show ((sumsOf xs k).length : Int) - 1 < (sumsOf xs k).length by omega), if_pos (show acc.length < 8796093022208 by omega)]
    have h := ih (k + 1) (acc ++ [lastOf (sumsOf xs k)]) (by omega) (by omega) (by simp only [List.length_append, List.length_singleton]; omega) h2
    simp only [List.append_assoc, List.singleton_append] at h
    exact h

theorem chainSteps_loop (xs : List Int) (hl : xs.length ≤ 100000) : ∀ (d : Nat) (k : Int) (acc : List St), 1 ≤ k → k + d = xs.length → acc.length + d ≤ 8000000000000 → implFrom xs d k = true → Ev (fun f => impl_chainSteps.l0 f xs acc k) (acc ++ stepsFrom xs d k) := by
  intro d
  induction d with
  | zero =>
    intro k acc h0 hd _ _
    refine ev_shift ?_
    simp only [impl_chainSteps.l0, if_neg (show ¬ k < (xs.length : Int) by omega), stepsFrom, List.append_nil]
    exact Ev.now _
  | succ d ih =>
    intro k acc h0 hd ha hi
    obtain ⟨h1, h2, _, _⟩ := implFrom_head xs d k hi
    have h3 := sums_length xs k (by omega) (by omega)
    refine ev_shift ?_
    simp only [impl_chainSteps.l0, if_pos (show k < (xs.length : Int) by omega), w64 (show -9223372036854775808 ≤ k + 1 by omega) (by omega)]
    refine ev_bind (sums_ev xs k (by omega) (by omega) hl) ?_
    simp only [w64 (show -9223372036854775808 ≤ ((sumsOf xs k).length : Int) - 1 by omega) (by omega), if_pos (show 0 ≤ ((sumsOf xs k).length : Int) - 1 by omega), if_pos (show ((sumsOf xs k).length : Int) - 1 < (sumsOf xs k).length by omega), if_pos (show acc.length < 8796093022208 by omega)]
    have h := ih (k + 1) (acc ++ [lastOf (sumsOf xs k)]) (by omega) (by omega) (by simp only [List.length_append, List.length_singleton]; omega) h2
    simp only [List.append_assoc, List.singleton_append] at h
    exact h

theorem chSteps_ev (xs : List Int) (h : chain xs = true) : Ev (fun f => spec_chSteps.f f xs) (stepsOf xs) := by
  obtain ⟨h1, h2, _, h4⟩ := chain_from xs h
  have := chSteps_loop xs (by omega) (xs.length - 1) 1 [] (by omega) (by omega) (by simp only [List.length_nil]; omega) h4
  simpa [stepsOf, spec_chSteps.f] using this
theorem chainSteps_ev (xs : List Int) (h : chain xs = true) : Ev (fun f => impl_chainSteps.f f xs) (stepsOf xs) := by
  obtain ⟨h1, h2, _, h4⟩ := chain_from xs h
  have := chainSteps_loop xs (by omega) (xs.length - 1) 1 [] (by omega) (by omega) (by simp only [List.length_nil]; omega) h4
  simpa [stepsOf, impl_chainSteps.f] using this
theorem stepsOf_length (xs : List Int) (h : chain xs = true) : (stepsOf xs).length ≤ 40 := by
  obtain ⟨h1, h2, _, _⟩ := chain_from xs h
  unfold stepsOf
  rw [stepsFrom_length]
  omega

def markedS (n : Nat) (a : Int) : List St := (List.range n).map (fun j : Nat => (⟨a + 2 * (j : Int), a + 2 * (j : Int) + 1⟩ : St))
theorem markedS_length (n : Nat) (a : Int) : (markedS n a).length = n := by simp [markedS]
theorem markedS_succ (n : Nat) (a : Int) : markedS (n + 1) a = markedS n a ++ [⟨a + 2 * (n : Int), a + 2 * (n : Int) + 1⟩] := by simp [markedS, List.range_succ]
theorem rdS_nat (ss : List St) (j : Nat) : rdS ss (j : Int) = ss.getD j z73 := by unfold rdS rd_T73; rw [Int.toNat_natCast]
theorem markedS_get (n : Nat) (a : Int) (j : Nat) (h : j < n) : rdS (markedS n a) (j : Int) = ⟨a + 2 * (j : Int), a + 2 * (j : Int) + 1⟩ := by rw [rdS_nat]; simp [markedS, List.getD, h]

theorem setS (l : List St) (x : St) (y : St) (t : List St) : (l ++ x :: t).set l.length y = l ++ y :: t := by
  rw [List.set_append_right _ _ (Nat.le_refl _), Nat.sub_self, List.set_cons_zero]
theorem getS (l : List St) (x : St) (t : List St) : rdS (l ++ x :: t) (l.length : Int) = x := by
  rw [rdS_nat]; simp [List.getD]

theorem markStepS_ev (xs : List St) (a : Int) (h0 : 0 ≤ a) (ha : a + 2 * xs.length ≤ 4611686018427387904) : Ev (fun k => laws_markStepS.f k xs a) (a + 2 * xs.length, markedS xs.length a) := by
  have loop : ∀ (d k i : Nat), i ≤ xs.length → xs.length - i = d → d < k → laws_markStepS.l0 k (markedS i a ++ xs.drop i) (a + 2 * i) i = some (a + 2 * xs.length, markedS xs.length a) := by
    intro d
    induction d with
    | zero =>
      intro k i h1 hd hk
      obtain ⟨k, rfl⟩ : ∃ m, k = m + 1 := ⟨k - 1, by omega⟩
      obtain rfl : i = xs.length := by omega
      have hl : (markedS xs.length a ++ xs.drop xs.length).length = xs.length := by simp [markedS_length]
      rw [laws_markStepS.l0, hl, if_neg (by omega)]
      simp
    | succ d ih =>
      intro k i h1 hd hk
      obtain ⟨k, rfl⟩ : ∃ m, k = m + 1 := ⟨k - 1, by omega⟩
      have hlt : i < xs.length := by omega
      have hl : (markedS i a ++ xs.drop i).length = xs.length := by simp [markedS_length]; omega
      have hm := markedS_length i a
      rw [laws_markStepS.l0, hl, if_pos (by omega), if_pos (by omega), Int.toNat_natCast, List.drop_eq_getElem_cons hlt]
      have e1 := setS (markedS i a) xs[i] ⟨a + 2 * (i : Int), (rdS (markedS i a ++ xs[i] :: xs.drop (i + 1)) (i : Int)).f1⟩ (xs.drop (i + 1))
      rw [hm] at e1
      unfold rdS at e1
      rw [e1]
      simp only [Option.bind_some]
      have e2 := getS (markedS i a) ⟨a + 2 * (i : Int), (rdS (markedS i a ++ xs[i] :: xs.drop (i + 1)) (i : Int)).f1⟩ (xs.drop (i + 1))
      rw [hm] at e2
      unfold rdS at e2
      rw [e2]
      have e3 := setS (markedS i a) ⟨a + 2 * (i : Int), (rdS (markedS i a ++ xs[i] :: xs.drop (i + 1)) (i : Int)).f1⟩ ⟨a + 2 * (i : Int), a + 2 * (i : Int) + 1⟩ (xs.drop (i + 1))
      rw [hm] at e3
      unfold rdS at e3
      rw [w64 (show -9223372036854775808 ≤ a + 2 * (i : Int) + 1 by omega) (by omega), e3, w64 (show -9223372036854775808 ≤ a + 2 * (i : Int) + 1 + 1 by omega) (by omega), w64 (show -9223372036854775808 ≤ (i : Int) + 1 by omega) (by omega)]
      have h := ih k (i + 1) (by omega) (by omega) (by omega)
      rw [markedS_succ, List.append_assoc, List.singleton_append] at h
      have e4 : a + 2 * ((i + 1 : Nat) : Int) = a + 2 * (i : Int) + 1 + 1 := by omega
      rw [e4] at h
      exact h
  refine ⟨xs.length + 1, fun k hk => ?_⟩
  have h := loop xs.length k 0 (by omega) (by omega) (by omega)
  simpa [markedS, laws_markStepS.f] using h

theorem heldStepS_ev (n : Nat) (a : Int) (h0 : 0 ≤ a) (ha : a + 2 * n ≤ 4611686018427387904) : Ev (fun k => laws_heldStepS.f k (markedS n a) a) (a + 2 * n) := by
  have loop : ∀ (d k i : Nat), i ≤ n → n - i = d → d < k → laws_heldStepS.l0 k (markedS n a) (a + 2 * i) i = some (a + 2 * n) := by
    intro d
    induction d with
    | zero =>
      intro k i h1 hd hk
      obtain ⟨k, rfl⟩ : ∃ m, k = m + 1 := ⟨k - 1, by omega⟩
      obtain rfl : i = n := by omega
      rw [laws_heldStepS.l0, markedS_length, if_neg (by omega)]
    | succ d ih =>
      intro k i h1 hd hk
      obtain ⟨k, rfl⟩ : ∃ m, k = m + 1 := ⟨k - 1, by omega⟩
      have hg := markedS_get n a i (by omega)
      unfold rdS at hg
      rw [laws_heldStepS.l0, markedS_length, if_pos (by omega), if_pos (by omega), hg, if_pos rfl, w64 (show -9223372036854775808 ≤ a + 2 * (i : Int) + 1 by omega) (by omega), if_pos rfl, w64 (show -9223372036854775808 ≤ a + 2 * (i : Int) + 1 + 1 by omega) (by omega), w64 (show -9223372036854775808 ≤ (i : Int) + 1 by omega) (by omega)]
      have e : a + 2 * (i : Int) + 1 + 1 = a + 2 * ((i + 1 : Nat) : Int) := by omega
      rw [e]
      exact ih k (i + 1) (by omega) (by omega) (by omega)
  refine ⟨n + 1, fun k hk => ?_⟩
  have h := loop n k 0 (by omega) (by omega) (by omega)
  simpa [laws_heldStepS.f] using h

theorem eqStep_same (a b : Int) : laws_eqStep.f a b a b = some true := by simp [laws_eqStep.f]
theorem eqStepS_same (xs : List St) (hb : xs.length ≤ 4611686018427387904) : Ev (fun k => laws_eqStepS.f k xs xs) true := by
  have loop : ∀ (d k : Nat) (i : Int), 0 ≤ i → i ≤ xs.length → (xs.length : Int) - i = d → d < k → laws_eqStepS.l0 k xs xs i = some true := by
    intro d
    induction d with
    | zero =>
      intro k i h0 h1 hd hk
      obtain ⟨k, rfl⟩ : ∃ m, k = m + 1 := ⟨k - 1, by omega⟩
      rw [laws_eqStepS.l0, if_neg (by omega)]
    | succ d ih =>
      intro k i h0 h1 hd hk
      obtain ⟨k, rfl⟩ : ∃ m, k = m + 1 := ⟨k - 1, by omega⟩
      rw [laws_eqStepS.l0, if_pos (by omega), if_pos h0, if_pos (by omega), eqStep_same]
      simp only [Option.bind_some, if_true]
      rw [w64 (by omega) (by omega)]
      exact ih k (i + 1) (by omega) (by omega) (by omega) (by omega)
  refine ⟨xs.length + 1, fun k hk => ?_⟩
  show laws_eqStepS.f k xs xs = some true
  unfold laws_eqStepS.f
  rw [if_pos rfl]
  exact loop xs.length k 0 (by omega) (by omega) (by omega) (by omega)
theorem eqPlan_same (n : Int) (ss : List (S73)) (os : List Int) (h1 : ss.length ≤ 1048576) (h2 : os.length ≤ 1048576) : Ev (fun k => laws_eqPlan.f k n ss os n ss os) true := by
  unfold laws_eqPlan.f
  simp only [if_true]
  refine ev_bind (eqStepS_same ss (by omega)) ?_
  simp only [if_true]
  refine ev_bind (eqIntS_same os (by omega)) ?_
  simp only [if_true]
  exact Ev.now _
/-! exponents -/
/-- Is each step from i on in order. -/
def InOrder (n : Nat) (ss : List (S73)) : Prop := ∀ i : Nat, i < ss.length → 0 ≤ (rd_T73 ss i).f0 ∧ (rd_T73 ss i).f0 ≤ (rd_T73 ss i).f1 ∧ (rd_T73 ss i).f1 < n + i
/-! the plan of a chain -/
theorem inner_mem (xs : List Int) (k j : Int) (hj : 0 ≤ j) : ∀ (d : Nat) (i : Int), 0 ≤ i → i + d = j + 1 → ∀ s ∈ inner xs k j d i, 0 ≤ s.f0 ∧ s.f0 ≤ j ∧ s.f1 = j ∧ wrap64 (rd xs s.f0 + rd xs s.f1) = rd xs k
  | 0, _, _, _, s, h => by cases h
  | d + 1, i, h0, hd, s, h => by
    unfold inner at h
    split at h
    · rename_i c
      rcases List.mem_cons.1 h with rfl | h
      · exact ⟨h0, by show i ≤ j; omega, rfl, c⟩
      · exact inner_mem xs k j hj d (i + 1) (by omega) (by omega) s h
    · exact inner_mem xs k j hj d (i + 1) (by omega) (by omega) s h
theorem outer_mem (xs : List Int) (k : Int) : ∀ (d : Nat) (j : Int), 0 ≤ j → j + d = k → ∀ s ∈ outer xs k d j, 0 ≤ s.f0 ∧ s.f0 ≤ s.f1 ∧ s.f1 < k ∧ wrap64 (rd xs s.f0 + rd xs s.f1) = rd xs k
  | 0, _, _, _, s, h => by cases h
  | d + 1, j, h0, hd, s, h => by
    unfold outer at h
    rcases List.mem_append.1 h with h | h
    · obtain ⟨a, b, c, e⟩ := inner_mem xs k j h0 (j + 1).toNat 0 (by omega) (by omega) s h
      exact ⟨a, by omega, by omega, e⟩
    · exact outer_mem xs k d (j + 1) (by omega) (by omega) s h
theorem lastOf_mem (ss : List St) (h : ss.length ≠ 0) : lastOf ss ∈ ss := by
  unfold lastOf rdS rd_T73
  have e : ((ss.length : Int) - 1).toNat < ss.length := by omega
  generalize ((ss.length : Int) - 1).toNat = q at e ⊢
  rw [show ss.getD q z73 = ss[q] by simp [List.getD, e]]
  exact List.getElem_mem e
theorem stepsFrom_get (xs : List Int) : ∀ (d : Nat) (k : Int) (j : Nat), j < d → rdS (stepsFrom xs d k) (j : Int) = lastOf (sumsOf xs (k + j))
  | 0, _, _, h => absurd h (Nat.not_lt_zero _)
  | d + 1, k, 0, _ => by
    rw [rdS_nat, stepsFrom, show k + ((0 : Nat) : Int) = k by omega]; rfl
  | d + 1, k, j + 1, h => by
    have := stepsFrom_get xs d (k + 1) j (by omega)
    rw [rdS_nat] at this
    rw [rdS_nat, stepsFrom, show k + ((j + 1 : Nat) : Int) = k + 1 + (j : Int) by omega, ← this]
    rfl
theorem implFrom_at (xs : List Int) : ∀ (d : Nat) (k : Int), implFrom xs d k = true → ∀ j : Nat, j < d → (sumsOf xs (k + j)).length ≠ 0 ∧ rd xs (k + j) ≤ 1000000 ∧ rd xs (k + j - 1) < rd xs (k + j)
  | 0, _, _, _, h => absurd h (Nat.not_lt_zero _)
  | d + 1, k, hi, 0, _ => by
    obtain ⟨a, _, c, e⟩ := implFrom_head xs d k hi
    rw [show k + ((0 : Nat) : Int) = k by omega]
    exact ⟨a, e, c⟩
  | d + 1, k, hi, j + 1, h => by
    obtain ⟨_, b, _, _⟩ := implFrom_head xs d k hi
    have := implFrom_at xs d (k + 1) b j (by omega)
    rw [show k + ((j + 1 : Nat) : Int) = k + 1 + (j : Int) by omega]
    exact this
theorem stepOf_fact (xs : List Int) (h : chain xs = true) (j : Nat) (hj : j < xs.length - 1) : 0 ≤ (rdS (stepsOf xs) j).f0 ∧ (rdS (stepsOf xs) j).f0 ≤ (rdS (stepsOf xs) j).f1 ∧ (rdS (stepsOf xs) j).f1 < 1 + (j : Int) ∧ wrap64 (rd xs (rdS (stepsOf xs) j).f0 + rd xs (rdS (stepsOf xs) j).f1) = rd xs (1 + (j : Int)) := by
  obtain ⟨h1, h2, h3, h4⟩ := chain_from xs h
  have hs := (implFrom_at xs _ _ h4 j hj).1
  unfold stepsOf
  rw [stepsFrom_get xs _ _ j hj]
  exact outer_mem xs (1 + (j : Int)) (1 + (j : Int)).toNat 0 (by omega) (by omega) _ (lastOf_mem _ hs)
theorem chain_le (xs : List Int) (h : chain xs = true) (j : Nat) (hj : j < xs.length) : 1 ≤ rd xs j ∧ rd xs j ≤ 1000000 := by
  obtain ⟨h1, h2, h3, h4⟩ := chain_from xs h
  induction j with
  | zero => rw [show ((0 : Nat) : Int) = 0 by rfl, h3]; omega
  | succ j ih =>
    have i := ih (by omega)
    obtain ⟨_, b, c⟩ := implFrom_at xs _ _ h4 j (by omega)
    rw [show (1 : Int) + (j : Int) - 1 = (j : Int) by omega] at c
    rw [show ((j + 1 : Nat) : Int) = 1 + (j : Int) by omega]
    omega
theorem chain_order (xs : List Int) (h : chain xs = true) : InOrder 1 (stepsOf xs) := by
  intro i hi
  unfold stepsOf at hi
  rw [stepsFrom_length] at hi
  obtain ⟨a, b, c, _⟩ := stepOf_fact xs h i hi
  exact ⟨a, b, c⟩
theorem markPlan_ev (n : Int) (ss : List St) (os : List Int) (h1 : ss.length ≤ 2000000) (h2 : os.length ≤ 2000000) : Ev (fun k => laws_markPlan.f k n ss os 1) (1 + 2 * ss.length + os.length, markedS ss.length 1, marked os.length (1 + 2 * ss.length)) := by
  unfold laws_markPlan.f
  refine ev_bind (markStepS_ev ss 1 (by omega) (by omega)) ?_
  refine ev_bind (markIntS_ev os (1 + 2 * ss.length) (by omega) (by omega)) ?_
  exact Ev.now _
theorem heldPlan_ev (n : Int) (a b : Nat) (h1 : a ≤ 1000000) (h2 : b ≤ 1000000) : Ev (fun k => laws_heldPlan.f k n (markedS a 1) (marked b (1 + 2 * a)) 1) (1 + 2 * (a : Int) + b) := by
  unfold laws_heldPlan.f
  refine ev_bind (heldStepS_ev a 1 (by omega) (by omega)) ?_
  simp only [if_neg (show ¬ (1 : Int) + 2 * (a : Int) < 0 by omega)]
  refine ev_bind (heldIntS_ev b (1 + 2 * a) (by omega) (by omega)) ?_
  simp only [if_neg (show ¬ (1 : Int) + 2 * (a : Int) + (b : Int) < 0 by omega)]
  exact Ev.now _
def hasFrom (ys : List Int) (x : Int) : Nat → Int → Bool
  | 0, _ => false
  | d + 1, i => if rd ys i = x then true else hasFrom ys x d (i + 1)
/-- Is x among them? -/
def has (ys : List Int) (x : Int) : Bool := hasFrom ys x ys.length 0
theorem hasFrom_at (ys : List Int) (x : Int) : ∀ (d : Nat) (i : Int), hasFrom ys x d i = true → ∃ j, i ≤ j ∧ j < i + d ∧ rd ys j = x
  | 0, _, h => by cases h
  | d + 1, i, h => by
    unfold hasFrom at h
    split at h
    · rename_i c; exact ⟨i, by omega, by omega, c⟩
    · obtain ⟨j, h1, h2, h3⟩ := hasFrom_at ys x d (i + 1) h
      exact ⟨j, by omega, by omega, h3⟩
theorem hasFrom_mk (ys : List Int) (x : Int) : ∀ (d : Nat) (i j : Int), i ≤ j → j < i + d → rd ys j = x → hasFrom ys x d i = true
  | 0, _, _, _, _, _ => by omega
  | d + 1, i, j, h1, h2, h3 => by
    unfold hasFrom
    split
    · rfl
    · rename_i c
      by_cases e : i = j
      · subst e; exact absurd h3 c
      · exact hasFrom_mk ys x d (i + 1) j (by omega) (by omega) h3
theorem has_iff (ys : List Int) (x : Int) : has ys x = true ↔ ∃ j : Int, 0 ≤ j ∧ j < ys.length ∧ rd ys j = x := by
  constructor
  · intro h
    obtain ⟨j, h1, h2, h3⟩ := hasFrom_at ys x ys.length 0 h
    exact ⟨j, h1, by omega, h3⟩
  · rintro ⟨j, h1, h2, h3⟩
    exact hasFrom_mk ys x ys.length 0 j h1 (by omega) h3
theorem rd_take (xs : List Int) (k j : Int) (h0 : 0 ≤ j) (h1 : j < k) : rd (xs.take k.toNat) j = rd xs j := by
  unfold rd
  simp only [List.getD_eq_getElem?_getD]
  rw [List.getElem?_take_of_lt (by omega)]

theorem l1Has_ev (ys : List Int) (x : Int) (hl : ys.length ≤ 100000000) : Ev (fun f => spec_l1Has.f f ys x) (has ys x) := by
  have loop : ∀ (d : Nat) (i : Int), 0 ≤ i → i + d = ys.length → Ev (fun f => spec_l1Has.l0 f x ys ys.length i) (hasFrom ys x d i) := by
    intro d
    induction d with
    | zero =>
      intro i h0 hd
      refine ev_shift ?_
      simp only [spec_l1Has.l0, if_neg (show ¬ i < (ys.length : Int) by omega), hasFrom]
      exact Ev.now _
    | succ d ih =>
      intro i h0 hd
      have hn := ih (i + 1) (by omega) (by omega)
      refine ev_shift ?_
      simp only [spec_l1Has.l0, if_pos (show i < (ys.length : Int) by omega), if_pos h0, w64 (show -9223372036854775808 ≤ i + 1 by omega) (by omega)]
      unfold hasFrom
      by_cases c : rd ys i = x
      · rw [if_pos c]; simp only [if_pos c]; exact Ev.now _
      · rw [if_neg c]; simp only [if_neg c]; exact hn
  exact loop ys.length 0 (by omega) (by omega)

theorem l1Own_eq (xs : List Int) (h : xs.length < 17592186044416) : spec_l1Own.f xs = some xs := by
  unfold spec_l1Own.f
  simp only [Option.bind_some, List.length_nil, Nat.zero_add, if_pos h, List.nil_append]

/-! the used steps -/
open Go.Proofs.YtdcdaoancmpbeaaB in
theorem down_cons (n : Nat) : down (n + 1) (n + 1) = n :: down n n := by
  unfold down
  rw [List.range_succ_eq_map, List.map_cons, List.map_map]
  have e : (fun j => n + 1 - 1 - j) ∘ Nat.succ = fun j => n - 1 - j := by
    funext j
    show n + 1 - 1 - (j + 1) = n - 1 - j
    omega
  rw [e]
  simp
def bitAt (U : List Bool) (v : Nat) : Bool := U.getD v false
theorem bit_set (U : List Bool) (i v : Nat) (h : i < U.length) : bitAt (U.set i true) v = true ↔ v = i ∨ bitAt U v = true := by
  unfold bitAt
  simp only [List.getD_eq_getElem?_getD, List.getElem?_set]
  by_cases e : i = v
  · subst e; simp [h]
  · rw [if_neg e]; simp; intro h2; exact absurd h2.symm e
def backTo (m : Nat) (ss : List St) : Nat → List Bool → List Bool
  | 0, U => U
  | d + 1, U => backTo m ss d (impl_Plan_used.step m ss U d)
open Go.Proofs.YtdcdaoancmpbeaaB in
theorem down_back (m : Nat) (ss : List St) : ∀ (n : Nat) (U : List Bool), (down n n).foldl (impl_Plan_used.step m ss) U = backTo m ss n U
  | 0, _ => rfl
  | n + 1, U => by rw [down_cons, List.foldl_cons, down_back m ss n]; rfl
/-- The numbers from a on, less than a + d, whose values are marked. -/
def pick (U : List Bool) (m : Nat) : Nat → Nat → List Int
  | 0, _ => []
  | d + 1, a => if bitAt U (m + a) = true then (a : Int) :: pick U m d (a + 1) else pick U m d (a + 1)
theorem pick_same (U U' : List Bool) (m : Nat) : ∀ (d a : Nat), (∀ j, a ≤ j → j < a + d → bitAt U (m + j) = bitAt U' (m + j)) → pick U m d a = pick U' m d a
  | 0, _, _ => rfl
  | d + 1, a, h => by
    rw [pick, pick, h a (by omega) (by omega), pick_same U U' m d (a + 1) (fun j h1 h2 => h j (by omega) (by omega))]
theorem pick_ge (U : List Bool) (m : Nat) : ∀ (d a : Nat), ∀ x ∈ pick U m d a, (a : Int) ≤ x
  | 0, _, x, h => by cases h
  | d + 1, a, x, h => by
    rw [pick] at h
    split at h
    · rcases List.mem_cons.1 h with rfl | h
      · omega
      · have := pick_ge U m d (a + 1) x h; omega
    · have := pick_ge U m d (a + 1) x h; omega
theorem pick_length (U : List Bool) (m : Nat) : ∀ (d a : Nat), (pick U m d a).length ≤ d
  | 0, _ => Nat.le_refl _
  | d + 1, a => by
    have := pick_length U m d (a + 1)
    rw [pick]
    split
    · rw [List.length_cons]; omega
    · omega
def spTo (m : Nat) (ss : List St) : Nat → List Int → List Int → List Int
  | 0, _, out => out
  | d + 1, nd, out => if has nd (m + d) = true then spTo m ss d (nd ++ [(rdS ss d).f0, (rdS ss d).f1]) ((d : Int) :: out) else spTo m ss d nd out
theorem has_mem (ys : List Int) (x : Int) : has ys x = true ↔ x ∈ ys := by
  rw [has_iff]
  constructor
  · rintro ⟨j, h1, h2, rfl⟩
    obtain ⟨i, rfl⟩ := Int.eq_ofNat_of_zero_le h1
    rw [rd_nat, show ys.getD i 0 = ys[i]'(by omega) by simp [List.getD, show i < ys.length by omega]]
    exact List.getElem_mem _
  · intro h
    obtain ⟨i, hi, rfl⟩ := List.mem_iff_getElem.1 h
    exact ⟨i, by omega, by omega, by rw [rd_nat]; simp [List.getD, hi]⟩
theorem step_length (m : Nat) (ss : List St) (U : List Bool) (x : Nat) : (impl_Plan_used.step m ss U x).length = U.length := impl_Plan_used.step_length m ss U x
/-- Both walks back over the steps come to the same numbers. -/
theorem sp_im (m : Nat) (ss : List St) (ho : InOrder m ss) : ∀ (d : Nat) (U : List Bool) (nd out : List Int), d ≤ ss.length → U.length = m + ss.length → (∀ v : Nat, v < m + ss.length → (bitAt U v = true ↔ (v : Int) ∈ nd)) → out = pick U m (ss.length - d) d →
    spTo m ss d nd out = pick (backTo m ss d U) m ss.length 0 := by
  intro d
  induction d with
  | zero => intro U nd out _ _ _ h; rw [spTo, backTo, h]; rfl
  | succ d ih =>
    intro U nd out hd hl hv hout
    obtain ⟨o1, o2, o3⟩ := ho d (by omega)
    obtain ⟨a, ha⟩ := Int.eq_ofNat_of_zero_le o1
    obtain ⟨b, hb⟩ := Int.eq_ofNat_of_zero_le (show 0 ≤ (rdS ss d).f1 by show 0 ≤ (rd_T73 ss d).f1; omega)
    have ha' : (rdS ss d).f0 = (a : Int) := ha
    have hal : a < m + d := by omega
    have hbl : b < m + d := by have : (rd_T73 ss d).f1 = (b : Int) := hb; omega
    have hn : ss.length - d = (ss.length - (d + 1)) + 1 := by omega
    have hm := hv (m + d) (by omega)
    have hh : has nd ((m : Int) + d) = true ↔ bitAt U (m + d) = true := by rw [has_mem, hm]; rw [show ((m + d : Nat) : Int) = (m : Int) + d by omega]
    have hs : impl_Plan_used.step m ss U d = if bitAt U (m + d) = true then (U.set a true).set b true else U := by
      unfold impl_Plan_used.step
      have e1 : rdOf false U ((m : Int) + d) = bitAt U (m + d) := by unfold rdOf bitAt; rw [show ((m : Int) + (d : Int)).toNat = m + d by omega]
      rw [e1, show rd_T73 ss (d : Int) = rdS ss d from rfl, ha', hb]
      rfl
    rw [spTo, backTo, hs]
    by_cases c : bitAt U (m + d) = true
    · rw [if_pos (hh.2 c), if_pos c]
      have hset : ∀ v, bitAt ((U.set a true).set b true) v = true ↔ v = b ∨ v = a ∨ bitAt U v = true := fun v => by rw [bit_set _ _ _ (by rw [List.length_set]; omega), bit_set _ _ _ (by omega)]
      refine ih _ _ _ (by omega) (by simp; omega) (fun v hvl => ?_) ?_
      · rw [hset, hv v hvl, List.mem_append, ha', hb]
        simp only [List.mem_cons, List.mem_nil_iff, or_false]
        constructor
        · rintro (rfl | rfl | h)
          · exact .inr (.inr rfl)
          · exact .inr (.inl rfl)
          · exact .inl h
        · rintro (h | h | h)
          · exact .inr (.inr h)
          · exact .inr (.inl (by omega))
          · exact .inl (by omega)
      · rw [hn, pick, if_pos ((hset (m + d)).2 (.inr (.inr c))), hout]
        refine congrArg _ (pick_same _ _ m _ _ (fun j h1 h2 => ?_))
        have := hset (m + j)
        rw [Bool.eq_iff_iff, this]
        constructor
        · intro h; exact .inr (.inr h)
        · rintro (h | h | h)
          · omega
          · omega
          · exact h
    · rw [if_neg (fun h => c (hh.1 h)), if_neg c]
      refine ih _ _ _ (by omega) hl hv ?_
      rw [hn, pick, if_neg c, hout]
theorem marks_bits (os : List Int) : ∀ (U : List Bool) (v : Nat), (∀ x ∈ os, 0 ≤ x ∧ x < (U.length : Int)) → (bitAt (impl_Plan_used.marks os U) v = true ↔ (v : Int) ∈ os ∨ bitAt U v = true) := by
  induction os with
  | nil => intro U v _; show bitAt U v = true ↔ _; simp
  | cons x os ih =>
    intro U v h
    have hx := h x (List.mem_cons_self ..)
    have := ih (U.set x.toNat true) v (fun y hy => by rw [List.length_set]; exact h y (List.mem_cons_of_mem _ hy))
    show bitAt (impl_Plan_used.marks os (U.set x.toNat true)) v = true ↔ _
    rw [this, bit_set _ _ _ (by omega), List.mem_cons]
    constructor
    · rintro (h | h | h)
      · exact .inl (.inr h)
      · exact .inl (.inl (by omega))
      · exact .inr h
    · rintro ((h | h) | h)
      · exact .inr (.inl (by omega))
      · exact .inl h
      · exact .inr (.inr h)
def marksOf (m : Nat) (ss : List St) (os : List Int) : List Bool := backTo m ss ss.length (impl_Plan_used.marks os (List.replicate (m + ss.length) false))
/-- The numbers of all used steps. -/
def usedOf (m : Nat) (ss : List St) (os : List Int) : List Int := pick (marksOf m ss os) m ss.length 0
theorem usedOf_length (m : Nat) (ss : List St) (os : List Int) : (usedOf m ss os).length ≤ ss.length := pick_length _ _ _ _
theorem backTo_length (m : Nat) (ss : List St) : ∀ (d : Nat) (U : List Bool), (backTo m ss d U).length = U.length
  | 0, _ => rfl
  | d + 1, U => by rw [backTo, backTo_length m ss d, step_length]
theorem marksOf_length (m : Nat) (ss : List St) (os : List Int) : (marksOf m ss os).length = m + ss.length := by unfold marksOf; rw [backTo_length, impl_Plan_used.marks_length, List.length_replicate]
theorem outs_mem {m : Nat} {ss : List St} {os : List Int} (h : ∀ j : Nat, j < os.length → 0 ≤ rd os j ∧ rd os j ≤ (m : Int) + ss.length - 1) : ∀ x ∈ os, 0 ≤ x ∧ x < (m : Int) + ss.length := fun x hx => by
  obtain ⟨i, hi, rfl⟩ := List.mem_iff_getElem.1 hx
  have := h i hi
  rw [rd_nat, show os.getD i 0 = os[i] by simp [List.getD, hi]] at this
  omega
theorem used_eq (m : Nat) (ss : List St) (os : List Int) (h1 : 1 ≤ m) (h2 : m ≤ 6) (h3 : ss.length ≤ 40) (h4 : os.length ≤ 6) (ho : InOrder m ss) (hos : ∀ j : Nat, j < os.length → 0 ≤ rd os j ∧ rd os j ≤ (m : Int) + ss.length - 1) : impl_Plan_used.f m ss os = some (marksOf m ss os) := by
  have hok : impl_Plan_used.ok m ss os = true := by
    unfold impl_Plan_used.ok
    simp only [Bool.and_eq_true, decide_eq_true_eq, List.all_eq_true]
    refine ⟨⟨⟨⟨⟨by omega, by omega⟩, by omega⟩, by omega⟩, outs_mem hos⟩, fun s hs => ?_⟩
    obtain ⟨i, hi, rfl⟩ := List.mem_iff_getElem.1 hs
    obtain ⟨a, b, c⟩ := ho i hi
    have e : rd_T73 ss (i : Int) = ss[i] := by unfold rd_T73; rw [Int.toNat_natCast]; simp [List.getD, hi]
    rw [e] at a b c
    exact ⟨⟨⟨a, by omega⟩, by omega⟩, by omega⟩
  unfold impl_Plan_used.f marksOf
  rw [if_pos hok, down_back, show ((m : Int) + (ss.length : Int)).toNat = m + ss.length by omega]
theorem put_front (out : List Int) (x : Int) (hl : out.length ≤ 1000) (h : ∀ y ∈ out, x < y) : Ev (fun k => spec_l1Put.f k out x) (x :: out) := by
  unfold spec_l1Put.f
  refine ev_shift ?_
  cases out with
  | nil => exact Ev.now _
  | cons y t =>
    have hy := h y (List.mem_cons_self ..)
    have r0 : rd (y :: t) 0 = y := rfl
    have hlt : (y :: t).length ≤ 1000 := hl
    simp only [spec_l1Put.l0, if_pos (show (0 : Int) < ((y :: t).length : Int) by rw [List.length_cons]; omega), if_pos (show (0 : Int) ≤ 0 by omega), r0, if_neg (show ¬ y < x by omega), if_neg (show ¬ y = x by omega), Option.bind_some, if_pos (show (0 : Int) ≤ ((y :: t).length : Int) by omega), Int.toNat_zero, List.take_zero, List.drop_zero, List.length_nil, List.append_nil, List.nil_append, List.length_singleton]
    rw [if_pos (by omega), if_pos (by omega), if_pos (by omega)]
    exact Ev.now _
theorem plUsed_ev (m : Nat) (ss : List St) (os : List Int) (h1 : 1 ≤ m) (h2 : m ≤ 6) (h3 : ss.length ≤ 40) (h4 : os.length ≤ 6) (ho : InOrder m ss) (hos : ∀ j : Nat, j < os.length → 0 ≤ rd os j ∧ rd os j ≤ (m : Int) + ss.length - 1) : Ev (fun k => spec_plUsed.f k m ss os) (usedOf m ss os) := by
  have loop : ∀ (d : Nat) (nd out : List Int), d ≤ ss.length → nd.length + 2 * d ≤ 200 → out.length + d ≤ 200 → (∀ y ∈ out, (d : Int) ≤ y) → Ev (fun k => spec_plUsed.l0 k nd out ((d : Int) - 1) m ss os) (spTo m ss d nd out) := by
    intro d
    induction d with
    | zero =>
      intro nd out _ _ _ _
      refine ev_shift ?_
      simp only [spec_plUsed.l0, if_neg (show ¬ ((0 : Nat) : Int) - 1 ≥ 0 by omega), spTo]
      exact Ev.now _
    | succ d ih =>
      intro nd out hd hn hol hout
      refine ev_shift ?_
      have e1 : ((d + 1 : Nat) : Int) - 1 = (d : Int) := by omega
      simp only [spec_plUsed.l0, e1, if_pos (show (d : Int) ≥ 0 by omega), w64 (show -9223372036854775808 ≤ (m : Int) + (d : Int) by omega) (by omega), w64 (show -9223372036854775808 ≤ (d : Int) - 1 by omega) (by omega)]
      refine ev_bind (l1Has_ev nd _ (by omega)) ?_
      rw [spTo]
      by_cases c : has nd ((m : Int) + d) = true
      · have el : ([(rd_T73 ss (d : Int)).f0, (rd_T73 ss (d : Int)).f1] : List Int).length = 2 := rfl
        simp only [c, if_true, if_pos (show (d : Int) < (ss.length : Int) by omega), Option.bind_some, el, if_pos (show nd.length + 2 < 17592186044416 by omega)]
        refine ev_bind (put_front out d (by omega) (fun y hy => by have := hout y hy; omega)) ?_
        exact ih _ _ (by omega) (by simp; omega) (by simp; omega) (fun y hy => by
          rcases List.mem_cons.1 hy with rfl | hy
          · omega
          · have := hout y hy; omega)
      · simp only [if_neg c]
        exact ih _ _ (by omega) (by omega) (by omega) (fun y hy => by have := hout y hy; omega)
  unfold spec_plUsed.f
  simp only [l1Own_eq os (by omega), Option.bind_some, w64 (show -9223372036854775808 ≤ (ss.length : Int) - 1 by omega) (by omega)]
  have h := loop ss.length os [] (Nat.le_refl _) (by omega) (by simp; omega) (fun y hy => by cases hy)
  have hm := outs_mem hos
  rw [sp_im m ss ho ss.length (impl_Plan_used.marks os (List.replicate (m + ss.length) false)) os [] (Nat.le_refl _) (by rw [impl_Plan_used.marks_length, List.length_replicate]) (fun v _ => by
    rw [marks_bits os _ v (fun x hx => by rw [List.length_replicate]; have := hm x hx; omega)]
    have : bitAt (List.replicate (m + ss.length) false) v = false := by
      unfold bitAt
      rw [List.getD_eq_getElem?_getD, List.getElem?_replicate]
      split <;> rfl
    rw [this]; simp) (by rw [Nat.sub_self]; rfl)] at h
  exact h
/-! a plan with only the used steps -/
theorem pick_add (U : List Bool) (m : Nat) : ∀ (a b s : Nat), pick U m (a + b) s = pick U m a s ++ pick U m b (s + a)
  | 0, b, s => by rw [Nat.zero_add]; rfl
  | a + 1, b, s => by
    rw [show a + 1 + b = (a + b) + 1 by omega, pick, pick, pick_add U m a b (s + 1), show s + 1 + a = s + (a + 1) by omega]
    split
    · rfl
    · rfl
theorem pick_succ (U : List Bool) (m i : Nat) : pick U m (i + 1) 0 = pick U m i 0 ++ (if bitAt U (m + i) = true then [(i : Int)] else []) := by
  rw [pick_add, Nat.zero_add, pick]
  rfl
theorem pick_mem (U : List Bool) (m : Nat) : ∀ (d a : Nat), ∀ x ∈ pick U m d a, ∃ i : Nat, x = i ∧ a ≤ i ∧ i < a + d ∧ bitAt U (m + i) = true
  | 0, _, x, h => by cases h
  | d + 1, a, x, h => by
    rw [pick] at h
    split at h
    · rename_i c
      rcases List.mem_cons.1 h with rfl | h
      · exact ⟨a, rfl, by omega, by omega, c⟩
      · obtain ⟨i, e, h1, h2, h3⟩ := pick_mem U m d (a + 1) x h
        exact ⟨i, e, by omega, by omega, h3⟩
    · obtain ⟨i, e, h1, h2, h3⟩ := pick_mem U m d (a + 1) x h
      exact ⟨i, e, by omega, by omega, h3⟩
/-- How many values of steps before step i are marked. -/
def cnt (U : List Bool) (m i : Nat) : Nat := (pick U m i 0).length
theorem cnt_le (U : List Bool) (m i : Nat) : cnt U m i ≤ i := pick_length U m i 0
/-- A value's new number. -/
def num (U : List Bool) (m : Nat) (v : Int) : Int := if v < m then v else (m : Int) + cnt U m (v - m).toNat
theorem num_in (U : List Bool) (m : Nat) (v : Int) (h : 0 ≤ v) : 0 ≤ num U m v ∧ num U m v ≤ v := by
  unfold num
  have := cnt_le U m (v - m).toNat
  split <;> omega
def stepAt (U : List Bool) (m : Nat) (ss : List St) (i : Int) : St := ⟨mn (num U m (rdS ss i).f0) (num U m (rdS ss i).f1), mx (num U m (rdS ss i).f0) (num U m (rdS ss i).f1)⟩
def tSteps (m : Nat) (ss : List St) (os : List Int) : List St := (usedOf m ss os).map (stepAt (marksOf m ss os) m ss)
def tOuts (m : Nat) (ss : List St) (os : List Int) : List Int := os.map (num (marksOf m ss os) m)
def firstN (m : Nat) : List Int := (List.range m).map (fun j : Nat => (j : Int))
theorem firstN_succ (m : Nat) : firstN (m + 1) = firstN m ++ [(m : Int)] := by unfold firstN; simp [List.range_succ]
theorem firstN_length (m : Nat) : (firstN m).length = m := by unfold firstN; simp
theorem firsts_ev (m : Nat) (hm : m ≤ 1000000) : Ev (fun k => impl_firsts.f k m) (firstN m) := by
  have loop : ∀ (d i : Nat), i + d = m → Ev (fun k => impl_firsts.l0 k (firstN i) m i) (firstN m) := by
    intro d
    induction d with
    | zero =>
      intro i hd
      obtain rfl : i = m := by omega
      refine ev_shift ?_
      simp only [impl_firsts.l0, if_neg (show ¬ (i : Int) < (i : Int) by omega)]
      exact Ev.now _
    | succ d ih =>
      intro i hd
      refine ev_shift ?_
      simp only [impl_firsts.l0, if_pos (show (i : Int) < (m : Int) by omega), firstN_length, if_pos (show i < 17592186044416 by omega), w64 (show -9223372036854775808 ≤ (i : Int) + 1 by omega) (by omega)]
      rw [← firstN_succ]
      exact ih (i + 1) (by omega)
  exact loop m 0 (by omega)
theorem renamed_ev (xs places : List Int) (hl : xs.length ≤ 1000000) (h : ∀ x ∈ xs, 0 ≤ x ∧ x < places.length) : Ev (fun k => impl_renamed.f k xs places) (xs.map (rd places)) := by
  have loop : ∀ (d i : Nat), i + d = xs.length → Ev (fun k => impl_renamed.l0 k places ((xs.take i).map (rd places)) xs xs.length i) (xs.map (rd places)) := by
    intro d
    induction d with
    | zero =>
      intro i hd
      refine ev_shift ?_
      simp only [impl_renamed.l0, if_neg (show ¬ (i : Int) < (xs.length : Int) by omega)]
      rw [List.take_of_length_le (by omega)]
      exact Ev.now _
    | succ d ih =>
      intro i hd
      have e : rd xs (i : Int) = xs[i]'(by omega) := by rw [rd_nat]; simp [List.getD, show i < xs.length by omega]
      have hx := h _ (List.getElem_mem (show i < xs.length by omega))
      rw [← e] at hx
      refine ev_shift ?_
      simp only [impl_renamed.l0, if_pos (show (i : Int) < (xs.length : Int) by omega), if_pos (show (0 : Int) ≤ (i : Int) by omega), if_pos hx.1, if_pos hx.2, if_pos (show ((xs.take i).map (rd places)).length < 17592186044416 by simp; omega), w64 (show -9223372036854775808 ≤ (i : Int) + 1 by omega) (by omega)]
      have := ih (i + 1) (by omega)
      rw [List.take_succ_eq_append_getElem (by omega), List.map_append, ← e] at this
      exact this
  exact loop xs.length 0 (by omega)
/-- The places of the first values. -/
def placesTo (U : List Bool) (m i : Nat) : List Int := firstN m ++ (List.range i).map (fun j : Nat => (m : Int) + cnt U m j)
theorem placesTo_length (U : List Bool) (m i : Nat) : (placesTo U m i).length = m + i := by unfold placesTo firstN; simp
theorem placesTo_succ (U : List Bool) (m i : Nat) : placesTo U m (i + 1) = placesTo U m i ++ [(m : Int) + cnt U m i] := by unfold placesTo; simp [List.range_succ]
theorem placesTo_rd (U : List Bool) (m i : Nat) (v : Int) (h0 : 0 ≤ v) (h1 : v < m + i) : rd (placesTo U m i) v = num U m v := by
  obtain ⟨n, rfl⟩ := Int.eq_ofNat_of_zero_le h0
  rw [rd_nat, List.getD_eq_getElem?_getD]
  unfold placesTo num
  by_cases c : n < m
  · rw [List.getElem?_append_left (by rw [firstN_length]; exact c), if_pos (by omega)]
    unfold firstN
    simp [c]
  · rw [List.getElem?_append_right (by rw [firstN_length]; omega), if_neg (by omega), firstN_length, show ((n : Int) - m).toNat = n - m by omega]
    simp [show n - m < i by omega]
theorem trimmed_ev (m : Nat) (ss : List St) (os : List Int) (h1 : 1 ≤ m) (h2 : m ≤ 6) (h3 : ss.length ≤ 40) (h4 : os.length ≤ 6) (ho : InOrder m ss) (hos : ∀ j : Nat, j < os.length → 0 ≤ rd os j ∧ rd os j ≤ (m : Int) + ss.length - 1) : Ev (fun k => impl_Plan_trimmed.f k m ss os) ((m : Int), tSteps m ss os, tOuts m ss os) := by
  unfold impl_Plan_trimmed.f
  simp only [used_eq m ss os h1 h2 h3 h4 ho hos, Option.bind_some]
  refine ev_bind (firsts_ev m (by omega)) ?_
  have hUl := marksOf_length m ss os
  have hm := outs_mem hos
  obtain ⟨U, hU⟩ : ∃ U, U = marksOf m ss os := ⟨_, rfl⟩
  unfold tSteps tOuts usedOf
  rw [← hU] at hUl ⊢
  have loop : ∀ (d i : Nat), i + d = ss.length → Ev (fun k => impl_Plan_trimmed.l0 k U (placesTo U m i) ss ss.length i m ss os m ((pick U m i 0).map (stepAt U m ss))) ((m : Int), (pick U m ss.length 0).map (stepAt U m ss), os.map (num U m)) := by
    intro d
    induction d with
    | zero =>
      intro i hd
      obtain rfl : i = ss.length := by omega
      refine ev_shift ?_
      simp only [impl_Plan_trimmed.l0, if_neg (show ¬ (ss.length : Int) < (ss.length : Int) by omega)]
      refine ev_bind (renamed_ev os _ (by omega) (fun x hx => by rw [placesTo_length]; have := hm x hx; omega)) ?_
      have e : os.map (rd (placesTo U m ss.length)) = os.map (num U m) := List.map_congr_left fun x hx => by
        have := hm x hx
        exact placesTo_rd U m ss.length x this.1 (by omega)
      rw [e]
      exact Ev.now _
    | succ d ih =>
      intro i hd
      obtain ⟨k1, k2, k3⟩ := ho i (by omega)
      have w1 : wrap64 ((m : Int) + (i : Int)) = (m : Int) + i := w64 (by omega) (by omega)
      have w2 : wrap64 ((i : Int) + 1) = (i : Int) + 1 := w64 (by omega) (by omega)
      have p1 : (i : Int) < (ss.length : Int) := by omega
      have p2 : (0 : Int) ≤ (i : Int) := by omega
      have p3 : (0 : Int) ≤ (m : Int) + (i : Int) := by omega
      have p4 : (m : Int) + (i : Int) < (U.length : Int) := by omega
      have p5 : (0 : Int) ≤ (rd_T73 ss i).f1 := by omega
      have p6 : (rd_T73 ss i).f0 < ((m + (i + 1) : Nat) : Int) := by omega
      have p7 : (rd_T73 ss i).f1 < ((m + (i + 1) : Nat) : Int) := by omega
      have p8 : (rd_T73 ss i).f0 < (m : Int) + ((i + 1 : Nat) : Int) := by omega
      have p9 : (rd_T73 ss i).f1 < (m : Int) + ((i + 1 : Nat) : Int) := by omega
      have hb : rdOf false U ((m : Int) + (i : Int)) = bitAt U (m + i) := by unfold rdOf bitAt; rw [show ((m : Int) + (i : Int)).toNat = m + i by omega]
      have hn := ih (i + 1) (by omega)
      have q1 : (placesTo U m i).length < 17592186044416 := by rw [placesTo_length]; omega
      have hw : wrap64 ((m : Int) + (cnt U m i : Int)) = (m : Int) + cnt U m i := by
        have := cnt_le U m i
        generalize cnt U m i = c at this ⊢
        exact w64 (by omega) (by omega)
      have q2 : (List.map (stepAt U m ss) (pick U m i 0)).length < 8796093022208 := by
        rw [List.length_map]
        have := cnt_le U m i
        have e : (pick U m i 0).length = cnt U m i := rfl
        rw [e]
        generalize cnt U m i = c at this ⊢
        omega
      rw [pick_succ] at hn
      refine ev_shift ?_
      simp only [impl_Plan_trimmed.l0, if_pos p1, if_pos p2]
      simp only [impl_Plan_many.f]
      simp only [if_pos q1, if_pos q2]
      simp -implicitDefEqProofs only [Option.bind_some, List.length_map]
      have el : ((pick U m i 0).length : Int) = (cnt U m i : Int) := rfl
      simp -implicitDefEqProofs only [el, hw]
      simp -implicitDefEqProofs only [w1, w2, if_pos p3, if_pos p4, hb]
      rw [← placesTo_succ]
      by_cases c : bitAt U (m + i) = true
      · rw [if_pos c, List.map_append] at hn
        have ra := placesTo_rd U m (i + 1) (rdS ss i).f0 k1 p8
        have rb := placesTo_rd U m (i + 1) (rdS ss i).f1 p5 p9
        simp -implicitDefEqProofs only [if_pos c, if_pos k1, placesTo_length, if_pos p6, if_pos p5, if_pos p7, impl_step.f, Option.bind_some]
        have es : (⟨mn (rd (placesTo U m (i + 1)) (rd_T73 ss (i : Int)).f0) (rd (placesTo U m (i + 1)) (rd_T73 ss (i : Int)).f1), mx (rd (placesTo U m (i + 1)) (rd_T73 ss (i : Int)).f0) (rd (placesTo U m (i + 1)) (rd_T73 ss (i : Int)).f1)⟩ : St) = stepAt U m ss (i : Int) := by
          unfold stepAt
          rw [show rd_T73 ss (i : Int) = rdS ss i from rfl, ra, rb]
        rw [es]
        exact hn
      · rw [if_neg c, List.append_nil] at hn
        simp -implicitDefEqProofs only [if_neg c]
        exact hn
  have := loop ss.length 0 (by omega)
  have e0 : placesTo U m 0 = firstN m := by unfold placesTo; simp
  rw [e0] at this
  exact this
/-! the marks are closed -/
theorem step_bits (m : Nat) (ss : List St) (ho : InOrder m ss) (U : List Bool) (hl : U.length = m + ss.length) (d : Nat) (hd : d < ss.length) (v : Nat) : bitAt (impl_Plan_used.step m ss U d) v = true ↔ (bitAt U (m + d) = true ∧ ((v : Int) = (rdS ss d).f0 ∨ (v : Int) = (rdS ss d).f1)) ∨ bitAt U v = true := by
  obtain ⟨o1, o2, o3⟩ := ho d hd
  have q1 : 0 ≤ (rdS ss d).f0 := o1
  have q2 : (rdS ss d).f0 ≤ (rdS ss d).f1 := o2
  have q3 : (rdS ss d).f1 < (m : Int) + d := o3
  have e1 : rdOf false U ((m : Int) + (d : Int)) = bitAt U (m + d) := by unfold rdOf bitAt; rw [show ((m : Int) + (d : Int)).toNat = m + d by omega]
  unfold impl_Plan_used.step
  rw [e1, show rd_T73 ss (d : Int) = rdS ss d from rfl]
  by_cases c : bitAt U (m + d) = true
  · rw [if_pos c, bit_set _ _ _ (by rw [List.length_set]; omega), bit_set _ _ _ (by omega)]
    constructor
    · rintro (h | h | h)
      · exact .inl ⟨c, .inr (by omega)⟩
      · exact .inl ⟨c, .inl (by omega)⟩
      · exact .inr h
    · rintro (⟨_, h | h⟩ | h)
      · exact .inr (.inl (by omega))
      · exact .inl (by omega)
      · exact .inr (.inr h)
  · rw [if_neg c]
    constructor
    · exact .inr
    · rintro (⟨h, _⟩ | h)
      · exact absurd h c
      · exact h
theorem back_mono (m : Nat) (ss : List St) (ho : InOrder m ss) : ∀ (d : Nat) (U : List Bool), d ≤ ss.length → U.length = m + ss.length → ∀ v, bitAt U v = true → bitAt (backTo m ss d U) v = true
  | 0, _, _, _, _, h => h
  | d + 1, U, hd, hl, v, h => back_mono m ss ho d _ (by omega) (by rw [step_length]; exact hl) v ((step_bits m ss ho U hl d (by omega) v).2 (.inr h))
theorem back_hi (m : Nat) (ss : List St) (ho : InOrder m ss) : ∀ (d : Nat) (U : List Bool), d ≤ ss.length → U.length = m + ss.length → ∀ v, m + d ≤ v → (bitAt (backTo m ss d U) v = true ↔ bitAt U v = true)
  | 0, _, _, _, _, _ => Iff.rfl
  | d + 1, U, hd, hl, v, h => by
    rw [backTo, back_hi m ss ho d _ (by omega) (by rw [step_length]; exact hl) v (by omega), step_bits m ss ho U hl d (by omega) v]
    obtain ⟨o1, o2, o3⟩ := ho d (by omega)
    have q2 : (rdS ss d).f0 ≤ (rdS ss d).f1 := o2
    have q3 : (rdS ss d).f1 < (m : Int) + d := o3
    constructor
    · rintro (⟨_, h | h⟩ | h)
      · omega
      · omega
      · exact h
    · exact .inr
theorem back_closed (m : Nat) (ss : List St) (ho : InOrder m ss) : ∀ (d : Nat) (U : List Bool), d ≤ ss.length → U.length = m + ss.length → ∀ i : Nat, i < d → bitAt (backTo m ss d U) (m + i) = true → bitAt (backTo m ss d U) (rdS ss i).f0.toNat = true ∧ bitAt (backTo m ss d U) (rdS ss i).f1.toNat = true
  | 0, _, _, _, i, h, _ => absurd h (Nat.not_lt_zero _)
  | d + 1, U, hd, hl, i, hi, h => by
    have hl2 : (impl_Plan_used.step m ss U d).length = m + ss.length := by rw [step_length]; exact hl
    by_cases e : i = d
    · subst e
      obtain ⟨o1, o2, o3⟩ := ho i (by omega)
      have q1 : 0 ≤ (rdS ss i).f0 := o1
      have q2 : (rdS ss i).f0 ≤ (rdS ss i).f1 := o2
      have q3 : (rdS ss i).f1 < (m : Int) + i := o3
      rw [backTo, back_hi m ss ho i _ (by omega) hl2 (m + i) (by omega)] at h
      have hU : bitAt U (m + i) = true := by
        rcases (step_bits m ss ho U hl i (by omega) (m + i)).1 h with ⟨h, _⟩ | h <;> exact h
      exact ⟨back_mono m ss ho i _ (by omega) hl2 _ ((step_bits m ss ho U hl i (by omega) _).2 (.inl ⟨hU, .inl (by omega)⟩)), back_mono m ss ho i _ (by omega) hl2 _ ((step_bits m ss ho U hl i (by omega) _).2 (.inl ⟨hU, .inr (by omega)⟩))⟩
    · exact back_closed m ss ho d _ (by omega) hl2 i (by omega) h
def placeFrom (xs : List Int) (x : Int) : Nat → Nat → Int
  | 0, _ => -1
  | d + 1, i => if rd xs (i : Int) = x then (i : Int) else placeFrom xs x d (i + 1)
theorem plPlace_ev (xs : List Int) (x : Int) (hl : xs.length ≤ 1000000) : Ev (fun k => spec_plPlace.f k xs x) (placeFrom xs x xs.length 0) := by
  have loop : ∀ (d i : Nat), i + d = xs.length → Ev (fun k => spec_plPlace.l0 k x xs xs.length i) (placeFrom xs x d i) := by
    intro d
    induction d with
    | zero =>
      intro i hd
      refine ev_shift ?_
      simp only [spec_plPlace.l0, if_neg (show ¬ (i : Int) < (xs.length : Int) by omega), placeFrom]
      exact Ev.now _
    | succ d ih =>
      intro i hd
      refine ev_shift ?_
      simp only [spec_plPlace.l0, if_pos (show (i : Int) < (xs.length : Int) by omega), if_pos (show (0 : Int) ≤ (i : Int) by omega), w64 (show -9223372036854775808 ≤ (i : Int) + 1 by omega) (by omega), placeFrom]
      by_cases c : rd xs (i : Int) = x
      · simp only [if_pos c]; exact Ev.now _
      · simp only [if_neg c]; exact ih (i + 1) (by omega)
  exact loop xs.length 0 (by omega)
theorem place_at (xs : List Int) (x : Int) (c : Nat) (hc : c < xs.length) (hx : rd xs (c : Int) = x) (hn : ∀ j : Nat, j < c → rd xs (j : Int) ≠ x) : ∀ (d i : Nat), i + d = xs.length → i ≤ c → placeFrom xs x d i = c
  | 0, i, h1, h2 => by omega
  | d + 1, i, h1, h2 => by
    rw [placeFrom]
    by_cases e : i = c
    · subst e; rw [if_pos hx]
    · rw [if_neg (hn i (by omega))]; exact place_at xs x c hc hx hn d (i + 1) (by omega) (by omega)
theorem place_pick (U : List Bool) (m n i : Nat) (hi : i < n) (hb : bitAt U (m + i) = true) : placeFrom (pick U m n 0) (i : Int) (pick U m n 0).length 0 = cnt U m i := by
  have e : pick U m n 0 = pick U m i 0 ++ ((i : Int) :: pick U m (n - i - 1) (i + 1)) := by
    have := pick_add U m i (n - i) 0
    rw [show i + (n - i) = n by omega, Nat.zero_add, show n - i = (n - i - 1) + 1 by omega, pick, if_pos hb] at this
    exact this
  have hlen : cnt U m i < (pick U m n 0).length := by rw [e, List.length_append, List.length_cons]; show (pick U m i 0).length < _; omega
  refine place_at _ _ (cnt U m i) hlen ?_ (fun j hj => ?_) _ 0 (by omega) (by omega)
  · rw [rd_nat, e, List.getD_eq_getElem?_getD, List.getElem?_append_right (show (pick U m i 0).length ≤ cnt U m i from Nat.le_refl _), show cnt U m i - (pick U m i 0).length = 0 from Nat.sub_self _]
    rfl
  · have hj' : j < (pick U m i 0).length := hj
    rw [rd_nat, e, List.getD_eq_getElem?_getD, List.getElem?_append_left hj', List.getElem?_eq_getElem hj']
    obtain ⟨q, e1, _, h2, _⟩ := pick_mem U m i 0 _ (List.getElem_mem hj')
    show (pick U m i 0)[j] ≠ i
    rw [e1]
    omega
theorem plNumber_ev (m : Nat) (ss : List St) (os : List Int) (U : List Bool) (n : Nat) (hn : n ≤ 40) (hm : m ≤ 6) (v : Int) (h0 : 0 ≤ v) (h1 : v < (m : Int) + n) (hb : v < m ∨ bitAt U v.toNat = true) : Ev (fun k => spec_plNumber.f k m ss os (pick U m n 0) v) (num U m v) := by
  unfold spec_plNumber.f num
  by_cases c : v < (m : Int)
  · simp only [if_pos c]; exact Ev.now _
  · simp only [if_neg c]
    have hb' : bitAt U v.toNat = true := hb.resolve_left c
    have hl := pick_length U m n 0
    have hc := cnt_le U m (v - m).toNat
    have hp := plPlace_ev (pick U m n 0) (v - m) (by omega)
    have e : placeFrom (pick U m n 0) (v - m) (pick U m n 0).length 0 = cnt U m (v - m).toNat := by
      have := place_pick U m n (v - m).toNat (by omega) (by rw [show m + (v - m).toNat = v.toNat by omega]; exact hb')
      rw [show (((v - m).toNat : Nat) : Int) = v - m by omega] at this
      exact this
    rw [e] at hp
    simp only [w64 (show -9223372036854775808 ≤ v - (m : Int) by omega) (by omega)]
    refine ev_bind hp ?_
    simp only [w64 (show -9223372036854775808 ≤ (m : Int) + (cnt U m (v - m).toNat : Int) by omega) (by omega)]
    exact Ev.now _
theorem least_mn (a b : Int) : spec_l1Least.f a b = some (mn a b) := by
  unfold spec_l1Least.f mn
  split <;> split <;> first | rfl | exact congrArg some (by omega)
theorem most_mx (a b : Int) : spec_l1Most.f a b = some (mx a b) := by
  unfold spec_l1Most.f mx
  split <;> split <;> first | rfl | exact congrArg some (by omega)
theorem plKeep_ev (m : Nat) (ss : List St) (os : List Int) (h1 : 1 ≤ m) (h2 : m ≤ 6) (h3 : ss.length ≤ 40) (h4 : os.length ≤ 6) (ho : InOrder m ss) (hos : ∀ j : Nat, j < os.length → 0 ≤ rd os j ∧ rd os j ≤ (m : Int) + ss.length - 1) : Ev (fun k => spec_plKeep.f k m ss os (usedOf m ss os)) ((m : Int), tSteps m ss os, tOuts m ss os) := by
  have hUl := marksOf_length m ss os
  have hm := outs_mem hos
  have hl0 : (impl_Plan_used.marks os (List.replicate (m + ss.length) false)).length = m + ss.length := by rw [impl_Plan_used.marks_length, List.length_replicate]
  have hcl : ∀ i : Nat, i < ss.length → bitAt (marksOf m ss os) (m + i) = true → bitAt (marksOf m ss os) (rdS ss i).f0.toNat = true ∧ bitAt (marksOf m ss os) (rdS ss i).f1.toNat = true := fun i hi h => back_closed m ss ho ss.length _ (Nat.le_refl _) hl0 i hi h
  have hob : ∀ x ∈ os, bitAt (marksOf m ss os) x.toNat = true := fun x hx => by
    have hx' := hm x hx
    refine back_mono m ss ho ss.length _ (Nat.le_refl _) hl0 _ ((marks_bits os _ _ (fun y hy => by rw [List.length_replicate]; have := hm y hy; omega)).2 (.inl ?_))
    rw [show ((x.toNat : Nat) : Int) = x by omega]
    exact hx
  unfold tSteps tOuts usedOf spec_plKeep.f
  generalize marksOf m ss os = U at *
  have hpl := pick_length U m ss.length 0
  have outs : ∀ (d i : Nat) (st : List St), i + d = os.length → Ev (fun k => spec_plKeep.l1 k (pick U m ss.length 0) os os.length i m ss os m st ((os.take i).map (num U m))) ((m : Int), st, os.map (num U m)) := by
    intro d
    induction d with
    | zero =>
      intro i st hd
      refine ev_shift ?_
      simp only [spec_plKeep.l1, if_neg (show ¬ (i : Int) < (os.length : Int) by omega)]
      rw [List.take_of_length_le (by omega)]
      exact Ev.now _
    | succ d ih =>
      intro i st hd
      have e : rd os (i : Int) = os[i]'(by omega) := by rw [rd_nat]; simp [List.getD, show i < os.length by omega]
      have hx := hm _ (List.getElem_mem (show i < os.length by omega))
      have hxb := hob _ (List.getElem_mem (show i < os.length by omega))
      rw [← e] at hx hxb
      refine ev_shift ?_
      simp only [spec_plKeep.l1, if_pos (show (i : Int) < (os.length : Int) by omega), if_pos (show (0 : Int) ≤ (i : Int) by omega), if_pos (show ((os.take i).map (num U m)).length < 17592186044416 by simp; omega), w64 (show -9223372036854775808 ≤ (i : Int) + 1 by omega) (by omega)]
      refine ev_bind (plNumber_ev m ss os U ss.length h3 h2 _ hx.1 (by omega) (.inr hxb)) ?_
      have := ih (i + 1) st (by omega)
      rw [List.take_succ_eq_append_getElem (by omega), List.map_append, ← e] at this
      exact this
  have loop : ∀ (d j : Nat), j + d = (pick U m ss.length 0).length → Ev (fun k => spec_plKeep.l0 k (pick U m ss.length 0) (pick U m ss.length 0) (pick U m ss.length 0).length j m ss os m (((pick U m ss.length 0).take j).map (stepAt U m ss))) ((m : Int), (pick U m ss.length 0).map (stepAt U m ss), os.map (num U m)) := by
    intro d
    induction d with
    | zero =>
      intro j hd
      refine ev_shift ?_
      simp only [spec_plKeep.l0, if_neg (show ¬ (j : Int) < ((pick U m ss.length 0).length : Int) by omega)]
      rw [List.take_of_length_le (by omega)]
      exact outs os.length 0 _ (by omega)
    | succ d ih =>
      intro j hd
      have e : rd (pick U m ss.length 0) (j : Int) = (pick U m ss.length 0)[j]'(by omega) := by rw [rd_nat]; simp [List.getD, show j < (pick U m ss.length 0).length by omega]
      obtain ⟨i, ei, _, hi, hbi⟩ := pick_mem U m ss.length 0 _ (List.getElem_mem (show j < (pick U m ss.length 0).length by omega))
      have er : rd (pick U m ss.length 0) (j : Int) = (i : Int) := by rw [e]; exact ei
      obtain ⟨o1, o2, o3⟩ := ho i (by omega)
      have q1 : 0 ≤ (rdS ss i).f0 := o1
      have q2 : (rdS ss i).f0 ≤ (rdS ss i).f1 := o2
      have q3 : (rdS ss i).f1 < (m : Int) + i := o3
      obtain ⟨ba, bb⟩ := hcl i (by omega) hbi
      refine ev_shift ?_
      simp only [spec_plKeep.l0, if_pos (show (j : Int) < ((pick U m ss.length 0).length : Int) by omega), if_pos (show (0 : Int) ≤ (j : Int) by omega), er, if_pos (show (0 : Int) ≤ (i : Int) by omega), if_pos (show (i : Int) < (ss.length : Int) by omega), w64 (show -9223372036854775808 ≤ (j : Int) + 1 by omega) (by omega)]
      refine ev_bind (plNumber_ev m ss os U ss.length h3 h2 (rdS ss i).f0 q1 (by omega) (.inr ba)) ?_
      refine ev_bind (plNumber_ev m ss os U ss.length h3 h2 (rdS ss i).f1 (by omega) (by omega) (.inr bb)) ?_
      simp only [spec_plStep.f, least_mn, most_mx, Option.bind_some, if_pos (show (((pick U m ss.length 0).take j).map (stepAt U m ss)).length < 8796093022208 by rw [List.length_map, List.length_take]; omega)]
      have := ih (j + 1) (by omega)
      rw [List.take_succ_eq_append_getElem (by omega), List.map_append, ← e, er] at this
      exact this
  exact loop (pick U m ss.length 0).length 0 (by omega)
theorem tSteps_length (m : Nat) (ss : List St) (os : List Int) : (tSteps m ss os).length ≤ ss.length := by unfold tSteps; rw [List.length_map]; exact usedOf_length m ss os
theorem tOuts_length (m : Nat) (ss : List St) (os : List Int) : (tOuts m ss os).length = os.length := by unfold tOuts; rw [List.length_map]
theorem tail_ (xs ys : List Int) (hl : xs.length ≤ 1048576) (hl2 : ys.length ≤ 1048576) (n : Int) (ss : List St) (os : List Int) (b : Bool) (h1 : ss.length ≤ 1000000) (h2 : os.length ≤ 1000000) (hs : Ev (fun k => spec_SequencePlan.f k xs ys) (n, ss, os, b)) (hi : Ev (fun k => impl_SequencePlan.f k xs ys) (n, ss, os, b)) : Ev (fun k => laws_FnExactSequencePlan.f k xs ys) true := by
  have ht := toIntS_ev xs (by omega)
  have hu := toIntS_ev ys (by omega)
  have hmx := markIntS_ev xs 1 (by omega) (by omega)
  have hmy := markIntS_ev ys (1 + xs.length) (by omega) (by omega)
  have hex := eqIntS_same xs (by omega)
  have hey := eqIntS_same ys (by omega)
  have hep := eqPlan_same n ss os (by omega) (by omega)
  have hm := markPlan_ev n ss os (by omega) (by omega)
  have hh := heldPlan_ev n ss.length os.length h1 h2
  have e0 : (b != b) = false := by cases b <;> rfl
  have n0 : ¬ (1 + 2 * (ss.length : Int) + (os.length : Int) < 0) := by omega
  have nx : ¬ (1 + (xs.length : Int) + (ys.length : Int) < 0) := by omega
  have j2 : Ev (fun k => laws_FnExactSequencePlan.j2 k (1 + 2 * ss.length + os.length) false n (markedS ss.length 1) (marked os.length (1 + 2 * ss.length))) true := by
    refine ev_shift ?_
    simp only [laws_FnExactSequencePlan.j2, Bool.false_eq_true, if_false]
    refine ev_bind hh ?_
    simp only [if_neg n0, if_true]
    exact Ev.now _
  have j1 : Ev (fun k => laws_FnExactSequencePlan.j1 k xs ys b false n ss os n ss os) true := by
    refine ev_shift ?_
    simp only [laws_FnExactSequencePlan.j1, Bool.false_eq_true, if_false]
    refine ev_bind hm ?_
    refine ev_bind hh ?_
    simp only [if_neg n0, if_true]
    refine ev_bind ht ?_
    refine ev_bind hu ?_
    refine ev_bind hi ?_
    refine ev_bind hep ?_
    simp only [if_true, e0]
    exact j2
  have j0 : Ev (fun k => laws_FnExactSequencePlan.j0 k xs ys b xs ys b false n ss os n ss os) true := by
    refine ev_shift ?_
    simp only [laws_FnExactSequencePlan.j0, Bool.false_eq_true, if_false]
    refine ev_bind ht ?_
    refine ev_bind hex ?_
    simp only [if_true]
    refine ev_bind hu ?_
    refine ev_bind hey ?_
    simp only [if_true]
    refine ev_bind hmx ?_
    refine ev_bind hmy ?_
    simp only [if_neg nx]
    refine ev_bind hep ?_
    simp only [if_true, e0]
    exact j1
  have big : ¬ ((xs.length : Int) > 1048576) := by omega
  have big2 : ¬ ((ys.length : Int) > 1048576) := by omega
  unfold laws_FnExactSequencePlan.f
  simp only [if_neg big, if_neg big2]
  refine ev_bind ht ?_
  refine ev_bind hu ?_
  refine ev_bind hs ?_
  refine ev_bind ht ?_
  refine ev_bind hu ?_
  refine ev_bind hi ?_
  refine ev_bind hep ?_
  simp only [if_true, e0]
  exact j0
theorem over_ (xs ys : List Int) (hl : ¬ (xs.length ≤ 1048576 ∧ ys.length ≤ 1048576)) : Ev (fun k => laws_FnExactSequencePlan.f k xs ys) true := by
  unfold laws_FnExactSequencePlan.f
  by_cases c : (xs.length : Int) > 1048576
  · simp only [if_pos c]; exact Ev.now _
  · simp only [if_neg c, if_pos (show (ys.length : Int) > 1048576 by omega)]; exact Ev.now _
theorem index_ev (xs : List Int) (x : Int) (hl : xs.length ≤ 1000000) : Ev (fun k => slices_Index_int_int.f k xs x) (placeFrom xs x xs.length 0) := by
  have loop : ∀ (d i : Nat), i + d = xs.length → Ev (fun k => slices_Index_int_int.l0 k xs x xs.length i) (placeFrom xs x d i) := by
    intro d
    induction d with
    | zero =>
      intro i hd
      refine ev_shift ?_
      simp only [slices_Index_int_int.l0, if_neg (show ¬ (i : Int) < (xs.length : Int) by omega), placeFrom]
      exact Ev.now _
    | succ d ih =>
      intro i hd
      refine ev_shift ?_
      simp only [slices_Index_int_int.l0, if_pos (show (i : Int) < (xs.length : Int) by omega), if_pos (show (0 : Int) ≤ (i : Int) by omega), w64 (show -9223372036854775808 ≤ (i : Int) + 1 by omega) (by omega), placeFrom]
      by_cases c : rd xs (i : Int) = x
      · simp only [if_pos c, if_pos c.symm]; exact Ev.now _
      · simp only [if_neg c, if_neg (fun e => c (Eq.symm e))]; exact ih (i + 1) (by omega)
  exact loop xs.length 0 (by omega)
theorem placeFrom_lt (xs : List Int) (x : Int) : ∀ (d i : Nat), placeFrom xs x d i < (i : Int) + d
  | 0, i => by rw [placeFrom]; omega
  | d + 1, i => by
    have := placeFrom_lt xs x d (i + 1)
    rw [placeFrom]
    split <;> omega
/-- The answer, a part of the targets being looked up. -/
def ansFrom (xs ts : List Int) : Nat → Nat → List Int → Int × List St × List Int × Bool
  | 0, _, acc => (1, tSteps 1 (stepsOf xs) acc, tOuts 1 (stepsOf xs) acc, true)
  | d + 1, i, acc => if placeFrom xs (rd ts (i : Int)) xs.length 0 < 0 then (0, [], [], false) else ansFrom xs ts d (i + 1) (acc ++ [placeFrom xs (rd ts (i : Int)) xs.length 0])
def answer (xs ts : List Int) : Int × List St × List Int × Bool := if chain xs = true ∧ ts.length ≤ 6 then ansFrom xs ts ts.length 0 [] else (0, [], [], false)
theorem ansFrom_len (xs ts : List Int) (hs : (stepsOf xs).length ≤ 40) : ∀ (d i : Nat) (acc : List Int), acc.length + d ≤ 100 → (ansFrom xs ts d i acc).2.1.length ≤ 1000000 ∧ (ansFrom xs ts d i acc).2.2.1.length ≤ 1000000
  | 0, i, acc, h => by
    have h1 := tSteps_length 1 (stepsOf xs) acc
    have h2 := tOuts_length 1 (stepsOf xs) acc
    exact ⟨(show (tSteps 1 (stepsOf xs) acc).length ≤ 1000000 by omega), (show (tOuts 1 (stepsOf xs) acc).length ≤ 1000000 by omega)⟩
  | d + 1, i, acc, h => by
    rw [ansFrom]
    split
    · exact ⟨Nat.zero_le _, Nat.zero_le _⟩
    · exact ansFrom_len xs ts hs d (i + 1) _ (by simp; omega)
theorem mem_rd {os : List Int} {n : Int} (h : ∀ x ∈ os, 0 ≤ x ∧ x < n) : ∀ j : Nat, j < os.length → 0 ≤ rd os j ∧ rd os j ≤ n - 1 := fun j hj => by
  have := h _ (List.getElem_mem hj)
  rw [rd_nat, show os.getD j 0 = os[j] by simp [List.getD, hj]]
  omega
theorem both (xs ts : List Int) (c : chain xs = true) (hx : xs.length ≤ 1048576) (ht : ts.length ≤ 6) : Ev (fun k => spec_SequencePlan.f k xs ts) (ansFrom xs ts ts.length 0 []) ∧ Ev (fun k => impl_SequencePlan.f k xs ts) (ansFrom xs ts ts.length 0 []) := by
  have hf := chain_from xs c
  have hsl : (stepsOf xs).length = xs.length - 1 := by unfold stepsOf; rw [stepsFrom_length]
  have hord := chain_order xs c
  have inr : ∀ (acc : List Int) (i : Nat), (∀ x ∈ acc, 0 ≤ x ∧ x < (xs.length : Int)) → ¬ placeFrom xs (rd ts (i : Int)) xs.length 0 < 0 → ∀ x ∈ acc ++ [placeFrom xs (rd ts (i : Int)) xs.length 0], 0 ≤ x ∧ x < (xs.length : Int) := fun acc i ha hp x hx => by
    rcases List.mem_append.1 hx with h | h
    · exact ha x h
    · obtain rfl : x = placeFrom xs (rd ts (i : Int)) xs.length 0 := by simpa using h
      have := placeFrom_lt xs (rd ts (i : Int)) xs.length 0
      omega
  have sl : ∀ (d i : Nat) (acc : List Int), i + d = ts.length → acc.length = i → (∀ x ∈ acc, 0 ≤ x ∧ x < (xs.length : Int)) → Ev (fun k => spec_SequencePlan.l0 k xs ts ts.length i 1 (stepsOf xs) acc) (ansFrom xs ts d i acc) := by
    intro d
    induction d with
    | zero =>
      intro i acc hd hal ha
      have hos := mem_rd (n := ((1 : Nat) : Int) + (stepsOf xs).length) (fun x hx => by have := ha x hx; omega)
      refine ev_shift ?_
      simp only [spec_SequencePlan.l0, if_neg (show ¬ (i : Int) < (ts.length : Int) by omega)]
      refine ev_bind (plUsed_ev 1 (stepsOf xs) acc (by omega) (by omega) (by omega) (by omega) hord hos) ?_
      refine ev_bind (plKeep_ev 1 (stepsOf xs) acc (by omega) (by omega) (by omega) (by omega) hord hos) ?_
      exact Ev.now _
    | succ d ih =>
      intro i acc hd hal ha
      have hp := plPlace_ev xs (rd ts (i : Int)) (by omega)
      refine ev_shift ?_
      simp only [spec_SequencePlan.l0, if_pos (show (i : Int) < (ts.length : Int) by omega), if_pos (show (0 : Int) ≤ (i : Int) by omega), w64 (show -9223372036854775808 ≤ (i : Int) + 1 by omega) (by omega)]
      refine ev_bind hp ?_
      rw [ansFrom]
      by_cases cp : placeFrom xs (rd ts (i : Int)) xs.length 0 < 0
      · simp only [if_pos cp]; exact Ev.now _
      · simp only [if_neg cp]
        refine ev_bind hp ?_
        simp only [if_pos (show acc.length < 17592186044416 by omega)]
        exact ih (i + 1) _ (by omega) (by simp; omega) (inr acc i ha cp)
  have il : ∀ (d i : Nat) (acc : List Int), i + d = ts.length → acc.length = i → (∀ x ∈ acc, 0 ≤ x ∧ x < (xs.length : Int)) → Ev (fun k => impl_SequencePlan.l0 k xs ts ts.length i 1 (stepsOf xs) acc) (ansFrom xs ts d i acc) := by
    intro d
    induction d with
    | zero =>
      intro i acc hd hal ha
      have hos := mem_rd (n := ((1 : Nat) : Int) + (stepsOf xs).length) (fun x hx => by have := ha x hx; omega)
      refine ev_shift ?_
      simp only [impl_SequencePlan.l0, if_neg (show ¬ (i : Int) < (ts.length : Int) by omega)]
      refine ev_bind (trimmed_ev 1 (stepsOf xs) acc (by omega) (by omega) (by omega) (by omega) hord hos) ?_
      exact Ev.now _
    | succ d ih =>
      intro i acc hd hal ha
      refine ev_shift ?_
      simp only [impl_SequencePlan.l0, if_pos (show (i : Int) < (ts.length : Int) by omega), if_pos (show (0 : Int) ≤ (i : Int) by omega), w64 (show -9223372036854775808 ≤ (i : Int) + 1 by omega) (by omega)]
      refine ev_bind (index_ev xs (rd ts (i : Int)) (by omega)) ?_
      rw [ansFrom]
      by_cases cp : placeFrom xs (rd ts (i : Int)) xs.length 0 < 0
      · simp only [if_pos cp]; exact Ev.now _
      · simp only [if_neg cp, if_pos (show acc.length < 17592186044416 by omega)]
        exact ih (i + 1) _ (by omega) (by simp; omega) (inr acc i ha cp)
  constructor
  · unfold spec_SequencePlan.f
    refine ev_bind (chGood_ev xs hx) ?_
    simp only [c, if_true, decide_eq_false (show ¬ (ts.length : Int) > 6 by omega)]
    refine ev_shift ?_
    simp only [spec_SequencePlan.j0, Bool.false_eq_true, if_false, spec_chPlan.f, Option.bind_assoc, Option.bind_some]
    refine ev_bind (chSteps_ev xs c) ?_
    exact sl ts.length 0 [] (by omega) rfl (fun x hx => by cases hx)
  · unfold impl_SequencePlan.f
    refine ev_bind (isChain_ev xs hx) ?_
    simp only [c, if_true, decide_eq_false (show ¬ (ts.length : Int) > 6 by omega)]
    refine ev_shift ?_
    simp only [impl_SequencePlan.j0, Bool.false_eq_true, if_false, impl_chainPlan.f, Option.bind_assoc, Option.bind_some]
    refine ev_bind (chainSteps_ev xs c) ?_
    exact il ts.length 0 [] (by omega) rfl (fun x hx => by cases hx)
theorem neither (xs ts : List Int) (hx : xs.length ≤ 1048576) (h : ¬ (chain xs = true ∧ ts.length ≤ 6)) : Ev (fun k => spec_SequencePlan.f k xs ts) (0, [], [], false) ∧ Ev (fun k => impl_SequencePlan.f k xs ts) (0, [], [], false) := by
  constructor
  · unfold spec_SequencePlan.f
    refine ev_bind (chGood_ev xs hx) ?_
    by_cases c : chain xs = true
    · simp only [c, if_true, decide_eq_true (show (ts.length : Int) > 6 by have : ¬ ts.length ≤ 6 := fun q => h ⟨c, q⟩; omega)]
      refine ev_shift ?_
      simp only [spec_SequencePlan.j0, if_true]
      exact Ev.now _
    · have c' : chain xs = false := by simpa using c
      simp only [c', Bool.false_eq_true, if_false, Bool.not_false, if_true]
      refine ev_shift ?_
      simp only [spec_SequencePlan.j0, if_true]
      exact Ev.now _
  · unfold impl_SequencePlan.f
    refine ev_bind (isChain_ev xs hx) ?_
    by_cases c : chain xs = true
    · simp only [c, if_true, decide_eq_true (show (ts.length : Int) > 6 by have : ¬ ts.length ≤ 6 := fun q => h ⟨c, q⟩; omega)]
      refine ev_shift ?_
      simp only [impl_SequencePlan.j0, if_true]
      exact Ev.now _
    · have c' : chain xs = false := by simpa using c
      simp only [c', Bool.false_eq_true, if_false, Bool.not_false, if_true]
      refine ev_shift ?_
      simp only [impl_SequencePlan.j0, if_true]
      exact Ev.now _
theorem FnExactSequencePlan : laws_FnExactSequencePlan.Pure := by
  intro xs ts _ _ _ _ _ _
  by_cases hl : xs.length ≤ 1048576 ∧ ts.length ≤ 1048576
  · by_cases h : chain xs = true ∧ ts.length ≤ 6
    · obtain ⟨a, b⟩ := both xs ts h.1 hl.1 h.2
      have hsl : (stepsOf xs).length = xs.length - 1 := by unfold stepsOf; rw [stepsFrom_length]
      have hc := chain_from xs h.1
      obtain ⟨l1, l2⟩ := ansFrom_len xs ts (by omega) ts.length 0 [] (by simp; omega)
      exact (tail_ xs ts hl.1 hl.2 _ _ _ _ l1 l2 a b).rounds
    · obtain ⟨a, b⟩ := neither xs ts hl.1 h
      exact (tail_ xs ts hl.1 hl.2 0 [] [] false (by simp) (by simp) a b).rounds
  · exact (over_ xs ts hl).rounds
end Go.Proofs.Ytdcdaoancmpbeaa.Pure
