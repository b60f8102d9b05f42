/- For every list: NeededPart of the program answers as the reference does, and shares no memory. -/
import Derived.Test.YtailgfeffoimaaaMFnExactNeededPartx7
namespace Go.Proofs.Ytailgfeffoimaaa.Pure
open Go.RowKit Go.Proofs.Ytailgfeffoimaaa.MFnExactNeededPart Go.Proofs.YtailgfeffoimaaaW.PrintWords Go.Proofs.YtailgfeffoimaaaW.PrintLast Go.Proofs.YtailgfeffoimaaaW.PrintMore
set_option linter.unusedVariables false
set_option linter.unusedSimpArgs false

theorem w64 {x : Int} (h1 : -9223372036854775808 ≤ x) (h2 : x ≤ 9223372036854775807) : wrap64 x = x := by unfold wrap64; omega

theorem rd_nat (xs : List Int) (j : Nat) : rd xs (j : Int) = xs.getD j 0 := by unfold rd; rw [Int.toNat_natCast]

theorem ev_shift {α : Type} {g : Nat → Option α} {r : α} (h : Ev (fun k => g (k + 1)) r) : Ev g r := by
  obtain ⟨K, hK⟩ := h
  refine ⟨K + 1, fun k hk => ?_⟩
  obtain ⟨m, rfl⟩ : ∃ m, k = m + 1 := ⟨k - 1, by omega⟩
  exact hK m (by omega)

theorem ev_bind {α β : Type} {g : Nat → Option α} {F : Nat → α → Option β} {a : α} {r : β} (h : Ev g a) (k : Ev (fun n => F n a) r) : Ev (fun n => (g n).bind (fun x => F n x)) r := Ev.bind h k

theorem ev_some {α : Type} {g : Nat → Option α} {r : α} (h : ∀ k, g k = some r) : Ev g r := ⟨0, fun k _ => h k⟩

theorem eqIntS_same (xs : List Int) (hb : xs.length ≤ 4611686018427387904) : Ev (fun k => laws_eqIntS.f k xs xs) true := by
  have loop : ∀ (d k : Nat) (i : Int), 0 ≤ i → i ≤ xs.length → (xs.length : Int) - i = d → d < k → laws_eqIntS.l0 k xs xs i = some true := by
    intro d
    induction d with
    | zero =>
      intro k i h0 h1 hd hk
      obtain ⟨k, rfl⟩ : ∃ m, k = m + 1 := ⟨k - 1, by omega⟩
      rw [laws_eqIntS.l0, if_neg (by omega)]
    | succ d ih =>
      intro k i h0 h1 hd hk
      obtain ⟨k, rfl⟩ : ∃ m, k = m + 1 := ⟨k - 1, by omega⟩
      rw [laws_eqIntS.l0, if_pos (by omega), if_pos h0, if_pos (by omega), if_pos rfl, w64 (by omega) (by omega)]
      exact ih k (i + 1) (by omega) (by omega) (by omega) (by omega)
  refine ⟨xs.length + 1, fun k hk => ?_⟩
  show laws_eqIntS.f k xs xs = some true
  unfold laws_eqIntS.f
  rw [if_pos rfl]
  exact loop xs.length k 0 (by omega) (by omega) (by omega) (by omega)

def marked (n : Nat) (a : Int) : List Int := (List.range n).map (fun j : Nat => a + (j : Int))
theorem marked_length (n : Nat) (a : Int) : (marked n a).length = n := by simp [marked]
theorem marked_succ (n : Nat) (a : Int) : marked (n + 1) a = marked n a ++ [a + n] := by simp [marked, List.range_succ]
theorem marked_get (n : Nat) (a : Int) (j : Nat) (h : j < n) : (marked n a).getD j 0 = a + j := by simp [marked, List.getD, h]

theorem marked_step (xs : List Int) (a : Int) (i : Nat) (h : i < xs.length) : (marked i a ++ xs.drop i).set i (a + i) = marked (i + 1) a ++ xs.drop (i + 1) := by
  rw [List.set_append_right _ _ (by rw [marked_length]; exact Nat.le_refl _), marked_length, Nat.sub_self, List.drop_eq_getElem_cons h, List.set_cons_zero, marked_succ]
  simp

theorem markIntS_ev (xs : List Int) (a : Int) (h0 : 0 ≤ a) (ha : a + xs.length ≤ 4611686018427387904) : Ev (fun k => laws_markIntS.f k xs a) (a + xs.length, marked xs.length a) := by
  have loop : ∀ (d k i : Nat), i ≤ xs.length → xs.length - i = d → d < k → laws_markIntS.l0 k (marked i a ++ xs.drop i) (a + i) i = some (a + xs.length, marked xs.length a) := by
    intro d
    induction d with
    | zero =>
      intro k i h1 hd hk
      obtain ⟨k, rfl⟩ : ∃ m, k = m + 1 := ⟨k - 1, by omega⟩
      obtain rfl : i = xs.length := by omega
      have hl : (marked xs.length a ++ xs.drop xs.length).length = xs.length := by simp [marked_length]
      rw [laws_markIntS.l0, hl, if_neg (by omega)]
      simp
    | succ d ih =>
      intro k i h1 hd hk
      obtain ⟨k, rfl⟩ : ∃ m, k = m + 1 := ⟨k - 1, by omega⟩
      have hl : (marked i a ++ xs.drop i).length = xs.length := by simp [marked_length]; omega
      rw [laws_markIntS.l0, hl, if_pos (by omega), if_pos (by omega), Int.toNat_natCast, marked_step xs a i (by omega), w64 (by omega) (by omega), w64 (by omega) (by omega)]
      have e : a + (i : Int) + 1 = a + ((i + 1 : Nat) : Int) := by omega
      rw [e]
      exact ih k (i + 1) (by omega) (by omega) (by omega)
  refine ⟨xs.length + 1, fun k hk => ?_⟩
  have h := loop xs.length k 0 (by omega) (by omega) (by omega)
  simpa [marked, laws_markIntS.f] using h

theorem heldIntS_ev (n : Nat) (a : Int) (h0 : 0 ≤ a) (ha : a + n ≤ 4611686018427387904) : Ev (fun k => laws_heldIntS.f k (marked n a) a) (a + n) := by
  have loop : ∀ (d k i : Nat), i ≤ n → n - i = d → d < k → laws_heldIntS.l0 k (marked n a) (a + i) i = some (a + n) := by
    intro d
    induction d with
    | zero =>
      intro k i h1 hd hk
      obtain ⟨k, rfl⟩ : ∃ m, k = m + 1 := ⟨k - 1, by omega⟩
      obtain rfl : i = n := by omega
      rw [laws_heldIntS.l0, marked_length, if_neg (by omega)]
    | succ d ih =>
      intro k i h1 hd hk
      obtain ⟨k, rfl⟩ : ∃ m, k = m + 1 := ⟨k - 1, by omega⟩
      rw [laws_heldIntS.l0, marked_length, if_pos (by omega), if_pos (by omega), rd_nat, marked_get n a i (by omega), if_pos rfl, w64 (by omega) (by omega), w64 (by omega) (by omega)]
      have e : a + (i : Int) + 1 = a + ((i + 1 : Nat) : Int) := by omega
      rw [e]
      exact ih k (i + 1) (by omega) (by omega) (by omega)
  refine ⟨n + 1, fun k hk => ?_⟩
  have h := loop n k 0 (by omega) (by omega) (by omega)
  simpa [laws_heldIntS.f] using h

theorem toIntS_step (xs : List Int) (i : Nat) (h : i < xs.length) : (xs.take i ++ List.replicate (xs.length - i) 0).set i (xs.getD i 0) = xs.take (i + 1) ++ List.replicate (xs.length - (i + 1)) 0 := by
  have hl : (xs.take i).length = i := by simp; omega
  rw [List.set_append_right _ _ (by omega), hl, Nat.sub_self]
  obtain ⟨m, hm⟩ : ∃ m, xs.length - i = m + 1 := ⟨xs.length - i - 1, by omega⟩
  have hm2 : xs.length - (i + 1) = m := by omega
  have e : xs.getD i 0 = xs[i] := by simp [List.getD, h]
  rw [hm, hm2, List.replicate_succ, List.set_cons_zero, e, List.take_succ_eq_append_getElem h, List.append_assoc]
  rfl

theorem toIntS_ev (xs : List Int) (hb : xs.length ≤ 35184372088832) : Ev (fun k => laws_toIntS.f k xs) xs := by
  have loop : ∀ (d k i : Nat), i ≤ xs.length → xs.length - i = d → d < k → laws_toIntS.l0 k xs (xs.take i ++ List.replicate (xs.length - i) 0) i = some xs := by
    intro d
    induction d with
    | zero =>
      intro k i h1 hd hk
      obtain ⟨k, rfl⟩ : ∃ m, k = m + 1 := ⟨k - 1, by omega⟩
      obtain rfl : i = xs.length := by omega
      rw [laws_toIntS.l0, if_neg (by omega)]
      simp
    | succ d ih =>
      intro k i h1 hd hk
      obtain ⟨k, rfl⟩ : ∃ m, k = m + 1 := ⟨k - 1, by omega⟩
      have hl : (xs.take i ++ List.replicate (xs.length - i) 0).length = xs.length := by simp; omega
      rw [laws_toIntS.l0, if_pos (by omega), if_pos (by omega), hl, if_pos (by omega), Int.toNat_natCast, rd_nat, toIntS_step xs i (by omega), w64 (by omega) (by omega)]
      exact ih k (i + 1) (by omega) (by omega) (by omega)
  refine ⟨xs.length + 1, fun k hk => ?_⟩
  have h := loop xs.length k 0 (by omega) (by omega) (by omega)
  show laws_toIntS.f k xs = some xs
  unfold laws_toIntS.f
  rw [if_pos (by omega), Int.toNat_natCast, if_pos hb]
  simpa using h

abbrev St := S51
def inner (xs : List Int) (k j : Int) : Nat → Int → List St
  | 0, _ => []
  | d + 1, i => if wrap64 (rd xs i + rd xs j) = rd xs k then ⟨i, j⟩ :: inner xs k j d (i + 1) else inner xs k j d (i + 1)
def outer (xs : List Int) (k : Int) : Nat → Int → List St
  | 0, _ => []
  | d + 1, j => inner xs k j (j + 1).toNat 0 ++ outer xs k d (j + 1)
def sumsOf (xs : List Int) (k : Int) : List St := outer xs k k.toNat 0

theorem inner_length (xs : List Int) (k j : Int) : ∀ (d : Nat) (i : Int), (inner xs k j d i).length ≤ d
  | 0, _ => Nat.le_refl _
  | d + 1, i => by
    have := inner_length xs k j d (i + 1)
    unfold inner
    split
    · simp only [List.length_cons]; omega
    · omega

theorem spec_inner (xs : List Int) (k j : Int) (r : List St) (hj : 0 ≤ j) (hjk : j < k) (hk : k < xs.length) (hl : xs.length ≤ 100000) : ∀ (d : Nat) (i : Int) (acc : List St), 0 ≤ i → i + d = j + 1 → acc.length + d ≤ 8000000000000 →
    Ev (fun f => spec_chPairs.l0 f xs k (acc ++ inner xs k j d i) (j + 1)) r → Ev (fun f => spec_chPairs.l1 f xs k acc j i) r := by
  intro d
  induction d with
  | zero =>
    intro i acc hi hd _ h
    refine ev_shift ?_
    simp only [spec_chPairs.l1, if_neg (show ¬ i ≤ j by omega), w64 (show -9223372036854775808 ≤ j + 1 by omega) (by omega)]
    simpa [inner] using h
  | succ d ih =>
    intro i acc hi hd hacc h
    refine ev_shift ?_
    simp only [spec_chPairs.l1, if_pos (show i ≤ j by omega), if_pos hi, if_pos (show i < (xs.length : Int) by omega), if_pos hj, if_pos (show j < (xs.length : Int) by omega), if_pos (show 0 ≤ k by omega), if_pos hk,
      w64 (show -9223372036854775808 ≤ i + 1 by omega) (by omega)]
    by_cases c : wrap64 (rd xs i + rd xs j) = rd xs k
    · simp only [if_pos c, if_pos (show acc.length < 8796093022208 by omega)]
      refine ih (i + 1) (acc ++ [⟨i, j⟩]) (by omega) (by omega) (by simp only [List.length_append, List.length_singleton]; omega) ?_
      simpa [inner, c] using h
    · simp only [if_neg c]
      refine ih (i + 1) acc (by omega) (by omega) (by omega) ?_
      simpa [inner, c] using h

theorem spec_outer (xs : List Int) (k : Int) (hk : k < xs.length) (hl : xs.length ≤ 100000) : ∀ (d : Nat) (j : Int) (acc : List St), 0 ≤ j → j + d = k → acc.length + d * 100001 ≤ 8000000000000 →
    Ev (fun f => spec_chPairs.l0 f xs k acc j) (acc ++ outer xs k d j) := by
  intro d
  induction d with
  | zero =>
    intro j acc hj hd _
    refine ev_shift ?_
    simp only [spec_chPairs.l0, if_neg (show ¬ j < k by omega), outer, List.append_nil]
    exact Ev.now _
  | succ d ih =>
    intro j acc hj hd hacc
    refine ev_shift ?_
    simp only [spec_chPairs.l0, if_pos (show j < k by omega)]
    have hi := inner_length xs k j (j + 1).toNat 0
    refine spec_inner xs k j _ hj (by omega) hk hl (j + 1).toNat 0 acc (by omega) (by omega) (by omega) ?_
    have h := ih (j + 1) (acc ++ inner xs k j (j + 1).toNat 0) (by omega) (by omega) (by rw [List.length_append]; omega)
    simpa [outer] using h

theorem chPairs_ev (xs : List Int) (k : Int) (h0 : 0 ≤ k) (hk : k < xs.length) (hl : xs.length ≤ 100000) : Ev (fun f => spec_chPairs.f f xs k) (sumsOf xs k) := by
  have h := spec_outer xs k hk hl k.toNat 0 [] (by omega) (by omega) (by simp only [List.length_nil]; omega)
  simpa [sumsOf, spec_chPairs.f] using h

theorem impl_inner (xs : List Int) (k j : Int) (r : List St) (hj : 0 ≤ j) (hjk : j < k) (hk : k < xs.length) (hl : xs.length ≤ 100000) : ∀ (d : Nat) (i : Int) (acc : List St), 0 ≤ i → i + d = j + 1 → acc.length + d ≤ 8000000000000 →
    Ev (fun f => impl_sums.l0 f xs k (acc ++ inner xs k j d i) k (j + 1)) r → Ev (fun f => impl_sums.l1 f xs k acc j k j (j + 1) i) r := by
  intro d
  induction d with
  | zero =>
    intro i acc hi hd _ h
    refine ev_shift ?_
    simp only [impl_sums.l1, if_neg (show ¬ i < j + 1 by omega), w64 (show -9223372036854775808 ≤ j + 1 by omega) (by omega)]
    simpa [inner] using h
  | succ d ih =>
    intro i acc hi hd hacc h
    refine ev_shift ?_
    simp only [impl_sums.l1, if_pos (show i < j + 1 by omega), if_pos hi, if_pos (show i < (xs.length : Int) by omega), if_pos hj, if_pos (show j < (xs.length : Int) by omega), if_pos (show 0 ≤ k by omega), if_pos hk,
      w64 (show -9223372036854775808 ≤ i + 1 by omega) (by omega)]
    by_cases c : wrap64 (rd xs i + rd xs j) = rd xs k
    · simp only [if_pos c, if_pos (show acc.length < 8796093022208 by omega)]
      refine ih (i + 1) (acc ++ [⟨i, j⟩]) (by omega) (by omega) (by simp only [List.length_append, List.length_singleton]; omega) ?_
      simpa [inner, c] using h
    · simp only [if_neg c]
      refine ih (i + 1) acc (by omega) (by omega) (by omega) ?_
      simpa [inner, c] using h

theorem impl_outer (xs : List Int) (k : Int) (hk : k < xs.length) (hl : xs.length ≤ 100000) : ∀ (d : Nat) (j : Int) (acc : List St), 0 ≤ j → j + d = k → acc.length + d * 100001 ≤ 8000000000000 →
    Ev (fun f => impl_sums.l0 f xs k acc k j) (acc ++ outer xs k d j) := by
  intro d
  induction d with
  | zero =>
    intro j acc hj hd _
    refine ev_shift ?_
    simp only [impl_sums.l0, if_neg (show ¬ j < k by omega), outer, List.append_nil]
    exact Ev.now _
  | succ d ih =>
    intro j acc hj hd hacc
    refine ev_shift ?_
    simp only [impl_sums.l0, if_pos (show j < k by omega), w64 (show -9223372036854775808 ≤ j + 1 by omega) (by omega)]
    have hi := inner_length xs k j (j + 1).toNat 0
    refine impl_inner xs k j _ hj (by omega) hk hl (j + 1).toNat 0 acc (by omega) (by omega) (by omega) ?_
    have h := ih (j + 1) (acc ++ inner xs k j (j + 1).toNat 0) (by omega) (by omega) (by rw [List.length_append]; omega)
    simpa [outer] using h

theorem sums_ev (xs : List Int) (k : Int) (h0 : 0 ≤ k) (hk : k < xs.length) (hl : xs.length ≤ 100000) : Ev (fun f => impl_sums.f f xs k) (sumsOf xs k) := by
  have h := impl_outer xs k hk hl k.toNat 0 [] (by omega) (by omega) (by simp only [List.length_nil]; omega)
  simpa [sumsOf, impl_sums.f] using h

/-! the chain's test, in both ways -/
def risingFrom (xs : List Int) : Nat → Int → Bool
  | 0, _ => true
  | d + 1, i => if rd xs i ≥ 1 then (if rd xs i ≤ 1000000 then (if i > 0 then (if rd xs (i - 1) ≥ rd xs i then false else risingFrom xs d (i + 1)) else risingFrom xs d (i + 1)) else false) else false
def pairsFrom (xs : List Int) : Nat → Int → Bool
  | 0, _ => true
  | d + 1, k => if (sumsOf xs k).length = 0 then false else pairsFrom xs d (k + 1)
def implFrom (xs : List Int) : Nat → Int → Bool
  | 0, _ => true
  | d + 1, k => if rd xs k ≤ rd xs (k - 1) then false else if rd xs k > 1000000 then false else if (sumsOf xs k).length = 0 then false else implFrom xs d (k + 1)
/-- Is it a chain? -/
def chain (xs : List Int) : Bool := if 1 ≤ xs.length ∧ xs.length ≤ 41 then (if rd xs 0 = 1 then implFrom xs (xs.length - 1) 1 else false) else false

theorem from_same (xs : List Int) : ∀ (d : Nat) (i : Int), 1 ≤ i → 1 ≤ rd xs (i - 1) → (risingFrom xs d i && pairsFrom xs d i) = implFrom xs d i
  | 0, _, _, _ => rfl
  | d + 1, i, h1, h2 => by
    unfold risingFrom pairsFrom implFrom
    rw [if_pos (show i > 0 by omega)]
    by_cases c1 : rd xs i ≤ rd xs (i - 1)
    · rw [if_pos c1, if_pos (show rd xs (i - 1) ≥ rd xs i from c1)]
      split
      · split <;> rfl
      · rfl
    · rw [if_neg c1, if_neg (show ¬ rd xs (i - 1) ≥ rd xs i from c1), if_pos (show rd xs i ≥ 1 by omega)]
      by_cases c2 : rd xs i > 1000000
      · rw [if_pos c2, if_neg (by omega)]; rfl
      · rw [if_neg c2, if_pos (by omega)]
        by_cases c3 : (sumsOf xs i).length = 0
        · rw [if_pos c3, if_pos c3, Bool.and_false]
        · rw [if_neg c3, if_neg c3]
          have e : i + 1 - 1 = i := by omega
          exact from_same xs d (i + 1) (by omega) (by rw [e]; omega)

theorem l1In_eq (a b c : Int) : spec_l1In.f a b c = some (decide (b ≤ a) && decide (a ≤ c)) := by
  unfold spec_l1In.f
  by_cases h : a ≥ b
  · rw [if_pos h]; simp [show b ≤ a from h]
  · rw [if_neg h]; simp [show ¬ b ≤ a from h]
theorem in_eq (a b c : Int) : impl_in.f a b c = some (decide (b ≤ a) && decide (a ≤ c)) := by
  unfold impl_in.f
  by_cases h : a ≥ b
  · rw [if_pos h]; simp [show b ≤ a from h]
  · rw [if_neg h]; simp [show ¬ b ≤ a from h]

theorem rising_ev (xs : List Int) (hl : xs.length ≤ 100000) : ∀ (d : Nat) (i : Int), 0 ≤ i → i + d = xs.length → Ev (fun f => spec_l1Rising.l0 f xs 1 1000000 xs xs.length i) (risingFrom xs d i) := by
  intro d
  induction d with
  | zero =>
    intro i h0 hd
    refine ev_shift ?_
    simp only [spec_l1Rising.l0, if_neg (show ¬ i < (xs.length : Int) by omega), risingFrom]
    exact Ev.now _
  | succ d ih =>
    intro i h0 hd
    have hn := ih (i + 1) (by omega) (by omega)
    refine ev_shift ?_
    simp only [spec_l1Rising.l0, if_pos (show i < (xs.length : Int) by omega), if_pos h0, w64 (show -9223372036854775808 ≤ i + 1 by omega) (by omega), w64 (show -9223372036854775808 ≤ i - 1 by omega) (by omega), l1In_eq, Option.bind_some]
    unfold risingFrom
    by_cases c1 : rd xs i ≥ 1
    · by_cases c2 : rd xs i ≤ 1000000
      · rw [if_pos c1, if_pos c2]
        simp only [decide_eq_true (show 1 ≤ rd xs i from c1), decide_eq_true c2, Bool.and_self, if_true]
        by_cases c3 : i > 0
        · simp only [if_pos c3, if_pos (show 0 ≤ i - 1 by omega), if_pos (show i - 1 < (xs.length : Int) by omega)]
          by_cases c4 : rd xs (i - 1) ≥ rd xs i
          · simp only [if_pos c4]; exact Ev.now _
          · simp only [if_neg c4]; exact hn
        · simp only [if_neg c3]; exact hn
      · rw [if_pos c1, if_neg c2]
        simp only [decide_eq_false c2, Bool.and_false, Bool.false_eq_true, if_false]
        exact Ev.now _
    · rw [if_neg c1]
      simp only [decide_eq_false (show ¬ 1 ≤ rd xs i from c1), Bool.false_and, Bool.false_eq_true, if_false]
      exact Ev.now _

theorem pairs_ev (xs : List Int) (hl : xs.length ≤ 100000) : ∀ (d : Nat) (k : Int), 0 ≤ k → k + d = xs.length → Ev (fun f => spec_chGood.l0 f xs k) (pairsFrom xs d k) := by
  intro d
  induction d with
  | zero =>
    intro i h0 hd
    refine ev_shift ?_
    simp only [spec_chGood.l0, if_neg (show ¬ i < (xs.length : Int) by omega), pairsFrom]
    exact Ev.now _
  | succ d ih =>
    intro i h0 hd
    have hn := ih (i + 1) (by omega) (by omega)
    refine ev_shift ?_
    simp only [spec_chGood.l0, if_pos (show i < (xs.length : Int) by omega), w64 (show -9223372036854775808 ≤ i + 1 by omega) (by omega)]
    refine ev_bind (chPairs_ev xs i h0 (by omega) hl) ?_
    unfold pairsFrom
    by_cases c : (sumsOf xs i).length = 0
    · simp only [if_pos c, if_pos (show ((sumsOf xs i).length : Int) = 0 by omega)]; exact Ev.now _
    · simp only [if_neg c, if_neg (show ¬ ((sumsOf xs i).length : Int) = 0 by omega)]; exact hn

theorem implFrom_ev (xs : List Int) (hl : xs.length ≤ 100000) : ∀ (d : Nat) (k : Int), 1 ≤ k → k + d = xs.length → Ev (fun f => impl_IsChain.l0 f xs k) (implFrom xs d k) := by
  intro d
  induction d with
  | zero =>
    intro i h0 hd
    refine ev_shift ?_
    simp only [impl_IsChain.l0, if_neg (show ¬ i < (xs.length : Int) by omega), implFrom]
    exact Ev.now _
  | succ d ih =>
    intro i h0 hd
    have hn := ih (i + 1) (by omega) (by omega)
    refine ev_shift ?_
    simp only [impl_IsChain.l0, if_pos (show i < (xs.length : Int) by omega), if_pos (show 0 ≤ i by omega), w64 (show -9223372036854775808 ≤ i + 1 by omega) (by omega), w64 (show -9223372036854775808 ≤ i - 1 by omega) (by omega), if_pos (show 0 ≤ i - 1 by omega), if_pos (show i - 1 < (xs.length : Int) by omega)]
    unfold implFrom
    by_cases c1 : rd xs i ≤ rd xs (i - 1)
    · simp only [if_pos c1]; exact Ev.now _
    · simp only [if_neg c1]
      by_cases c2 : rd xs i > 1000000
      · simp only [if_pos c2]; exact Ev.now _
      · simp only [if_neg c2]
        refine ev_bind (sums_ev xs i (by omega) (by omega) hl) ?_
        by_cases c : (sumsOf xs i).length = 0
        · simp only [if_pos c, if_pos (show ((sumsOf xs i).length : Int) = 0 by omega)]; exact Ev.now _
        · simp only [if_neg c, if_neg (show ¬ ((sumsOf xs i).length : Int) = 0 by omega)]; exact hn

theorem isChain_ev (xs : List Int) (hl : xs.length ≤ 1048576) : Ev (fun f => impl_IsChain.f f xs) (chain xs) := by
  unfold impl_IsChain.f chain
  simp only [in_eq, Option.bind_some]
  by_cases c : 1 ≤ xs.length ∧ xs.length ≤ 41
  · simp only [if_pos c, decide_eq_true (show (1 : Int) ≤ xs.length by omega), decide_eq_true (show (xs.length : Int) ≤ 41 by omega), Bool.and_self, if_true, if_pos (show (0 : Int) < xs.length by omega)]
    by_cases c1 : rd xs 0 = 1
    · simp only [if_pos c1]
      refine ev_shift ?_
      simp only [impl_IsChain.j0, c1, bne_self_eq_false, Bool.false_eq_true, if_false]
      exact implFrom_ev xs (by omega) (xs.length - 1) 1 (by omega) (by omega)
    · simp only [if_neg c1]
      refine ev_shift ?_
      simp only [impl_IsChain.j0, bne_iff_ne.mpr c1, if_true]
      exact Ev.now _
  · rw [if_neg c]
    have e : (decide ((1 : Int) ≤ xs.length) && decide ((xs.length : Int) ≤ 41)) = false := by
      rw [Bool.and_eq_false_iff, decide_eq_false_iff_not, decide_eq_false_iff_not]; omega
    simp only [e, Bool.false_eq_true, if_false]
    refine ev_shift ?_
    simp only [impl_IsChain.j0, if_true]
    exact Ev.now _

theorem chGood_ev (xs : List Int) (hl : xs.length ≤ 1048576) : Ev (fun f => spec_chGood.f f xs) (chain xs) := by
  unfold spec_chGood.f chain
  simp only [l1In_eq, Option.bind_some]
  by_cases c : 1 ≤ xs.length ∧ xs.length ≤ 41
  · simp only [if_pos c, decide_eq_true (show (1 : Int) ≤ xs.length by omega), decide_eq_true (show (xs.length : Int) ≤ 41 by omega), Bool.and_self, if_true, if_pos (show (0 : Int) < xs.length by omega)]
    by_cases c1 : rd xs 0 = 1
    · simp only [if_pos c1]
      unfold spec_l1Rising.f
      refine ev_bind (rising_ev xs (by omega) xs.length 0 (by omega) (by omega)) ?_
      obtain ⟨n, hn⟩ : ∃ n, xs.length = n + 1 := ⟨xs.length - 1, by omega⟩
      have e1 : risingFrom xs xs.length 0 = risingFrom xs n 1 := by
        rw [hn, risingFrom, c1, if_pos (by decide), if_pos (by decide), if_neg (by decide)]
        rfl
      have e2 : xs.length - 1 = n := by omega
      rw [e1, e2, ← from_same xs n 1 (by omega) (by rw [show (1 : Int) - 1 = 0 from rfl, c1]; omega)]
      refine ev_shift ?_
      simp only [spec_chGood.j0]
      cases hr : risingFrom xs n 1 with
      | false =>
        simp only [Bool.not_false, if_true, Bool.false_and]
        exact Ev.now _
      | true =>
        simp only [Bool.not_true, Bool.false_eq_true, if_false, Bool.true_and]
        exact pairs_ev xs (by omega) n 1 (by omega) (by omega)
    · simp only [if_neg c1]
      refine ev_shift ?_
      simp only [spec_chGood.j0, if_true]
      exact Ev.now _
  · rw [if_neg c]
    have e : (decide ((1 : Int) ≤ xs.length) && decide ((xs.length : Int) ≤ 41)) = false := by
      rw [Bool.and_eq_false_iff, decide_eq_false_iff_not, decide_eq_false_iff_not]; omega
    simp only [e, Bool.false_eq_true, if_false]
    refine ev_shift ?_
    simp only [spec_chGood.j0, if_true]
    exact Ev.now _

theorem implFrom_head (xs : List Int) (d : Nat) (k : Int) (h : implFrom xs (d + 1) k = true) : (sumsOf xs k).length ≠ 0 ∧ implFrom xs d (k + 1) = true ∧ rd xs (k - 1) < rd xs k ∧ rd xs k ≤ 1000000 := by
  unfold implFrom at h
  split at h
  · cases h
  · split at h
    · cases h
    · split at h
      · cases h
      · rename_i a b c
        exact ⟨c, h, by omega, by omega⟩
theorem chain_from (xs : List Int) (h : chain xs = true) : 1 ≤ xs.length ∧ xs.length ≤ 41 ∧ rd xs 0 = 1 ∧ implFrom xs (xs.length - 1) 1 = true := by
  unfold chain at h
  split at h
  · rename_i c
    split at h
    · rename_i c1
      exact ⟨c.1, c.2, c1, h⟩
    · cases h
  · cases h

abbrev rdS (ss : List St) (i : Int) : St := rd_T51 ss i
theorem outer_length (xs : List Int) (k : Int) : ∀ (d : Nat) (j : Int), 0 ≤ j → j + d ≤ 100000 → (outer xs k d j).length ≤ d * 100001
  | 0, _, _, _ => Nat.le_refl _
  | d + 1, j, h0, h1 => by
    have h2 := outer_length xs k d (j + 1) (by omega) (by omega)
    have h3 := inner_length xs k j (j + 1).toNat 0
    unfold outer
    rw [List.length_append]
    omega
theorem sums_length (xs : List Int) (k : Int) (h0 : 0 ≤ k) (h1 : k ≤ 100000) : (sumsOf xs k).length ≤ 10000100000 := by
  have := outer_length xs k k.toNat 0 (by omega) (by omega)
  unfold sumsOf
  omega
def lastOf (ss : List St) : St := rdS ss (ss.length - 1)
def stepsFrom (xs : List Int) : Nat → Int → List St
  | 0, _ => []
  | d + 1, k => lastOf (sumsOf xs k) :: stepsFrom xs d (k + 1)
theorem stepsFrom_length (xs : List Int) : ∀ (d : Nat) (k : Int), (stepsFrom xs d k).length = d
  | 0, _ => rfl
  | d + 1, k => by rw [stepsFrom, List.length_cons, stepsFrom_length xs d (k + 1)]
/-- ChainSteps of a chain. -/
def stepsOf (xs : List Int) : List St := stepsFrom xs (xs.length - 1) 1

theorem chSteps_loop (xs : List Int) (hl : xs.length ≤ 100000) : ∀ (d : Nat) (k : Int) (acc : List St), 1 ≤ k → k + d = xs.length → acc.length + d ≤ 8000000000000 → implFrom xs d k = true → Ev (fun f => spec_chSteps.l0 f xs acc k) (acc ++ stepsFrom xs d k) := by
  intro d
  induction d with
  | zero =>
    intro k acc h0 hd _ _
    refine ev_shift ?_
    simp only [spec_chSteps.l0, if_neg (show ¬ k < (xs.length : Int) by omega), stepsFrom, List.append_nil]
    exact Ev.now _
  | succ d ih =>
    intro k acc h0 hd ha hi
    obtain ⟨h1, h2, _, _⟩ := implFrom_head xs d k hi
    have h3 := sums_length xs k (by omega) (by omega)
    refine ev_shift ?_
    simp only [spec_chSteps.l0, if_pos (show k < (xs.length : Int) by omega), w64 (show -9223372036854775808 ≤ k + 1 by omega) (by omega)]
    refine ev_bind (chPairs_ev xs k (by omega) (by omega) hl) ?_
    simp only [w64 (show -9223372036854775808 ≤ ((sumsOf xs k).length : Int) - 1 by omega) (by omega), if_pos (show 0 ≤ ((sumsOf xs k).length : Int) - 1 by omega), if_pos (show ((sumsOf xs k).length : Int) - 1 < (sumsOf xs k).length by omega), if_pos (show acc.length < 8796093022208 by omega)]
    have h := ih (k + 1) (acc ++ [lastOf (sumsOf xs k)]) (by omega) (by omega) (by simp only [List.length_append, List.length_singleton]; omega) h2
    simp only [List.append_assoc, List.singleton_append] at h
    exact h

theorem chainSteps_loop (xs : List Int) (hl : xs.length ≤ 100000) : ∀ (d : Nat) (k : Int) (acc : List St), 1 ≤ k → k + d = xs.length → acc.length + d ≤ 8000000000000 → implFrom xs d k = true → Ev (fun f => impl_chainSteps.l0 f xs acc k) (acc ++ stepsFrom xs d k) := by
  intro d
  induction d with
  | zero =>
    intro k acc h0 hd _ _
    refine ev_shift ?_
    simp only [impl_chainSteps.l0, if_neg (show ¬ k < (xs.length : Int) by omega), stepsFrom, List.append_nil]
    exact Ev.now _
  | succ d ih =>
    intro k acc h0 hd ha hi
    obtain ⟨h1, h2, _, _⟩ := implFrom_head xs d k hi
    have h3 := sums_length xs k (by omega) (by omega)
    refine ev_shift ?_
    simp only [impl_chainSteps.l0, if_pos (show k < (xs.length : Int) by omega), w64 (show -9223372036854775808 ≤ k + 1 by omega) (by omega)]
    refine ev_bind (sums_ev xs k (by omega) (by omega) hl) ?_
    simp only [w64 (show -9223372036854775808 ≤ ((sumsOf xs k).length : Int) - 1 by omega) (by omega), if_pos (show 0 ≤ ((sumsOf xs k).length : Int) - 1 by omega), if_pos (show ((sumsOf xs k).length : Int) - 1 < (sumsOf xs k).length by omega), if_pos (show acc.length < 8796093022208 by omega)]
    have h := ih (k + 1) (acc ++ [lastOf (sumsOf xs k)]) (by omega) (by omega) (by simp only [List.length_append, List.length_singleton]; omega) h2
    simp only [List.append_assoc, List.singleton_append] at h
    exact h

theorem chSteps_ev (xs : List Int) (h : chain xs = true) : Ev (fun f => spec_chSteps.f f xs) (stepsOf xs) := by
  obtain ⟨h1, h2, _, h4⟩ := chain_from xs h
  have := chSteps_loop xs (by omega) (xs.length - 1) 1 [] (by omega) (by omega) (by simp only [List.length_nil]; omega) h4
  simpa [stepsOf, spec_chSteps.f] using this
theorem chainSteps_ev (xs : List Int) (h : chain xs = true) : Ev (fun f => impl_chainSteps.f f xs) (stepsOf xs) := by
  obtain ⟨h1, h2, _, h4⟩ := chain_from xs h
  have := chainSteps_loop xs (by omega) (xs.length - 1) 1 [] (by omega) (by omega) (by simp only [List.length_nil]; omega) h4
  simpa [stepsOf, impl_chainSteps.f] using this
theorem stepsOf_length (xs : List Int) (h : chain xs = true) : (stepsOf xs).length ≤ 40 := by
  obtain ⟨h1, h2, _, _⟩ := chain_from xs h
  unfold stepsOf
  rw [stepsFrom_length]
  omega

/-! exponents -/
/-- Is each step from i on in order. -/
def InOrder (n : Nat) (ss : List (S51)) : Prop := ∀ i : Nat, i < ss.length → 0 ≤ (rd_T51 ss i).f0 ∧ (rd_T51 ss i).f0 ≤ (rd_T51 ss i).f1 ∧ (rd_T51 ss i).f1 < n + i
theorem rdS_nat (ss : List St) (j : Nat) : rdS ss (j : Int) = ss.getD j z51 := by unfold rdS rd_T51; rw [Int.toNat_natCast]
/-! the plan of a chain -/
theorem inner_mem (xs : List Int) (k j : Int) (hj : 0 ≤ j) : ∀ (d : Nat) (i : Int), 0 ≤ i → i + d = j + 1 → ∀ s ∈ inner xs k j d i, 0 ≤ s.f0 ∧ s.f0 ≤ j ∧ s.f1 = j ∧ wrap64 (rd xs s.f0 + rd xs s.f1) = rd xs k
  | 0, _, _, _, s, h => by cases h
  | d + 1, i, h0, hd, s, h => by
    unfold inner at h
    split at h
    · rename_i c
      rcases List.mem_cons.1 h with rfl | h
      · exact ⟨h0, by show i ≤ j; omega, rfl, c⟩
      · exact inner_mem xs k j hj d (i + 1) (by omega) (by omega) s h
    · exact inner_mem xs k j hj d (i + 1) (by omega) (by omega) s h
theorem outer_mem (xs : List Int) (k : Int) : ∀ (d : Nat) (j : Int), 0 ≤ j → j + d = k → ∀ s ∈ outer xs k d j, 0 ≤ s.f0 ∧ s.f0 ≤ s.f1 ∧ s.f1 < k ∧ wrap64 (rd xs s.f0 + rd xs s.f1) = rd xs k
  | 0, _, _, _, s, h => by cases h
  | d + 1, j, h0, hd, s, h => by
    unfold outer at h
    rcases List.mem_append.1 h with h | h
    · obtain ⟨a, b, c, e⟩ := inner_mem xs k j h0 (j + 1).toNat 0 (by omega) (by omega) s h
      exact ⟨a, by omega, by omega, e⟩
    · exact outer_mem xs k d (j + 1) (by omega) (by omega) s h
theorem lastOf_mem (ss : List St) (h : ss.length ≠ 0) : lastOf ss ∈ ss := by
  unfold lastOf rdS rd_T51
  have e : ((ss.length : Int) - 1).toNat < ss.length := by omega
  generalize ((ss.length : Int) - 1).toNat = q at e ⊢
  rw [show ss.getD q z51 = ss[q] by simp [List.getD, e]]
  exact List.getElem_mem e
theorem stepsFrom_get (xs : List Int) : ∀ (d : Nat) (k : Int) (j : Nat), j < d → rdS (stepsFrom xs d k) (j : Int) = lastOf (sumsOf xs (k + j))
  | 0, _, _, h => absurd h (Nat.not_lt_zero _)
  | d + 1, k, 0, _ => by
    rw [rdS_nat, stepsFrom, show k + ((0 : Nat) : Int) = k by omega]; rfl
  | d + 1, k, j + 1, h => by
    have := stepsFrom_get xs d (k + 1) j (by omega)
    rw [rdS_nat] at this
    rw [rdS_nat, stepsFrom, show k + ((j + 1 : Nat) : Int) = k + 1 + (j : Int) by omega, ← this]
    rfl
theorem implFrom_at (xs : List Int) : ∀ (d : Nat) (k : Int), implFrom xs d k = true → ∀ j : Nat, j < d → (sumsOf xs (k + j)).length ≠ 0 ∧ rd xs (k + j) ≤ 1000000 ∧ rd xs (k + j - 1) < rd xs (k + j)
  | 0, _, _, _, h => absurd h (Nat.not_lt_zero _)
  | d + 1, k, hi, 0, _ => by
    obtain ⟨a, _, c, e⟩ := implFrom_head xs d k hi
    rw [show k + ((0 : Nat) : Int) = k by omega]
    exact ⟨a, e, c⟩
  | d + 1, k, hi, j + 1, h => by
    obtain ⟨_, b, _, _⟩ := implFrom_head xs d k hi
    have := implFrom_at xs d (k + 1) b j (by omega)
    rw [show k + ((j + 1 : Nat) : Int) = k + 1 + (j : Int) by omega]
    exact this
theorem stepOf_fact (xs : List Int) (h : chain xs = true) (j : Nat) (hj : j < xs.length - 1) : 0 ≤ (rdS (stepsOf xs) j).f0 ∧ (rdS (stepsOf xs) j).f0 ≤ (rdS (stepsOf xs) j).f1 ∧ (rdS (stepsOf xs) j).f1 < 1 + (j : Int) ∧ wrap64 (rd xs (rdS (stepsOf xs) j).f0 + rd xs (rdS (stepsOf xs) j).f1) = rd xs (1 + (j : Int)) := by
  obtain ⟨h1, h2, h3, h4⟩ := chain_from xs h
  have hs := (implFrom_at xs _ _ h4 j hj).1
  unfold stepsOf
  rw [stepsFrom_get xs _ _ j hj]
  exact outer_mem xs (1 + (j : Int)) (1 + (j : Int)).toNat 0 (by omega) (by omega) _ (lastOf_mem _ hs)
theorem chain_le (xs : List Int) (h : chain xs = true) (j : Nat) (hj : j < xs.length) : 1 ≤ rd xs j ∧ rd xs j ≤ 1000000 := by
  obtain ⟨h1, h2, h3, h4⟩ := chain_from xs h
  induction j with
  | zero => rw [show ((0 : Nat) : Int) = 0 by rfl, h3]; omega
  | succ j ih =>
    have i := ih (by omega)
    obtain ⟨_, b, c⟩ := implFrom_at xs _ _ h4 j (by omega)
    rw [show (1 : Int) + (j : Int) - 1 = (j : Int) by omega] at c
    rw [show ((j + 1 : Nat) : Int) = 1 + (j : Int) by omega]
    omega
theorem chain_order (xs : List Int) (h : chain xs = true) : InOrder 1 (stepsOf xs) := by
  intro i hi
  unfold stepsOf at hi
  rw [stepsFrom_length] at hi
  obtain ⟨a, b, c, _⟩ := stepOf_fact xs h i hi
  exact ⟨a, b, c⟩
def hasFrom (ys : List Int) (x : Int) : Nat → Int → Bool
  | 0, _ => false
  | d + 1, i => if rd ys i = x then true else hasFrom ys x d (i + 1)
/-- Is x among them? -/
def has (ys : List Int) (x : Int) : Bool := hasFrom ys x ys.length 0
theorem hasFrom_at (ys : List Int) (x : Int) : ∀ (d : Nat) (i : Int), hasFrom ys x d i = true → ∃ j, i ≤ j ∧ j < i + d ∧ rd ys j = x
  | 0, _, h => by cases h
  | d + 1, i, h => by
    unfold hasFrom at h
    split at h
    · rename_i c; exact ⟨i, by omega, by omega, c⟩
    · obtain ⟨j, h1, h2, h3⟩ := hasFrom_at ys x d (i + 1) h
      exact ⟨j, by omega, by omega, h3⟩
theorem hasFrom_mk (ys : List Int) (x : Int) : ∀ (d : Nat) (i j : Int), i ≤ j → j < i + d → rd ys j = x → hasFrom ys x d i = true
  | 0, _, _, _, _, _ => by omega
  | d + 1, i, j, h1, h2, h3 => by
    unfold hasFrom
    split
    · rfl
    · rename_i c
      by_cases e : i = j
      · subst e; exact absurd h3 c
      · exact hasFrom_mk ys x d (i + 1) j (by omega) (by omega) h3
theorem has_iff (ys : List Int) (x : Int) : has ys x = true ↔ ∃ j : Int, 0 ≤ j ∧ j < ys.length ∧ rd ys j = x := by
  constructor
  · intro h
    obtain ⟨j, h1, h2, h3⟩ := hasFrom_at ys x ys.length 0 h
    exact ⟨j, h1, by omega, h3⟩
  · rintro ⟨j, h1, h2, h3⟩
    exact hasFrom_mk ys x ys.length 0 j h1 (by omega) h3
theorem rd_take (xs : List Int) (k j : Int) (h0 : 0 ≤ j) (h1 : j < k) : rd (xs.take k.toNat) j = rd xs j := by
  unfold rd
  simp only [List.getD_eq_getElem?_getD]
  rw [List.getElem?_take_of_lt (by omega)]

theorem rd_ne (xs : List Int) (i : Nat) (h : i < xs.length) : rd xs (i : Int) = xs[i] := by rw [rd_nat]; simp [List.getD, h]
theorem has_mem (ys : List Int) (x : Int) : has ys x = decide (x ∈ ys) := by
  rw [Bool.eq_iff_iff, decide_eq_true_iff, has_iff]
  constructor
  · rintro ⟨j, h0, h1, h2⟩
    obtain ⟨j, rfl⟩ := Int.eq_ofNat_of_zero_le h0
    rw [rd_ne ys j (by omega)] at h2
    exact List.mem_iff_getElem.2 ⟨j, by omega, h2⟩
  · intro h
    obtain ⟨j, h1, h2⟩ := List.mem_iff_getElem.1 h
    exact ⟨j, by omega, by omega, by rw [rd_ne ys j h1]; exact h2⟩
theorem drop_cons (xs : List Int) (i : Nat) (h : i < xs.length) : xs.drop i = rd xs (i : Int) :: xs.drop (i + 1) := by rw [rd_ne xs i h]; exact List.drop_eq_getElem_cons h
theorem l1Has_ev (ys : List Int) (x : Int) (hl : ys.length ≤ 100000000) : Ev (fun f => spec_l1Has.f f ys x) (has ys x) := by
  have loop : ∀ (d : Nat) (i : Int), 0 ≤ i → i + d = ys.length → Ev (fun f => spec_l1Has.l0 f x ys ys.length i) (hasFrom ys x d i) := by
    intro d
    induction d with
    | zero =>
      intro i h0 hd
      refine ev_shift ?_
      simp only [spec_l1Has.l0, if_neg (show ¬ i < (ys.length : Int) by omega), hasFrom]
      exact Ev.now _
    | succ d ih =>
      intro i h0 hd
      have hn := ih (i + 1) (by omega) (by omega)
      refine ev_shift ?_
      simp only [spec_l1Has.l0, if_pos (show i < (ys.length : Int) by omega), if_pos h0, w64 (show -9223372036854775808 ≤ i + 1 by omega) (by omega)]
      unfold hasFrom
      by_cases c : rd ys i = x
      · rw [if_pos c]; simp only [if_pos c]; exact Ev.now _
      · rw [if_neg c]; simp only [if_neg c]; exact hn
  exact loop ys.length 0 (by omega) (by omega)

/-! the place of a number in a list -/
def place (xs : List Int) (x : Int) : Nat → Nat → Nat
  | 0, i => i
  | d + 1, i => if rd xs (i : Int) < x then place xs x d (i + 1) else i
def putAt (xs : List Int) (x : Int) (k : Nat) : List Int := if k < xs.length ∧ rd xs (k : Int) = x then xs else xs.take k ++ x :: xs.drop k
/-- l1Put. -/
def put (xs : List Int) (x : Int) : List Int := putAt xs x (place xs x xs.length 0)
theorem place_le (xs : List Int) (x : Int) : ∀ (d i : Nat), place xs x d i ≤ i + d
  | 0, i => Nat.le_refl _
  | d + 1, i => by
    unfold place
    split
    · have := place_le xs x d (i + 1); omega
    · omega
theorem place_low (xs : List Int) (x : Int) : ∀ (d i m : Nat), i ≤ m → m < place xs x d i → rd xs (m : Int) < x
  | 0, i, m, h1, h2 => by unfold place at h2; omega
  | d + 1, i, m, h1, h2 => by
    unfold place at h2
    split at h2
    · rename_i c
      by_cases e : i = m
      · subst e; exact c
      · exact place_low xs x d (i + 1) m (by omega) h2
    · omega
theorem place_high (xs : List Int) (x : Int) : ∀ (d i : Nat), place xs x d i < i + d → ¬ rd xs (place xs x d i : Int) < x
  | 0, i, h => by unfold place at h; omega
  | d + 1, i, h => by
    unfold place at h ⊢
    split
    · rename_i c
      rw [if_pos c] at h
      exact place_high xs x d (i + 1) (by omega)
    · assumption
theorem place_eq (xs : List Int) (x : Int) (k : Nat) (hk : k ≤ xs.length) (h1 : ∀ m : Nat, m < k → rd xs (m : Int) < x) (h2 : k < xs.length → ¬ rd xs (k : Int) < x) : place xs x xs.length 0 = k := by
  have a := place_le xs x xs.length 0
  rcases Nat.lt_trichotomy (place xs x xs.length 0) k with c | c | c
  · exact absurd (h1 _ c) (place_high xs x xs.length 0 (by omega))
  · exact c
  · exact absurd (place_low xs x xs.length 0 k (by omega) c) (h2 (by omega))
theorem l1Put_ev (xs : List Int) (x : Int) (hl : xs.length ≤ 100000000) : Ev (fun f => spec_l1Put.f f xs x) (put xs x) := by
  have loop : ∀ (d i : Nat), i + d = xs.length → Ev (fun f => spec_l1Put.l0 f xs x i) (putAt xs x (place xs x d i)) := by
    intro d
    induction d with
    | zero =>
      intro i hd
      refine ev_shift ?_
      have l1 : ([] ++ xs.take i : List Int).length ≤ 100000000 := by simp only [List.nil_append, List.length_take]; omega
      have l2 : (([] ++ xs.take i : List Int) ++ [x]).length ≤ 100000001 := by rw [List.length_append, List.length_singleton]; omega
      simp only [spec_l1Put.l0, if_neg (show ¬ (i : Int) < (xs.length : Int) by omega), Option.bind_some, if_pos (show (0 : Int) ≤ (i : Int) by omega), if_pos (show (i : Int) ≤ (xs.length : Int) by omega), Int.toNat_natCast, if_pos (show ([] : List Int).length + (xs.take i).length < 17592186044416 by rw [List.length_take]; simp only [List.length_nil]; omega), if_pos (show ([] ++ xs.take i : List Int).length < 17592186044416 by omega), if_pos (show (([] ++ xs.take i : List Int) ++ [x]).length + (xs.drop i).length < 17592186044416 by rw [List.length_drop]; omega)]
      unfold place putAt
      rw [if_neg (by omega), List.nil_append, List.append_assoc]
      exact Ev.now _
    | succ d ih =>
      intro i hd
      have ih1 := ih (i + 1) (by omega)
      unfold place
      by_cases c : rd xs (i : Int) < x
      · rw [if_pos c]
        refine ev_shift ?_
        simp only [spec_l1Put.l0, if_pos (show (i : Int) < (xs.length : Int) by omega), if_pos (show (0 : Int) ≤ (i : Int) by omega), if_pos c, w64 (show -9223372036854775808 ≤ (i : Int) + 1 by omega) (by omega)]
        exact ih1
      · rw [if_neg c]
        by_cases e : rd xs (i : Int) = x
        · refine ev_shift ?_
          simp only [spec_l1Put.l0, if_pos (show (i : Int) < (xs.length : Int) by omega), if_pos (show (0 : Int) ≤ (i : Int) by omega), if_neg c, if_pos e]
          unfold putAt
          rw [if_pos ⟨by omega, e⟩]
          exact Ev.now _
        · refine ev_shift ?_
          have l1 : ([] ++ xs.take i : List Int).length ≤ 100000000 := by simp only [List.nil_append, List.length_take]; omega
          have l2 : (([] ++ xs.take i : List Int) ++ [x]).length ≤ 100000001 := by rw [List.length_append, List.length_singleton]; omega
          simp only [spec_l1Put.l0, if_pos (show (i : Int) < (xs.length : Int) by omega), if_neg c, if_neg e, Option.bind_some, if_pos (show (0 : Int) ≤ (i : Int) by omega), if_pos (show (i : Int) ≤ (xs.length : Int) by omega), Int.toNat_natCast, if_pos (show ([] : List Int).length + (xs.take i).length < 17592186044416 by rw [List.length_take]; simp only [List.length_nil]; omega), if_pos (show ([] ++ xs.take i : List Int).length < 17592186044416 by omega), if_pos (show (([] ++ xs.take i : List Int) ++ [x]).length + (xs.drop i).length < 17592186044416 by rw [List.length_drop]; omega)]
          unfold putAt
          rw [if_neg (fun h => e h.2), List.nil_append, List.append_assoc]
          exact Ev.now _
  exact loop xs.length 0 (by omega)
theorem put_length (xs : List Int) (x : Int) : (put xs x).length ≤ xs.length + 1 := by
  unfold put putAt
  split
  · omega
  · rw [List.length_append, List.length_cons, List.length_take, List.length_drop]; omega
/-! lists that rise, and what slices.Sort and slices.Compact make of a list -/
theorem strict_eq : ∀ l1 l2 : List Int, l1.Pairwise (· < ·) → l2.Pairwise (· < ·) → (∀ x, x ∈ l1 ↔ x ∈ l2) → l1 = l2
  | [], [], _, _, _ => rfl
  | [], b :: l2, _, _, h => absurd ((h b).2 (List.mem_cons_self ..)) (by simp)
  | a :: l1, [], _, _, h => absurd ((h a).1 (List.mem_cons_self ..)) (by simp)
  | a :: l1, b :: l2, h1, h2, h => by
    obtain ⟨p1, q1⟩ := List.pairwise_cons.1 h1
    obtain ⟨p2, q2⟩ := List.pairwise_cons.1 h2
    have e : a = b := by
      rcases List.mem_cons.1 ((h a).1 (List.mem_cons_self ..)) with c | c
      · exact c
      · rcases List.mem_cons.1 ((h b).2 (List.mem_cons_self ..)) with d | d
        · exact d.symm
        · have := p1 b d; have := p2 a c; omega
    subst e
    rw [strict_eq l1 l2 q1 q2 (fun x => ?_)]
    constructor
    · intro hx
      rcases List.mem_cons.1 ((h x).1 (List.mem_cons_of_mem _ hx)) with c | c
      · have := p1 x hx; omega
      · exact c
    · intro hx
      rcases List.mem_cons.1 ((h x).2 (List.mem_cons_of_mem _ hx)) with c | c
      · have := p2 x hx; omega
      · exact c
theorem comp_fact (d : Array Int) (hs : ∀ i j, i ≤ j → j < d.size → d[i]! ≤ d[j]!) : ∀ m, m ≤ d.size → (Go.Lib.compactUpTo d m).Pairwise (· < ·) ∧ (∀ x, x ∈ Go.Lib.compactUpTo d m ↔ ∃ j, j < m ∧ d[j]! = x)
  | 0, _ => ⟨by simp [Go.Lib.compactUpTo], fun x => by simp [Go.Lib.compactUpTo]⟩
  | m + 1, hm => by
    obtain ⟨h1, h2⟩ := comp_fact d hs m (by omega)
    rw [Go.Lib.compactUpTo_succ]
    by_cases c : Go.Lib.keeps d m = true
    · rw [if_pos c]
      refine ⟨List.pairwise_append.2 ⟨h1, by simp, fun x hx y hy => ?_⟩, fun x => ?_⟩
      · rw [List.mem_singleton.1 hy]
        obtain ⟨j, hj, rfl⟩ := (h2 x).1 hx
        have a1 := hs j (m - 1) (by omega) (by omega)
        have a2 := hs (m - 1) m (by omega) (by omega)
        have a3 : d[m]! ≠ d[m - 1]! := by
          unfold Go.Lib.keeps at c
          rcases of_decide_eq_true c with q | q
          · omega
          · exact q
        omega
      · rw [List.mem_append, h2, List.mem_singleton]
        constructor
        · rintro (⟨j, hj, e⟩ | e)
          · exact ⟨j, by omega, e⟩
          · exact ⟨m, by omega, e.symm⟩
        · rintro ⟨j, hj, e⟩
          by_cases q : j = m
          · subst q; exact .inr e.symm
          · exact .inl ⟨j, by omega, e⟩
    · rw [if_neg c, List.append_nil]
      refine ⟨h1, fun x => ?_⟩
      rw [h2]
      constructor
      · rintro ⟨j, hj, e⟩; exact ⟨j, by omega, e⟩
      · rintro ⟨j, hj, e⟩
        by_cases q : j = m
        · subst q
          have hj0 : j ≠ 0 := fun h => c (by unfold Go.Lib.keeps; exact decide_eq_true (.inl h))
          have he : d[j]! = d[j - 1]! := by
            by_cases r : d[j]! = d[j - 1]!
            · exact r
            · exact absurd (Go.Lib.keeps_pos r) c
          exact ⟨j - 1, by omega, by rw [← he]; exact e⟩
        · exact ⟨j, by omega, e⟩
theorem inc_fact (l : List Int) : (Go.Lib.compact (l.mergeSort fun x y => decide (x ≤ y))).Pairwise (· < ·) ∧ ∀ x, x ∈ Go.Lib.compact (l.mergeSort fun x y => decide (x ≤ y)) ↔ x ∈ l := by
  have hp : (l.mergeSort fun x y => decide (x ≤ y)).Pairwise (fun a b => decide (a ≤ b) = true) := List.pairwise_mergeSort (le := fun x y : Int => decide (x ≤ y)) (fun a b c h1 h2 => decide_eq_true (Int.le_trans (of_decide_eq_true h1) (of_decide_eq_true h2))) (fun a b => by rcases Int.le_total a b with h | h <;> simp [h]) l
  have hm : ∀ x, x ∈ (l.mergeSort fun x y => decide (x ≤ y)) ↔ x ∈ l := fun x => List.mem_mergeSort
  generalize (l.mergeSort fun x y => decide (x ≤ y)) = z at hp hm ⊢
  have hs : ∀ i j, i ≤ j → j < z.toArray.size → z.toArray[i]! ≤ z.toArray[j]! := fun i j hij hj => by
    have hj' : j < z.length := by simpa using hj
    rw [getElem!_pos _ i (by simp; omega), getElem!_pos _ j hj]
    simp only [List.getElem_toArray]
    by_cases e : i = j
    · subst e; exact Int.le_refl _
    · exact of_decide_eq_true (List.pairwise_iff_getElem.1 hp i j (by omega) hj' (by omega))
  obtain ⟨a, b⟩ := comp_fact z.toArray hs z.length (by simp)
  refine ⟨a, fun x => ?_⟩
  rw [show Go.Lib.compact z = Go.Lib.compactUpTo z.toArray z.length from rfl, b, ← hm]
  constructor
  · rintro ⟨j, hj, e⟩
    rw [getElem!_pos _ j (by simpa using hj)] at e
    exact List.mem_iff_getElem.2 ⟨j, hj, by simpa using e⟩
  · intro h
    obtain ⟨j, hj, e⟩ := List.mem_iff_getElem.1 h
    exact ⟨j, hj, by rw [getElem!_pos _ j (by simpa using hj)]; simpa using e⟩
theorem put_fact (xs : List Int) (n : Int) (h : xs.Pairwise (· < ·)) : (put xs n).Pairwise (· < ·) ∧ ∀ x, x ∈ put xs n ↔ x ∈ xs ∨ x = n := by
  unfold put putAt
  obtain ⟨k, hk⟩ : ∃ k, place xs n xs.length 0 = k := ⟨_, rfl⟩
  have k0 := place_le xs n xs.length 0
  have k1 : ∀ m : Nat, m < k → rd xs (m : Int) < n := fun m hm => place_low xs n xs.length 0 m (Nat.zero_le _) (by omega)
  have k2 : k < xs.length → ¬ rd xs (k : Int) < n := fun hl => by have := place_high xs n xs.length 0 (by omega); rwa [hk] at this
  rw [hk] at k0 ⊢
  have ht : ∀ a ∈ xs.take k, a < n := fun a ha => by
    obtain ⟨j, hj, rfl⟩ := List.mem_iff_getElem.1 ha
    rw [List.length_take] at hj
    rw [List.getElem_take, ← rd_ne xs j (by omega)]
    exact k1 j (by omega)
  split
  · rename_i c
    refine ⟨h, fun x => ⟨.inl, fun q => q.elim id (fun e => ?_)⟩⟩
    rw [e, ← c.2, rd_ne xs k c.1]
    exact List.getElem_mem _
  · rename_i c
    have hd : ∀ b ∈ xs.drop k, n < b := fun b hb => by
      obtain ⟨j, hj, rfl⟩ := List.mem_iff_getElem.1 hb
      rw [List.length_drop] at hj
      rw [List.getElem_drop]
      have a1 := k2 (by omega)
      rw [rd_ne xs k (by omega)] at a1
      have a2 : ¬ xs[k]'(by omega) = n := fun e => c ⟨by omega, by rw [rd_ne xs k (by omega)]; exact e⟩
      by_cases e : j = 0
      · subst e; simp only [Nat.add_zero]; omega
      · have := List.pairwise_iff_getElem.1 h k (k + j) (by omega) (by omega) (by omega)
        omega
    have hsp := List.take_append_drop k xs
    refine ⟨List.pairwise_append.2 ⟨h.sublist (List.take_sublist ..), List.pairwise_cons.2 ⟨hd, h.sublist (List.drop_sublist ..)⟩, fun a ha b hb => ?_⟩, fun x => ?_⟩
    · rcases List.mem_cons.1 hb with e | e
      · rw [e]; exact ht a ha
      · have := ht a ha; have := hd b e; omega
    · have hm : x ∈ xs ↔ x ∈ xs.take k ∨ x ∈ xs.drop k := by rw [← List.mem_append, hsp]
      rw [List.mem_append, List.mem_cons, hm]
      constructor
      · rintro (q | q | q)
        · exact .inl (.inl q)
        · exact .inr q
        · exact .inl (.inr q)
      · rintro ((q | q) | q)
        · exact .inl q
        · exact .inr (.inr q)
        · exact .inr (.inl q)
theorem puts_fact : ∀ (ys xs : List Int), xs.Pairwise (· < ·) → (ys.foldl put xs).Pairwise (· < ·) ∧ ∀ x, x ∈ ys.foldl put xs ↔ x ∈ xs ∨ x ∈ ys
  | [], xs, h => ⟨h, fun x => by simp⟩
  | y :: ys, xs, h => by
    obtain ⟨a, b⟩ := put_fact xs y h
    obtain ⟨c, d⟩ := puts_fact ys (put xs y) a
    refine ⟨c, fun x => ?_⟩
    rw [List.foldl_cons, d, b, List.mem_cons]
    constructor
    · rintro ((q | q) | q)
      · exact .inl q
      · exact .inr (.inl q)
      · exact .inr (.inr q)
    · rintro (q | q | q)
      · exact .inl (.inl q)
      · exact .inl (.inr q)
      · exact .inr q
theorem puts_length : ∀ (ys xs : List Int), (ys.foldl put xs).length ≤ xs.length + ys.length
  | [], _ => Nat.le_refl _
  | y :: ys, xs => by
    have := puts_length ys (put xs y)
    have := put_length xs y
    rw [List.foldl_cons, List.length_cons]
    omega
/-- A list that is too long: the law answers true at once. -/
theorem over_ (xs : List Int) (hl : ¬ xs.length ≤ 1048576) : Ev (fun k => laws_FnExactNeededPart.f k xs) true := by
  have big : (xs.length : Int) > 1048576 := by omega
  unfold laws_FnExactNeededPart.f
  simp only [if_pos big]
  exact Ev.now _

/-- The law's tail where the argument is a slice: both sides answer (w, b): the law holds. -/
theorem tail_ (xs : List Int) (hl : xs.length ≤ 1048576) (w : List Int) (b : Bool) (hw : w.length ≤ 1000000) (hs : Ev (fun k => spec_NeededPart.f k xs) (w, b)) (hi : Ev (fun k => impl_NeededPart.f k xs) (w, b)) : Ev (fun k => laws_FnExactNeededPart.f k xs) true := by
  have ht := toIntS_ev xs (by omega)
  have hm := markIntS_ev w 1 (by omega) (by omega)
  have hmx := markIntS_ev xs 1 (by omega) (by omega)
  have hh := heldIntS_ev w.length 1 (by omega) (by omega)
  have he := eqIntS_same w (by omega)
  have hex := eqIntS_same xs (by omega)
  have e0 : (b != b) = false := by cases b <;> rfl
  have n0 : ¬ (1 + (w.length : Int) < 0) := by omega
  have nx : ¬ (1 + (xs.length : Int) < 0) := by omega
  have j2 : Ev (fun k => laws_FnExactNeededPart.j2 k (marked w.length 1) (1 + w.length) false) true := by
    refine ev_shift ?_
    simp only [laws_FnExactNeededPart.j2, Bool.false_eq_true, if_false]
    refine ev_bind hh ?_
    simp only [if_neg n0, if_true]
    exact Ev.now _
  have j1 : Ev (fun k => laws_FnExactNeededPart.j1 k xs w b w false) true := by
    refine ev_shift ?_
    simp only [laws_FnExactNeededPart.j1, Bool.false_eq_true, if_false]
    refine ev_bind hm ?_
    refine ev_bind hh ?_
    simp only [if_neg n0, if_true]
    refine ev_bind ht ?_
    refine ev_bind hi ?_
    refine ev_bind he ?_
    simp only [if_true, e0]
    exact j2
  have j0 : Ev (fun k => laws_FnExactNeededPart.j0 k xs w b xs w b false) true := by
    refine ev_shift ?_
    simp only [laws_FnExactNeededPart.j0, Bool.false_eq_true, if_false]
    refine ev_bind ht ?_
    refine ev_bind hex ?_
    simp only [if_true]
    refine ev_bind hmx ?_
    simp only [if_neg nx]
    refine ev_bind he ?_
    simp only [if_true, e0]
    exact j1
  have big : ¬ ((xs.length : Int) > 1048576) := by omega
  unfold laws_FnExactNeededPart.f
  simp only [if_neg big]
  refine ev_bind ht ?_
  refine ev_bind hs ?_
  refine ev_bind ht ?_
  refine ev_bind hi ?_
  refine ev_bind he ?_
  simp only [if_true, e0]
  exact j0

abbrev nstep := impl_NeededPart.step
/-- The marks after j steps from the end. -/
def marksAt (xs : List Int) (j : Nat) : List Bool := (Go.Proofs.YtailgfeffoimaaaB.down (stepsOf xs).length j).foldl (nstep (stepsOf xs)) (impl_NeededPart.start xs.length)
theorem marksAt_succ (xs : List Int) (j : Nat) : marksAt xs (j + 1) = nstep (stepsOf xs) (marksAt xs j) ((stepsOf xs).length - 1 - j) := by
  unfold marksAt
  rw [Go.Proofs.YtailgfeffoimaaaB.down_succ, List.foldl_append]
  rfl
def Inv (n : Nat) (nd : List Int) (m : List Bool) : Prop := nd.Pairwise (· < ·) ∧ m.length = n ∧ ∀ x : Int, x ∈ nd ↔ (0 ≤ x ∧ x < n) ∧ rdOf false m x = true
theorem rdOf_set (m : List Bool) (a x : Int) (h0 : 0 ≤ a) (h1 : a < m.length) (hx : 0 ≤ x) : rdOf false (m.set a.toNat true) x = true ↔ rdOf false m x = true ∨ x = a := by
  unfold rdOf
  simp only [List.getD_eq_getElem?_getD, List.getElem?_set]
  by_cases e : a.toNat = x.toNat
  · have : x = a := by omega
    rw [if_pos e, if_pos (by omega)]
    simp [this]
  · rw [if_neg e]
    constructor
    · exact .inl
    · rintro (h | h)
      · exact h
      · exact absurd (by rw [h]) e
theorem Inv.put {n : Nat} {nd : List Int} {m : List Bool} (h : Inv n nd m) (a : Int) (h0 : 0 ≤ a) (h1 : a < n) : Inv n (put nd a) (m.set a.toNat true) := by
  obtain ⟨p, l, q⟩ := h
  obtain ⟨a1, a2⟩ := put_fact nd a p
  refine ⟨a1, by rw [List.length_set]; exact l, fun x => ?_⟩
  rw [a2, q]
  constructor
  · rintro (⟨hx, hr⟩ | e)
    · exact ⟨hx, (rdOf_set m a x h0 (by omega) hx.1).2 (.inl hr)⟩
    · subst e
      exact ⟨⟨h0, h1⟩, (rdOf_set m x x h0 (by omega) h0).2 (.inr rfl)⟩
  · rintro ⟨hx, hr⟩
    rcases (rdOf_set m a x h0 (by omega) hx.1).1 hr with e | e
    · exact .inl ⟨hx, e⟩
    · exact .inr e
theorem Inv.start (n : Nat) (hn : 1 ≤ n) : Inv n [((n - 1 : Nat) : Int)] (impl_NeededPart.start n) := by
  refine ⟨by simp, impl_NeededPart.start_length n, fun x => ?_⟩
  have hr : ∀ y : Int, 0 ≤ y → (rdOf false (List.replicate n false) y = true ↔ False) := fun y hy => by
    unfold rdOf
    simp only [List.getD_eq_getElem?_getD, List.getElem?_replicate]
    split <;> simp
  have hs : ∀ y : Int, 0 ≤ y → (rdOf false (impl_NeededPart.start n) y = true ↔ y = ((n - 1 : Nat) : Int)) := fun y hy => by
    have := rdOf_set (List.replicate n false) ((n - 1 : Nat) : Int) y (by omega) (by rw [List.length_replicate]; omega) hy
    rw [Int.toNat_natCast, hr y hy] at this
    unfold impl_NeededPart.start
    rw [this]
    simp
  rw [List.mem_singleton]
  constructor
  · intro e
    subst e
    exact ⟨⟨by omega, by omega⟩, (hs _ (by omega)).2 rfl⟩
  · rintro ⟨hx, h⟩
    exact (hs x hx.1).1 h
theorem upto_eq (xs nd : List Int) (m : List Bool) (h : Inv xs.length nd m) : impl_NeededPart.upto xs m xs.length = nd.map (fun x => rd xs x) := by
  obtain ⟨p, l, q⟩ := h
  have e : nd = ((List.range xs.length).filter fun (i : Nat) => rdOf false m (i : Int)).map (fun i : Nat => (i : Int)) := by
    refine strict_eq _ _ p ?_ (fun x => ?_)
    · rw [List.pairwise_map]
      exact (List.pairwise_lt_range.sublist List.filter_sublist).imp (fun h => by omega)
    · rw [q, List.mem_map]
      constructor
      · rintro ⟨⟨h0, h1⟩, hr⟩
        obtain ⟨x, rfl⟩ := Int.eq_ofNat_of_zero_le h0
        exact ⟨x, List.mem_filter.2 ⟨List.mem_range.2 (by omega), hr⟩, rfl⟩
      · rintro ⟨i, hi, rfl⟩
        obtain ⟨hi1, hi2⟩ := List.mem_filter.1 hi
        have := List.mem_range.1 hi1
        exact ⟨⟨by omega, by omega⟩, hi2⟩
  rw [e, List.map_map]
  unfold impl_NeededPart.upto
  generalize List.range xs.length = r
  induction r with
  | nil => rfl
  | cons i r ih =>
    rw [List.flatMap_cons, ih, List.filter_cons]
    cases hb : rdOf false m (i : Int) <;> simp
def answer (xs : List Int) : List Int × Bool := if chain xs = true then (impl_NeededPart.upto xs (marksAt xs (stepsOf xs).length) xs.length, true) else ([], false)
theorem answer_short (xs : List Int) : (answer xs).1.length ≤ 1000000 := by
  unfold answer
  by_cases c : chain xs = true
  · rw [if_pos c]
    have := (chain_from xs c).2.1
    exact Nat.le_trans (impl_NeededPart.upto_length xs _ _) (by omega)
  · rw [if_neg c]; simp
theorem out_loop (xs nd : List Int) (hn : ∀ x ∈ nd, 0 ≤ x ∧ x < xs.length) (hl : nd.length ≤ 100000) : ∀ (d i : Nat) (acc : List Int), i + d = nd.length → acc.length + d ≤ 100000 → Ev (fun f => spec_NeededPart.l1 f xs acc nd nd.length i) (acc ++ (nd.drop i).map (fun x => rd xs x), true) := by
  intro d
  induction d with
  | zero =>
    intro i acc hd ha
    refine ev_shift ?_
    rw [List.drop_of_length_le (by omega)]
    simp only [spec_NeededPart.l1, if_neg (show ¬ (i : Int) < (nd.length : Int) by omega), List.map_nil, List.append_nil]
    exact Ev.now _
  | succ d ih =>
    intro i acc hd ha
    have i1 := ih (i + 1) (acc ++ [rd xs (rd nd (i : Int))]) (by omega) (by rw [List.length_append, List.length_singleton]; omega)
    have hm := hn (rd nd (i : Int)) (by rw [rd_ne nd i (by omega)]; exact List.getElem_mem _)
    refine ev_shift ?_
    simp only [spec_NeededPart.l1, if_pos (show (i : Int) < (nd.length : Int) by omega), if_pos (show (0 : Int) ≤ (i : Int) by omega), if_pos hm.1, if_pos hm.2, if_pos (show acc.length < 17592186044416 by omega), w64 (show -9223372036854775808 ≤ (i : Int) + 1 by omega) (by omega)]
    rw [drop_cons nd i (by omega), List.map_cons]
    rw [List.append_assoc, List.singleton_append] at i1
    exact i1
theorem need_loop (xs : List Int) (c : chain xs = true) (hL : (stepsOf xs).length = xs.length - 1) (h1 : 1 ≤ xs.length) (h41 : xs.length ≤ 41) : ∀ (d : Nat) (nd : List Int), d ≤ xs.length - 1 → nd.length + 2 * d ≤ 1000 → Inv xs.length nd (marksAt xs (xs.length - 1 - d)) → Ev (fun f => spec_NeededPart.l0 f xs (stepsOf xs) nd d) (impl_NeededPart.upto xs (marksAt xs (xs.length - 1)) xs.length, true) := by
  intro d
  induction d with
  | zero =>
    intro nd hd ha hi
    refine ev_shift ?_
    simp only [spec_NeededPart.l0, if_neg (show ¬ ((0 : Nat) : Int) > 0 by omega)]
    rw [Nat.sub_zero] at hi
    rw [upto_eq xs nd _ hi]
    have := out_loop xs nd (fun x hx => ((hi.2.2 x).1 hx).1) (by omega) nd.length 0 [] (by omega) (by simp; omega)
    rw [List.drop_zero, List.nil_append] at this
    exact this
  | succ d ih =>
    intro nd hd ha hi
    have hw : wrap64 (((d + 1 : Nat) : Int) - 1) = (d : Int) := by rw [show ((d + 1 : Nat) : Int) - 1 = (d : Int) by omega]; exact w64 (by omega) (by omega)
    have hms := marksAt_succ xs (xs.length - 1 - (d + 1))
    rw [show xs.length - 1 - (d + 1) + 1 = xs.length - 1 - d by omega, hL, show xs.length - 1 - 1 - (xs.length - 1 - (d + 1)) = d by omega] at hms
    obtain ⟨f0, f1, f2, _⟩ := stepOf_fact xs c d (by omega)
    have g0 : (rdS (stepsOf xs) (d : Int)).f0 < (xs.length : Int) := by omega
    have g1 : 0 ≤ (rdS (stepsOf xs) (d : Int)).f1 := by omega
    have g2 : (rdS (stepsOf xs) (d : Int)).f1 < (xs.length : Int) := by omega
    have hmem := hi.2.2 ((d + 1 : Nat) : Int)
    have hlen := hi.2.1
    refine ev_shift ?_
    simp only [spec_NeededPart.l0, if_pos (show ((d + 1 : Nat) : Int) > 0 by omega), hw, if_pos (show (0 : Int) ≤ (d : Int) by omega), if_pos (show (d : Int) < ((stepsOf xs).length : Int) by omega)]
    refine ev_bind (l1Has_ev nd ((d + 1 : Nat) : Int) (by omega)) ?_
    rw [has_mem]
    by_cases q : ((d + 1 : Nat) : Int) ∈ nd
    · simp only [decide_eq_true q, if_true]
      refine ev_bind (l1Put_ev nd _ (by omega)) ?_
      refine ev_bind (l1Put_ev _ _ (by have := put_length nd (rdS (stepsOf xs) (d : Int)).f0; show (put nd (rdS (stepsOf xs) (d : Int)).f0).length ≤ 100000000; omega)) ?_
      refine ih _ (by omega) (by have a1 := put_length nd (rdS (stepsOf xs) (d : Int)).f0; have a2 := put_length (put nd (rdS (stepsOf xs) (d : Int)).f0) (rdS (stepsOf xs) (d : Int)).f1; show (put (put nd (rdS (stepsOf xs) (d : Int)).f0) (rdS (stepsOf xs) (d : Int)).f1).length + 2 * d ≤ 1000; omega) ?_
      rw [hms]
      unfold nstep impl_NeededPart.step
      rw [if_pos (show rdOf false (marksAt xs (xs.length - 1 - (d + 1))) ((d : Int) + 1) = true from (hmem.1 q).2)]
      exact (hi.put _ f0 g0).put _ g1 g2
    · simp only [decide_eq_false q, Bool.false_eq_true, if_false]
      refine ih nd (by omega) (by omega) ?_
      rw [hms]
      unfold nstep impl_NeededPart.step
      rw [if_neg (show ¬ rdOf false (marksAt xs (xs.length - 1 - (d + 1))) ((d : Int) + 1) = true from fun h => q (hmem.2 ⟨⟨by omega, by omega⟩, h⟩))]
      exact hi
theorem spec_ev (xs : List Int) (hl : xs.length ≤ 1048576) : Ev (fun f => spec_NeededPart.f f xs) (answer xs) := by
  unfold spec_NeededPart.f answer
  refine ev_bind (chGood_ev xs hl) ?_
  by_cases c : chain xs = true
  · obtain ⟨h1, h41, _, _⟩ := chain_from xs c
    have hL : (stepsOf xs).length = xs.length - 1 := by unfold stepsOf; rw [stepsFrom_length]
    have w1 : wrap64 ((xs.length : Int) - 1) = ((xs.length - 1 : Nat) : Int) := by rw [w64 (by omega) (by omega)]; omega
    simp only [c, if_true, w1]
    refine ev_bind (chSteps_ev xs c) ?_
    rw [hL]
    refine need_loop xs c hL h1 h41 (xs.length - 1) _ (Nat.le_refl _) (by simp; omega) ?_
    rw [Nat.sub_self]
    exact Inv.start xs.length h1
  · simp only [if_neg c]
    exact Ev.now _
theorem impl_ev (xs : List Int) (hl : xs.length ≤ 1048576) : Ev (fun f => impl_NeededPart.f f xs) (answer xs) := by
  unfold impl_NeededPart.f answer
  refine ev_bind (isChain_ev xs hl) ?_
  by_cases c : chain xs = true
  · obtain ⟨h1, h41, _, _⟩ := chain_from xs c
    have hL : (stepsOf xs).length = xs.length - 1 := by unfold stepsOf; rw [stepsFrom_length]
    simp only [c, if_true]
    refine ev_bind (chainSteps_ev xs c) ?_
    have hok : impl_NeededPart.ok xs (stepsOf xs) = true := by
      unfold impl_NeededPart.ok
      simp only [Bool.and_eq_true, decide_eq_true_eq, List.all_eq_true]
      refine ⟨⟨⟨h1, by omega⟩, by omega⟩, fun s hs => ?_⟩
      obtain ⟨j, hj, rfl⟩ := List.mem_iff_getElem.1 hs
      obtain ⟨f0, f1, f2, _⟩ := stepOf_fact xs c j (by omega)
      have e : rdS (stepsOf xs) (j : Int) = (stepsOf xs)[j] := by rw [rdS_nat]; simp [List.getD, hj]
      rw [e] at f0 f1 f2
      exact ⟨⟨⟨f0, by omega⟩, by omega⟩, by omega⟩
    simp only [hok, if_true]
    exact Ev.now _
  · simp only [if_neg c]
    exact Ev.now _

theorem FnExactNeededPart : laws_FnExactNeededPart.Pure := by
  intro xs _ _ _
  by_cases hl : xs.length ≤ 1048576
  · exact (tail_ xs hl (answer xs).1 (answer xs).2 (answer_short xs) (spec_ev xs hl) (impl_ev xs hl)).rounds
  · exact (over_ xs hl).rounds

end Go.Proofs.Ytailgfeffoimaaa.Pure
