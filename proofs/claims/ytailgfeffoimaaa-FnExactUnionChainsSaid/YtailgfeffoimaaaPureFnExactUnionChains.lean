/- For every two lists: UnionChains of the program answers as the reference does, and shares no memory. -/
import Derived.Test.YtailgfeffoimaaaMFnExactUnionChainsx6
namespace Go.Proofs.Ytailgfeffoimaaa.Pure
open Go.RowKit Go.Proofs.Ytailgfeffoimaaa.MFnExactUnionChains Go.Proofs.YtailgfeffoimaaaW.PrintWords Go.Proofs.YtailgfeffoimaaaW.PrintLast Go.Proofs.YtailgfeffoimaaaW.PrintMore
set_option linter.unusedSimpArgs false

theorem w64 {x : Int} (h1 : -9223372036854775808 ≤ x) (h2 : x ≤ 9223372036854775807) : wrap64 x = x := by unfold wrap64; omega

theorem rd_nat (xs : List Int) (j : Nat) : rd xs (j : Int) = xs.getD j 0 := by unfold rd; rw [Int.toNat_natCast]

theorem ev_shift {α : Type} {g : Nat → Option α} {r : α} (h : Ev (fun k => g (k + 1)) r) : Ev g r := by
  obtain ⟨K, hK⟩ := h
  refine ⟨K + 1, fun k hk => ?_⟩
  obtain ⟨m, rfl⟩ : ∃ m, k = m + 1 := ⟨k - 1, by omega⟩
  exact hK m (by omega)

theorem ev_bind {α β : Type} {g : Nat → Option α} {F : Nat → α → Option β} {a : α} {r : β} (h : Ev g a) (k : Ev (fun n => F n a) r) : Ev (fun n => (g n).bind (fun x => F n x)) r := Ev.bind h k

theorem ev_some {α : Type} {g : Nat → Option α} {r : α} (h : ∀ k, g k = some r) : Ev g r := ⟨0, fun k _ => h k⟩

theorem eqIntS_same (xs : List Int) (hb : xs.length ≤ 4611686018427387904) : Ev (fun k => laws_eqIntS.f k xs xs) true := by
  have loop : ∀ (d k : Nat) (i : Int), 0 ≤ i → i ≤ xs.length → (xs.length : Int) - i = d → d < k → laws_eqIntS.l0 k xs xs i = some true := by
    intro d
    induction d with
    | zero =>
      intro k i h0 h1 hd hk
      obtain ⟨k, rfl⟩ : ∃ m, k = m + 1 := ⟨k - 1, by omega⟩
      rw [laws_eqIntS.l0, if_neg (by omega)]
    | succ d ih =>
      intro k i h0 h1 hd hk
      obtain ⟨k, rfl⟩ : ∃ m, k = m + 1 := ⟨k - 1, by omega⟩
      rw [laws_eqIntS.l0, if_pos (by omega), if_pos h0, if_pos (by omega), if_pos rfl, w64 (by omega) (by omega)]
      exact ih k (i + 1) (by omega) (by omega) (by omega) (by omega)
  refine ⟨xs.length + 1, fun k hk => ?_⟩
  show laws_eqIntS.f k xs xs = some true
  unfold laws_eqIntS.f
  rw [if_pos rfl]
  exact loop xs.length k 0 (by omega) (by omega) (by omega) (by omega)

def marked (n : Nat) (a : Int) : List Int := (List.range n).map (fun j : Nat => a + (j : Int))
theorem marked_length (n : Nat) (a : Int) : (marked n a).length = n := by simp [marked]
theorem marked_succ (n : Nat) (a : Int) : marked (n + 1) a = marked n a ++ [a + n] := by simp [marked, List.range_succ]
theorem marked_get (n : Nat) (a : Int) (j : Nat) (h : j < n) : (marked n a).getD j 0 = a + j := by simp [marked, List.getD, h]

theorem marked_step (xs : List Int) (a : Int) (i : Nat) (h : i < xs.length) : (marked i a ++ xs.drop i).set i (a + i) = marked (i + 1) a ++ xs.drop (i + 1) := by
  rw [List.set_append_right _ _ (by rw [marked_length]; exact Nat.le_refl _), marked_length, Nat.sub_self, List.drop_eq_getElem_cons h, List.set_cons_zero, marked_succ]
  simp

theorem markIntS_ev (xs : List Int) (a : Int) (h0 : 0 ≤ a) (ha : a + xs.length ≤ 4611686018427387904) : Ev (fun k => laws_markIntS.f k xs a) (a + xs.length, marked xs.length a) := by
  have loop : ∀ (d k i : Nat), i ≤ xs.length → xs.length - i = d → d < k → laws_markIntS.l0 k (marked i a ++ xs.drop i) (a + i) i = some (a + xs.length, marked xs.length a) := by
    intro d
    induction d with
    | zero =>
      intro k i h1 hd hk
      obtain ⟨k, rfl⟩ : ∃ m, k = m + 1 := ⟨k - 1, by omega⟩
      obtain rfl : i = xs.length := by omega
      have hl : (marked xs.length a ++ xs.drop xs.length).length = xs.length := by simp [marked_length]
      rw [laws_markIntS.l0, hl, if_neg (by omega)]
      simp
    | succ d ih =>
      intro k i h1 hd hk
      obtain ⟨k, rfl⟩ : ∃ m, k = m + 1 := ⟨k - 1, by omega⟩
      have hl : (marked i a ++ xs.drop i).length = xs.length := by simp [marked_length]; omega
      rw [laws_markIntS.l0, hl, if_pos (by omega), if_pos (by omega), Int.toNat_natCast, marked_step xs a i (by omega), w64 (by omega) (by omega), w64 (by omega) (by omega)]
      have e : a + (i : Int) + 1 = a + ((i + 1 : Nat) : Int) := by omega
      rw [e]
      exact ih k (i + 1) (by omega) (by omega) (by omega)
  refine ⟨xs.length + 1, fun k hk => ?_⟩
  have h := loop xs.length k 0 (by omega) (by omega) (by omega)
  simpa [marked, laws_markIntS.f] using h

theorem heldIntS_ev (n : Nat) (a : Int) (h0 : 0 ≤ a) (ha : a + n ≤ 4611686018427387904) : Ev (fun k => laws_heldIntS.f k (marked n a) a) (a + n) := by
  have loop : ∀ (d k i : Nat), i ≤ n → n - i = d → d < k → laws_heldIntS.l0 k (marked n a) (a + i) i = some (a + n) := by
    intro d
    induction d with
    | zero =>
      intro k i h1 hd hk
      obtain ⟨k, rfl⟩ : ∃ m, k = m + 1 := ⟨k - 1, by omega⟩
      obtain rfl : i = n := by omega
      rw [laws_heldIntS.l0, marked_length, if_neg (by omega)]
    | succ d ih =>
      intro k i h1 hd hk
      obtain ⟨k, rfl⟩ : ∃ m, k = m + 1 := ⟨k - 1, by omega⟩
      rw [laws_heldIntS.l0, marked_length, if_pos (by omega), if_pos (by omega), rd_nat, marked_get n a i (by omega), if_pos rfl, w64 (by omega) (by omega), w64 (by omega) (by omega)]
      have e : a + (i : Int) + 1 = a + ((i + 1 : Nat) : Int) := by omega
      rw [e]
      exact ih k (i + 1) (by omega) (by omega) (by omega)
  refine ⟨n + 1, fun k hk => ?_⟩
  have h := loop n k 0 (by omega) (by omega) (by omega)
  simpa [laws_heldIntS.f] using h

theorem toIntS_step (xs : List Int) (i : Nat) (h : i < xs.length) : (xs.take i ++ List.replicate (xs.length - i) 0).set i (xs.getD i 0) = xs.take (i + 1) ++ List.replicate (xs.length - (i + 1)) 0 := by
  have hl : (xs.take i).length = i := by simp; omega
  rw [List.set_append_right _ _ (by omega), hl, Nat.sub_self]
  obtain ⟨m, hm⟩ : ∃ m, xs.length - i = m + 1 := ⟨xs.length - i - 1, by omega⟩
  have hm2 : xs.length - (i + 1) = m := by omega
  have e : xs.getD i 0 = xs[i] := by simp [List.getD, h]
  rw [hm, hm2, List.replicate_succ, List.set_cons_zero, e, List.take_succ_eq_append_getElem h, List.append_assoc]
  rfl

theorem toIntS_ev (xs : List Int) (hb : xs.length ≤ 35184372088832) : Ev (fun k => laws_toIntS.f k xs) xs := by
  have loop : ∀ (d k i : Nat), i ≤ xs.length → xs.length - i = d → d < k → laws_toIntS.l0 k xs (xs.take i ++ List.replicate (xs.length - i) 0) i = some xs := by
    intro d
    induction d with
    | zero =>
      intro k i h1 hd hk
      obtain ⟨k, rfl⟩ : ∃ m, k = m + 1 := ⟨k - 1, by omega⟩
      obtain rfl : i = xs.length := by omega
      rw [laws_toIntS.l0, if_neg (by omega)]
      simp
    | succ d ih =>
      intro k i h1 hd hk
      obtain ⟨k, rfl⟩ : ∃ m, k = m + 1 := ⟨k - 1, by omega⟩
      have hl : (xs.take i ++ List.replicate (xs.length - i) 0).length = xs.length := by simp; omega
      rw [laws_toIntS.l0, if_pos (by omega), if_pos (by omega), hl, if_pos (by omega), Int.toNat_natCast, rd_nat, toIntS_step xs i (by omega), w64 (by omega) (by omega)]
      exact ih k (i + 1) (by omega) (by omega) (by omega)
  refine ⟨xs.length + 1, fun k hk => ?_⟩
  have h := loop xs.length k 0 (by omega) (by omega) (by omega)
  show laws_toIntS.f k xs = some xs
  unfold laws_toIntS.f
  rw [if_pos (by omega), Int.toNat_natCast, if_pos hb]
  simpa using h

abbrev St := S51
def inner (xs : List Int) (k j : Int) : Nat → Int → List St
  | 0, _ => []
  | d + 1, i => if wrap64 (rd xs i + rd xs j) = rd xs k then ⟨i, j⟩ :: inner xs k j d (i + 1) else inner xs k j d (i + 1)
def outer (xs : List Int) (k : Int) : Nat → Int → List St
  | 0, _ => []
  | d + 1, j => inner xs k j (j + 1).toNat 0 ++ outer xs k d (j + 1)
def sumsOf (xs : List Int) (k : Int) : List St := outer xs k k.toNat 0

theorem inner_length (xs : List Int) (k j : Int) : ∀ (d : Nat) (i : Int), (inner xs k j d i).length ≤ d
  | 0, _ => Nat.le_refl _
  | d + 1, i => by
    have := inner_length xs k j d (i + 1)
    unfold inner
    split
    · simp only [List.length_cons]; omega
    · omega

theorem spec_inner (xs : List Int) (k j : Int) (r : List St) (hj : 0 ≤ j) (hjk : j < k) (hk : k < xs.length) (hl : xs.length ≤ 100000) : ∀ (d : Nat) (i : Int) (acc : List St), 0 ≤ i → i + d = j + 1 → acc.length + d ≤ 8000000000000 →
    Ev (fun f => spec_chPairs.l0 f xs k (acc ++ inner xs k j d i) (j + 1)) r → Ev (fun f => spec_chPairs.l1 f xs k acc j i) r := by
  intro d
  induction d with
  | zero =>
    intro i acc hi hd _ h
    refine ev_shift ?_
    simp only [spec_chPairs.l1, if_neg (show ¬ i ≤ j by omega), w64 (show -9223372036854775808 ≤ j + 1 by omega) (by omega)]
    simpa [inner] using h
  | succ d ih =>
    intro i acc hi hd hacc h
    refine ev_shift ?_
    simp only [spec_chPairs.l1, if_pos (show i ≤ j by omega), if_pos hi, if_pos (show i < (xs.length : Int) by omega), if_pos hj, if_pos (show j < (xs.length : Int) by omega), if_pos (show 0 ≤ k by omega), if_pos hk,
      w64 (show -9223372036854775808 ≤ i + 1 by omega) (by omega)]
    by_cases c : wrap64 (rd xs i + rd xs j) = rd xs k
    · simp only [if_pos c, if_pos (show acc.length < 8796093022208 by omega)]
      refine ih (i + 1) (acc ++ [⟨i, j⟩]) (by omega) (by omega) (by simp only [List.length_append, List.length_singleton]; omega) ?_
      simpa [inner, c] using h
    · simp only [if_neg c]
      refine ih (i + 1) acc (by omega) (by omega) (by omega) ?_
      simpa [inner, c] using h

theorem spec_outer (xs : List Int) (k : Int) (hk : k < xs.length) (hl : xs.length ≤ 100000) : ∀ (d : Nat) (j : Int) (acc : List St), 0 ≤ j → j + d = k → acc.length + d * 100001 ≤ 8000000000000 →
    Ev (fun f => spec_chPairs.l0 f xs k acc j) (acc ++ outer xs k d j) := by
  intro d
  induction d with
  | zero =>
    intro j acc hj hd _
    refine ev_shift ?_
    simp only [spec_chPairs.l0, if_neg (show ¬ j < k by omega), outer, List.append_nil]
    exact Ev.now _
  | succ d ih =>
    intro j acc hj hd hacc
    refine ev_shift ?_
    simp only [spec_chPairs.l0, if_pos (show j < k by omega)]
    have hi := inner_length xs k j (j + 1).toNat 0
    refine spec_inner xs k j _ hj (by omega) hk hl (j + 1).toNat 0 acc (by omega) (by omega) (by omega) ?_
    have h := ih (j + 1) (acc ++ inner xs k j (j + 1).toNat 0) (by omega) (by omega) (by rw [List.length_append]; omega)
    simpa [outer] using h

theorem chPairs_ev (xs : List Int) (k : Int) (h0 : 0 ≤ k) (hk : k < xs.length) (hl : xs.length ≤ 100000) : Ev (fun f => spec_chPairs.f f xs k) (sumsOf xs k) := by
  have h := spec_outer xs k hk hl k.toNat 0 [] (by omega) (by omega) (by simp only [List.length_nil]; omega)
  simpa [sumsOf, spec_chPairs.f] using h

theorem impl_inner (xs : List Int) (k j : Int) (r : List St) (hj : 0 ≤ j) (hjk : j < k) (hk : k < xs.length) (hl : xs.length ≤ 100000) : ∀ (d : Nat) (i : Int) (acc : List St), 0 ≤ i → i + d = j + 1 → acc.length + d ≤ 8000000000000 →
    Ev (fun f => impl_sums.l0 f xs k (acc ++ inner xs k j d i) k (j + 1)) r → Ev (fun f => impl_sums.l1 f xs k acc j k j (j + 1) i) r := by
  intro d
  induction d with
  | zero =>
    intro i acc hi hd _ h
    refine ev_shift ?_
    simp only [impl_sums.l1, if_neg (show ¬ i < j + 1 by omega), w64 (show -9223372036854775808 ≤ j + 1 by omega) (by omega)]
    simpa [inner] using h
  | succ d ih =>
    intro i acc hi hd hacc h
    refine ev_shift ?_
    simp only [impl_sums.l1, if_pos (show i < j + 1 by omega), if_pos hi, if_pos (show i < (xs.length : Int) by omega), if_pos hj, if_pos (show j < (xs.length : Int) by omega), if_pos (show 0 ≤ k by omega), if_pos hk,
      w64 (show -9223372036854775808 ≤ i + 1 by omega) (by omega)]
    by_cases c : wrap64 (rd xs i + rd xs j) = rd xs k
    · simp only [if_pos c, if_pos (show acc.length < 8796093022208 by omega)]
      refine ih (i + 1) (acc ++ [⟨i, j⟩]) (by omega) (by omega) (by simp only [List.length_append, List.length_singleton]; omega) ?_
      simpa [inner, c] using h
    · simp only [if_neg c]
      refine ih (i + 1) acc (by omega) (by omega) (by omega) ?_
      simpa [inner, c] using h

theorem impl_outer (xs : List Int) (k : Int) (hk : k < xs.length) (hl : xs.length ≤ 100000) : ∀ (d : Nat) (j : Int) (acc : List St), 0 ≤ j → j + d = k → acc.length + d * 100001 ≤ 8000000000000 →
    Ev (fun f => impl_sums.l0 f xs k acc k j) (acc ++ outer xs k d j) := by
  intro d
  induction d with
  | zero =>
    intro j acc hj hd _
    refine ev_shift ?_
    simp only [impl_sums.l0, if_neg (show ¬ j < k by omega), outer, List.append_nil]
    exact Ev.now _
  | succ d ih =>
    intro j acc hj hd hacc
    refine ev_shift ?_
    simp only [impl_sums.l0, if_pos (show j < k by omega), w64 (show -9223372036854775808 ≤ j + 1 by omega) (by omega)]
    have hi := inner_length xs k j (j + 1).toNat 0
    refine impl_inner xs k j _ hj (by omega) hk hl (j + 1).toNat 0 acc (by omega) (by omega) (by omega) ?_
    have h := ih (j + 1) (acc ++ inner xs k j (j + 1).toNat 0) (by omega) (by omega) (by rw [List.length_append]; omega)
    simpa [outer] using h

theorem sums_ev (xs : List Int) (k : Int) (h0 : 0 ≤ k) (hk : k < xs.length) (hl : xs.length ≤ 100000) : Ev (fun f => impl_sums.f f xs k) (sumsOf xs k) := by
  have h := impl_outer xs k hk hl k.toNat 0 [] (by omega) (by omega) (by simp only [List.length_nil]; omega)
  simpa [sumsOf, impl_sums.f] using h

/-! the chain's test, in both ways -/
def risingFrom (xs : List Int) : Nat → Int → Bool
  | 0, _ => true
  | d + 1, i => if rd xs i ≥ 1 then (if rd xs i ≤ 1000000 then (if i > 0 then (if rd xs (i - 1) ≥ rd xs i then false else risingFrom xs d (i + 1)) else risingFrom xs d (i + 1)) else false) else false
def pairsFrom (xs : List Int) : Nat → Int → Bool
  | 0, _ => true
  | d + 1, k => if (sumsOf xs k).length = 0 then false else pairsFrom xs d (k + 1)
def implFrom (xs : List Int) : Nat → Int → Bool
  | 0, _ => true
  | d + 1, k => if rd xs k ≤ rd xs (k - 1) then false else if rd xs k > 1000000 then false else if (sumsOf xs k).length = 0 then false else implFrom xs d (k + 1)
/-- Is it a chain? -/
def chain (xs : List Int) : Bool := if 1 ≤ xs.length ∧ xs.length ≤ 41 then (if rd xs 0 = 1 then implFrom xs (xs.length - 1) 1 else false) else false

theorem from_same (xs : List Int) : ∀ (d : Nat) (i : Int), 1 ≤ i → 1 ≤ rd xs (i - 1) → (risingFrom xs d i && pairsFrom xs d i) = implFrom xs d i
  | 0, _, _, _ => rfl
  | d + 1, i, h1, h2 => by
    unfold risingFrom pairsFrom implFrom
    rw [if_pos (show i > 0 by omega)]
    by_cases c1 : rd xs i ≤ rd xs (i - 1)
    · rw [if_pos c1, if_pos (show rd xs (i - 1) ≥ rd xs i from c1)]
      split
      · split <;> rfl
      · rfl
    · rw [if_neg c1, if_neg (show ¬ rd xs (i - 1) ≥ rd xs i from c1), if_pos (show rd xs i ≥ 1 by omega)]
      by_cases c2 : rd xs i > 1000000
      · rw [if_pos c2, if_neg (by omega)]; rfl
      · rw [if_neg c2, if_pos (by omega)]
        by_cases c3 : (sumsOf xs i).length = 0
        · rw [if_pos c3, if_pos c3, Bool.and_false]
        · rw [if_neg c3, if_neg c3]
          have e : i + 1 - 1 = i := by omega
          exact from_same xs d (i + 1) (by omega) (by rw [e]; omega)

theorem l1In_eq (a b c : Int) : spec_l1In.f a b c = some (decide (b ≤ a) && decide (a ≤ c)) := by
  unfold spec_l1In.f
  by_cases h : a ≥ b
  · rw [if_pos h]; simp [show b ≤ a from h]
  · rw [if_neg h]; simp [show ¬ b ≤ a from h]
theorem in_eq (a b c : Int) : impl_in.f a b c = some (decide (b ≤ a) && decide (a ≤ c)) := by
  unfold impl_in.f
  by_cases h : a ≥ b
  · rw [if_pos h]; simp [show b ≤ a from h]
  · rw [if_neg h]; simp [show ¬ b ≤ a from h]

theorem rising_ev (xs : List Int) (hl : xs.length ≤ 100000) : ∀ (d : Nat) (i : Int), 0 ≤ i → i + d = xs.length → Ev (fun f => spec_l1Rising.l0 f xs 1 1000000 xs xs.length i) (risingFrom xs d i) := by
  intro d
  induction d with
  | zero =>
    intro i h0 hd
    refine ev_shift ?_
    simp only [spec_l1Rising.l0, if_neg (show ¬ i < (xs.length : Int) by omega), risingFrom]
    exact Ev.now _
  | succ d ih =>
    intro i h0 hd
    have hn := ih (i + 1) (by omega) (by omega)
    refine ev_shift ?_
    simp only [spec_l1Rising.l0, if_pos (show i < (xs.length : Int) by omega), if_pos h0, w64 (show -9223372036854775808 ≤ i + 1 by omega) (by omega), w64 (show -9223372036854775808 ≤ i - 1 by omega) (by omega), l1In_eq, Option.bind_some]
    unfold risingFrom
    by_cases c1 : rd xs i ≥ 1
    · by_cases c2 : rd xs i ≤ 1000000
      · rw [if_pos c1, if_pos c2]
        simp only [decide_eq_true (show 1 ≤ rd xs i from c1), decide_eq_true c2, Bool.and_self, if_true]
        by_cases c3 : i > 0
        · simp only [if_pos c3, if_pos (show 0 ≤ i - 1 by omega), if_pos (show i - 1 < (xs.length : Int) by omega)]
          by_cases c4 : rd xs (i - 1) ≥ rd xs i
          · simp only [if_pos c4]; exact Ev.now _
          · simp only [if_neg c4]; exact hn
        · simp only [if_neg c3]; exact hn
      · rw [if_pos c1, if_neg c2]
        simp only [decide_eq_false c2, Bool.and_false, Bool.false_eq_true, if_false]
        exact Ev.now _
    · rw [if_neg c1]
      simp only [decide_eq_false (show ¬ 1 ≤ rd xs i from c1), Bool.false_and, Bool.false_eq_true, if_false]
      exact Ev.now _

theorem pairs_ev (xs : List Int) (hl : xs.length ≤ 100000) : ∀ (d : Nat) (k : Int), 0 ≤ k → k + d = xs.length → Ev (fun f => spec_chGood.l0 f xs k) (pairsFrom xs d k) := by
  intro d
  induction d with
  | zero =>
    intro i h0 hd
    refine ev_shift ?_
    simp only [spec_chGood.l0, if_neg (show ¬ i < (xs.length : Int) by omega), pairsFrom]
    exact Ev.now _
  | succ d ih =>
    intro i h0 hd
    have hn := ih (i + 1) (by omega) (by omega)
    refine ev_shift ?_
    simp only [spec_chGood.l0, if_pos (show i < (xs.length : Int) by omega), w64 (show -9223372036854775808 ≤ i + 1 by omega) (by omega)]
    refine ev_bind (chPairs_ev xs i h0 (by omega) hl) ?_
    unfold pairsFrom
    by_cases c : (sumsOf xs i).length = 0
    · simp only [if_pos c, if_pos (show ((sumsOf xs i).length : Int) = 0 by omega)]; exact Ev.now _
    · simp only [if_neg c, if_neg (show ¬ ((sumsOf xs i).length : Int) = 0 by omega)]; exact hn

theorem implFrom_ev (xs : List Int) (hl : xs.length ≤ 100000) : ∀ (d : Nat) (k : Int), 1 ≤ k → k + d = xs.length → Ev (fun f => impl_IsChain.l0 f xs k) (implFrom xs d k) := by
  intro d
  induction d with
  | zero =>
    intro i h0 hd
    refine ev_shift ?_
    simp only [impl_IsChain.l0, if_neg (show ¬ i < (xs.length : Int) by omega), implFrom]
    exact Ev.now _
  | succ d ih =>
    intro i h0 hd
    have hn := ih (i + 1) (by omega) (by omega)
    refine ev_shift ?_
    simp only [impl_IsChain.l0, if_pos (show i < (xs.length : Int) by omega), if_pos (show 0 ≤ i by omega), w64 (show -9223372036854775808 ≤ i + 1 by omega) (by omega), w64 (show -9223372036854775808 ≤ i - 1 by omega) (by omega), if_pos (show 0 ≤ i - 1 by omega), if_pos (show i - 1 < (xs.length : Int) by omega)]
    unfold implFrom
    by_cases c1 : rd xs i ≤ rd xs (i - 1)
    · simp only [if_pos c1]; exact Ev.now _
    · simp only [if_neg c1]
      by_cases c2 : rd xs i > 1000000
      · simp only [if_pos c2]; exact Ev.now _
      · simp only [if_neg c2]
        refine ev_bind (sums_ev xs i (by omega) (by omega) hl) ?_
        by_cases c : (sumsOf xs i).length = 0
        · simp only [if_pos c, if_pos (show ((sumsOf xs i).length : Int) = 0 by omega)]; exact Ev.now _
        · simp only [if_neg c, if_neg (show ¬ ((sumsOf xs i).length : Int) = 0 by omega)]; exact hn

theorem isChain_ev (xs : List Int) (hl : xs.length ≤ 1048576) : Ev (fun f => impl_IsChain.f f xs) (chain xs) := by
  unfold impl_IsChain.f chain
  simp only [in_eq, Option.bind_some]
  by_cases c : 1 ≤ xs.length ∧ xs.length ≤ 41
  · simp only [if_pos c, decide_eq_true (show (1 : Int) ≤ xs.length by omega), decide_eq_true (show (xs.length : Int) ≤ 41 by omega), Bool.and_self, if_true, if_pos (show (0 : Int) < xs.length by omega)]
    by_cases c1 : rd xs 0 = 1
    · simp only [if_pos c1]
      refine ev_shift ?_
      simp only [impl_IsChain.j0, c1, bne_self_eq_false, Bool.false_eq_true, if_false]
      exact implFrom_ev xs (by omega) (xs.length - 1) 1 (by omega) (by omega)
    · simp only [if_neg c1]
      refine ev_shift ?_
      simp only [impl_IsChain.j0, bne_iff_ne.mpr c1, if_true]
      exact Ev.now _
  · rw [if_neg c]
    have e : (decide ((1 : Int) ≤ xs.length) && decide ((xs.length : Int) ≤ 41)) = false := by
      rw [Bool.and_eq_false_iff, decide_eq_false_iff_not, decide_eq_false_iff_not]; omega
    simp only [e, Bool.false_eq_true, if_false]
    refine ev_shift ?_
    simp only [impl_IsChain.j0, if_true]
    exact Ev.now _

theorem chGood_ev (xs : List Int) (hl : xs.length ≤ 1048576) : Ev (fun f => spec_chGood.f f xs) (chain xs) := by
  unfold spec_chGood.f chain
  simp only [l1In_eq, Option.bind_some]
  by_cases c : 1 ≤ xs.length ∧ xs.length ≤ 41
  · simp only [if_pos c, decide_eq_true (show (1 : Int) ≤ xs.length by omega), decide_eq_true (show (xs.length : Int) ≤ 41 by omega), Bool.and_self, if_true, if_pos (show (0 : Int) < xs.length by omega)]
    by_cases c1 : rd xs 0 = 1
    · simp only [if_pos c1]
      unfold spec_l1Rising.f
      refine ev_bind (rising_ev xs (by omega) xs.length 0 (by omega) (by omega)) ?_
      obtain ⟨n, hn⟩ : ∃ n, xs.length = n + 1 := ⟨xs.length - 1, by omega⟩
      have e1 : risingFrom xs xs.length 0 = risingFrom xs n 1 := by
        rw [hn, risingFrom, c1, if_pos (by decide), if_pos (by decide), if_neg (by decide)]
        rfl
      have e2 : xs.length - 1 = n := by omega
      rw [e1, e2, ← from_same xs n 1 (by omega) (by rw [show (1 : Int) - 1 = 0 from rfl, c1]; omega)]
      refine ev_shift ?_
      simp only [spec_chGood.j0]
      cases hr : risingFrom xs n 1 with
      | false =>
        simp only [Bool.not_false, if_true, Bool.false_and]
        exact Ev.now _
      | true =>
        simp only [Bool.not_true, Bool.false_eq_true, if_false, Bool.true_and]
        exact pairs_ev xs (by omega) n 1 (by omega) (by omega)
    · simp only [if_neg c1]
      refine ev_shift ?_
      simp only [spec_chGood.j0, if_true]
      exact Ev.now _
  · rw [if_neg c]
    have e : (decide ((1 : Int) ≤ xs.length) && decide ((xs.length : Int) ≤ 41)) = false := by
      rw [Bool.and_eq_false_iff, decide_eq_false_iff_not, decide_eq_false_iff_not]; omega
    simp only [e, Bool.false_eq_true, if_false]
    refine ev_shift ?_
    simp only [spec_chGood.j0, if_true]
    exact Ev.now _

theorem implFrom_head (xs : List Int) (d : Nat) (k : Int) (h : implFrom xs (d + 1) k = true) : (sumsOf xs k).length ≠ 0 ∧ implFrom xs d (k + 1) = true ∧ rd xs (k - 1) < rd xs k ∧ rd xs k ≤ 1000000 := by
  unfold implFrom at h
  split at h
  · cases h
  · split at h
    · cases h
    · split at h
      · cases h
      · rename_i a b c
        exact ⟨c, h, by omega, by omega⟩
theorem chain_from (xs : List Int) (h : chain xs = true) : 1 ≤ xs.length ∧ xs.length ≤ 41 ∧ rd xs 0 = 1 ∧ implFrom xs (xs.length - 1) 1 = true := by
  unfold chain at h
  split at h
  · rename_i c
    split at h
    · rename_i c1
      exact ⟨c.1, c.2, c1, h⟩
    · cases h
  · cases h

/-- a list, if it is a chain -/
def ifChain (xs : List Int) : List Int × Bool := if chain xs = true then (xs, true) else ([], false)
theorem ifChain_short (xs : List Int) : (ifChain xs).1.length ≤ 1000000 := by
  unfold ifChain
  split
  · rename_i c; have := (chain_from xs c).2.1; simp only; omega
  · simp
theorem chIf_ev (xs : List Int) (hl : xs.length ≤ 1048576) : Ev (fun f => spec_chIf.f f xs) (ifChain xs) := by
  unfold spec_chIf.f ifChain
  refine ev_bind (chGood_ev xs hl) ?_
  by_cases c : chain xs = true
  · simp only [c, if_true]; exact Ev.now _
  · simp only [if_neg c]; exact Ev.now _
theorem told_ev (xs : List Int) (hl : xs.length ≤ 1048576) : Ev (fun f => impl_toldChain.f f xs) (ifChain xs) := by
  unfold impl_toldChain.f ifChain
  refine ev_bind (isChain_ev xs hl) ?_
  by_cases c : chain xs = true
  · simp only [c, if_true]; exact Ev.now _
  · simp only [if_neg c]; exact Ev.now _

def hasFrom (ys : List Int) (x : Int) : Nat → Int → Bool
  | 0, _ => false
  | d + 1, i => if rd ys i = x then true else hasFrom ys x d (i + 1)
/-- Is x among them? -/
def has (ys : List Int) (x : Int) : Bool := hasFrom ys x ys.length 0
theorem hasFrom_at (ys : List Int) (x : Int) : ∀ (d : Nat) (i : Int), hasFrom ys x d i = true → ∃ j, i ≤ j ∧ j < i + d ∧ rd ys j = x
  | 0, _, h => by cases h
  | d + 1, i, h => by
    unfold hasFrom at h
    split at h
    · rename_i c; exact ⟨i, by omega, by omega, c⟩
    · obtain ⟨j, h1, h2, h3⟩ := hasFrom_at ys x d (i + 1) h
      exact ⟨j, by omega, by omega, h3⟩
theorem hasFrom_mk (ys : List Int) (x : Int) : ∀ (d : Nat) (i j : Int), i ≤ j → j < i + d → rd ys j = x → hasFrom ys x d i = true
  | 0, _, _, _, _, _ => by omega
  | d + 1, i, j, h1, h2, h3 => by
    unfold hasFrom
    split
    · rfl
    · rename_i c
      by_cases e : i = j
      · subst e; exact absurd h3 c
      · exact hasFrom_mk ys x d (i + 1) j (by omega) (by omega) h3
theorem has_iff (ys : List Int) (x : Int) : has ys x = true ↔ ∃ j : Int, 0 ≤ j ∧ j < ys.length ∧ rd ys j = x := by
  constructor
  · intro h
    obtain ⟨j, h1, h2, h3⟩ := hasFrom_at ys x ys.length 0 h
    exact ⟨j, h1, by omega, h3⟩
  · rintro ⟨j, h1, h2, h3⟩
    exact hasFrom_mk ys x ys.length 0 j h1 (by omega) h3
theorem rd_take (xs : List Int) (k j : Int) (h0 : 0 ≤ j) (h1 : j < k) : rd (xs.take k.toNat) j = rd xs j := by
  unfold rd
  simp only [List.getD_eq_getElem?_getD]
  rw [List.getElem?_take_of_lt (by omega)]

theorem rd_ne (xs : List Int) (i : Nat) (h : i < xs.length) : rd xs (i : Int) = xs[i] := by rw [rd_nat]; simp [List.getD, h]
theorem has_mem (ys : List Int) (x : Int) : has ys x = decide (x ∈ ys) := by
  rw [Bool.eq_iff_iff, decide_eq_true_iff, has_iff]
  constructor
  · rintro ⟨j, h0, h1, h2⟩
    obtain ⟨j, rfl⟩ := Int.eq_ofNat_of_zero_le h0
    rw [rd_ne ys j (by omega)] at h2
    exact List.mem_iff_getElem.2 ⟨j, by omega, h2⟩
  · intro h
    obtain ⟨j, h1, h2⟩ := List.mem_iff_getElem.1 h
    exact ⟨j, by omega, by omega, by rw [rd_ne ys j h1]; exact h2⟩
theorem drop_cons (xs : List Int) (i : Nat) (h : i < xs.length) : xs.drop i = rd xs (i : Int) :: xs.drop (i + 1) := by rw [rd_ne xs i h]; exact List.drop_eq_getElem_cons h
theorem l1Own_eq (xs : List Int) (h : xs.length < 17592186044416) : spec_l1Own.f xs = some xs := by
  unfold spec_l1Own.f
  simp only [Option.bind_some, List.length_nil, Nat.zero_add, if_pos h, List.nil_append]

/-! the place of a number in a list -/
def place (xs : List Int) (x : Int) : Nat → Nat → Nat
  | 0, i => i
  | d + 1, i => if rd xs (i : Int) < x then place xs x d (i + 1) else i
def putAt (xs : List Int) (x : Int) (k : Nat) : List Int := if k < xs.length ∧ rd xs (k : Int) = x then xs else xs.take k ++ x :: xs.drop k
/-- l1Put. -/
def put (xs : List Int) (x : Int) : List Int := putAt xs x (place xs x xs.length 0)
theorem place_le (xs : List Int) (x : Int) : ∀ (d i : Nat), place xs x d i ≤ i + d
  | 0, i => Nat.le_refl _
  | d + 1, i => by
    unfold place
    split
    · have := place_le xs x d (i + 1); omega
    · omega
theorem place_low (xs : List Int) (x : Int) : ∀ (d i m : Nat), i ≤ m → m < place xs x d i → rd xs (m : Int) < x
  | 0, i, m, h1, h2 => by unfold place at h2; omega
  | d + 1, i, m, h1, h2 => by
    unfold place at h2
    split at h2
    · rename_i c
      by_cases e : i = m
      · subst e; exact c
      · exact place_low xs x d (i + 1) m (by omega) h2
    · omega
theorem place_high (xs : List Int) (x : Int) : ∀ (d i : Nat), place xs x d i < i + d → ¬ rd xs (place xs x d i : Int) < x
  | 0, i, h => by unfold place at h; omega
  | d + 1, i, h => by
    unfold place at h ⊢
    split
    · rename_i c
      rw [if_pos c] at h
      exact place_high xs x d (i + 1) (by omega)
    · assumption
theorem place_eq (xs : List Int) (x : Int) (k : Nat) (hk : k ≤ xs.length) (h1 : ∀ m : Nat, m < k → rd xs (m : Int) < x) (h2 : k < xs.length → ¬ rd xs (k : Int) < x) : place xs x xs.length 0 = k := by
  have a := place_le xs x xs.length 0
  rcases Nat.lt_trichotomy (place xs x xs.length 0) k with c | c | c
  · exact absurd (h1 _ c) (place_high xs x xs.length 0 (by omega))
  · exact c
  · exact absurd (place_low xs x xs.length 0 k (by omega) c) (h2 (by omega))
theorem l1Put_ev (xs : List Int) (x : Int) (hl : xs.length ≤ 100000000) : Ev (fun f => spec_l1Put.f f xs x) (put xs x) := by
  have loop : ∀ (d i : Nat), i + d = xs.length → Ev (fun f => spec_l1Put.l0 f xs x i) (putAt xs x (place xs x d i)) := by
    intro d
    induction d with
    | zero =>
      intro i hd
      refine ev_shift ?_
      have l1 : ([] ++ xs.take i : List Int).length ≤ 100000000 := by simp only [List.nil_append, List.length_take]; omega
      have l2 : (([] ++ xs.take i : List Int) ++ [x]).length ≤ 100000001 := by rw [List.length_append, List.length_singleton]; omega
      simp only [spec_l1Put.l0, if_neg (show ¬ (i : Int) < (xs.length : Int) by omega), Option.bind_some, if_pos (show (0 : Int) ≤ (i : Int) by omega), if_pos (show (i : Int) ≤ (xs.length : Int) by omega), Int.toNat_natCast, if_pos (show ([] : List Int).length + (xs.take i).length < 17592186044416 by rw [List.length_take]; simp only [List.length_nil]; omega), if_pos (show ([] ++ xs.take i : List Int).length < 17592186044416 by omega), if_pos (show (([] ++ xs.take i : List Int) ++ [x]).length + (xs.drop i).length < 17592186044416 by rw [List.length_drop]; omega)]
      unfold place putAt
      rw [if_neg (by omega), List.nil_append, List.append_assoc]
      exact Ev.now _
    | succ d ih =>
      intro i hd
      have ih1 := ih (i + 1) (by omega)
      unfold place
      by_cases c : rd xs (i : Int) < x
      · rw [if_pos c]
        refine ev_shift ?_
        simp only [spec_l1Put.l0, if_pos (show (i : Int) < (xs.length : Int) by omega), if_pos (show (0 : Int) ≤ (i : Int) by omega), if_pos c, w64 (show -9223372036854775808 ≤ (i : Int) + 1 by omega) (by omega)]
        exact ih1
      · rw [if_neg c]
        by_cases e : rd xs (i : Int) = x
        · refine ev_shift ?_
          simp only [spec_l1Put.l0, if_pos (show (i : Int) < (xs.length : Int) by omega), if_pos (show (0 : Int) ≤ (i : Int) by omega), if_neg c, if_pos e]
          unfold putAt
          rw [if_pos ⟨by omega, e⟩]
          exact Ev.now _
        · refine ev_shift ?_
          have l1 : ([] ++ xs.take i : List Int).length ≤ 100000000 := by simp only [List.nil_append, List.length_take]; omega
          have l2 : (([] ++ xs.take i : List Int) ++ [x]).length ≤ 100000001 := by rw [List.length_append, List.length_singleton]; omega
          simp only [spec_l1Put.l0, if_pos (show (i : Int) < (xs.length : Int) by omega), if_neg c, if_neg e, Option.bind_some, if_pos (show (0 : Int) ≤ (i : Int) by omega), if_pos (show (i : Int) ≤ (xs.length : Int) by omega), Int.toNat_natCast, if_pos (show ([] : List Int).length + (xs.take i).length < 17592186044416 by rw [List.length_take]; simp only [List.length_nil]; omega), if_pos (show ([] ++ xs.take i : List Int).length < 17592186044416 by omega), if_pos (show (([] ++ xs.take i : List Int) ++ [x]).length + (xs.drop i).length < 17592186044416 by rw [List.length_drop]; omega)]
          unfold putAt
          rw [if_neg (fun h => e h.2), List.nil_append, List.append_assoc]
          exact Ev.now _
  exact loop xs.length 0 (by omega)
theorem put_length (xs : List Int) (x : Int) : (put xs x).length ≤ xs.length + 1 := by
  unfold put putAt
  split
  · omega
  · rw [List.length_append, List.length_cons, List.length_take, List.length_drop]; omega
/-! lists that rise, and what slices.Sort and slices.Compact make of a list -/
theorem strict_eq : ∀ l1 l2 : List Int, l1.Pairwise (· < ·) → l2.Pairwise (· < ·) → (∀ x, x ∈ l1 ↔ x ∈ l2) → l1 = l2
  | [], [], _, _, _ => rfl
  | [], b :: l2, _, _, h => absurd ((h b).2 (List.mem_cons_self ..)) (by simp)
  | a :: l1, [], _, _, h => absurd ((h a).1 (List.mem_cons_self ..)) (by simp)
  | a :: l1, b :: l2, h1, h2, h => by
    obtain ⟨p1, q1⟩ := List.pairwise_cons.1 h1
    obtain ⟨p2, q2⟩ := List.pairwise_cons.1 h2
    have e : a = b := by
      rcases List.mem_cons.1 ((h a).1 (List.mem_cons_self ..)) with c | c
      · exact c
      · rcases List.mem_cons.1 ((h b).2 (List.mem_cons_self ..)) with d | d
        · exact d.symm
        · have := p1 b d; have := p2 a c; omega
    subst e
    rw [strict_eq l1 l2 q1 q2 (fun x => ?_)]
    constructor
    · intro hx
      rcases List.mem_cons.1 ((h x).1 (List.mem_cons_of_mem _ hx)) with c | c
      · have := p1 x hx; omega
      · exact c
    · intro hx
      rcases List.mem_cons.1 ((h x).2 (List.mem_cons_of_mem _ hx)) with c | c
      · have := p2 x hx; omega
      · exact c
theorem comp_fact (d : Array Int) (hs : ∀ i j, i ≤ j → j < d.size → d[i]! ≤ d[j]!) : ∀ m, m ≤ d.size → (Go.Lib.compactUpTo d m).Pairwise (· < ·) ∧ (∀ x, x ∈ Go.Lib.compactUpTo d m ↔ ∃ j, j < m ∧ d[j]! = x)
  | 0, _ => ⟨by simp [Go.Lib.compactUpTo], fun x => by simp [Go.Lib.compactUpTo]⟩
  | m + 1, hm => by
    obtain ⟨h1, h2⟩ := comp_fact d hs m (by omega)
    rw [Go.Lib.compactUpTo_succ]
    by_cases c : Go.Lib.keeps d m = true
    · rw [if_pos c]
      refine ⟨List.pairwise_append.2 ⟨h1, by simp, fun x hx y hy => ?_⟩, fun x => ?_⟩
      · rw [List.mem_singleton.1 hy]
        obtain ⟨j, hj, rfl⟩ := (h2 x).1 hx
        have a1 := hs j (m - 1) (by omega) (by omega)
        have a2 := hs (m - 1) m (by omega) (by omega)
        have a3 : d[m]! ≠ d[m - 1]! := by
          unfold Go.Lib.keeps at c
          rcases of_decide_eq_true c with q | q
          · omega
          · exact q
        omega
      · rw [List.mem_append, h2, List.mem_singleton]
        constructor
        · rintro (⟨j, hj, e⟩ | e)
          · exact ⟨j, by omega, e⟩
          · exact ⟨m, by omega, e.symm⟩
        · rintro ⟨j, hj, e⟩
          by_cases q : j = m
          · subst q; exact .inr e.symm
          · exact .inl ⟨j, by omega, e⟩
    · rw [if_neg c, List.append_nil]
      refine ⟨h1, fun x => ?_⟩
      rw [h2]
      constructor
      · rintro ⟨j, hj, e⟩; exact ⟨j, by omega, e⟩
      · rintro ⟨j, hj, e⟩
        by_cases q : j = m
        · subst q
          have hj0 : j ≠ 0 := fun h => c (by unfold Go.Lib.keeps; exact decide_eq_true (.inl h))
          have he : d[j]! = d[j - 1]! := by
            by_cases r : d[j]! = d[j - 1]!
            · exact r
            · exact absurd (Go.Lib.keeps_pos r) c
          exact ⟨j - 1, by omega, by rw [← he]; exact e⟩
        · exact ⟨j, by omega, e⟩
theorem inc_fact (l : List Int) : (Go.Lib.compact (l.mergeSort fun x y => decide (x ≤ y))).Pairwise (· < ·) ∧ ∀ x, x ∈ Go.Lib.compact (l.mergeSort fun x y => decide (x ≤ y)) ↔ x ∈ l := by
  have hp : (l.mergeSort fun x y => decide (x ≤ y)).Pairwise (fun a b => decide (a ≤ b) = true) := List.pairwise_mergeSort (le := fun x y : Int => decide (x ≤ y)) (fun a b c h1 h2 => decide_eq_true (Int.le_trans (of_decide_eq_true h1) (of_decide_eq_true h2))) (fun a b => by rcases Int.le_total a b with h | h <;> simp [h]) l
  have hm : ∀ x, x ∈ (l.mergeSort fun x y => decide (x ≤ y)) ↔ x ∈ l := fun x => List.mem_mergeSort
  generalize (l.mergeSort fun x y => decide (x ≤ y)) = z at hp hm ⊢
  have hs : ∀ i j, i ≤ j → j < z.toArray.size → z.toArray[i]! ≤ z.toArray[j]! := fun i j hij hj => by
    have hj' : j < z.length := by simpa using hj
    rw [getElem!_pos _ i (by simp; omega), getElem!_pos _ j hj]
    simp only [List.getElem_toArray]
    by_cases e : i = j
    · subst e; exact Int.le_refl _
    · exact of_decide_eq_true (List.pairwise_iff_getElem.1 hp i j (by omega) hj' (by omega))
  obtain ⟨a, b⟩ := comp_fact z.toArray hs z.length (by simp)
  refine ⟨a, fun x => ?_⟩
  rw [show Go.Lib.compact z = Go.Lib.compactUpTo z.toArray z.length from rfl, b, ← hm]
  constructor
  · rintro ⟨j, hj, e⟩
    rw [getElem!_pos _ j (by simpa using hj)] at e
    exact List.mem_iff_getElem.2 ⟨j, hj, by simpa using e⟩
  · intro h
    obtain ⟨j, hj, e⟩ := List.mem_iff_getElem.1 h
    exact ⟨j, hj, by rw [getElem!_pos _ j (by simpa using hj)]; simpa using e⟩
theorem put_fact (xs : List Int) (n : Int) (h : xs.Pairwise (· < ·)) : (put xs n).Pairwise (· < ·) ∧ ∀ x, x ∈ put xs n ↔ x ∈ xs ∨ x = n := by
  unfold put putAt
  obtain ⟨k, hk⟩ : ∃ k, place xs n xs.length 0 = k := ⟨_, rfl⟩
  have k0 := place_le xs n xs.length 0
  have k1 : ∀ m : Nat, m < k → rd xs (m : Int) < n := fun m hm => place_low xs n xs.length 0 m (Nat.zero_le _) (by omega)
  have k2 : k < xs.length → ¬ rd xs (k : Int) < n := fun hl => by have := place_high xs n xs.length 0 (by omega); rwa [hk] at this
  rw [hk] at k0 ⊢
  have ht : ∀ a ∈ xs.take k, a < n := fun a ha => by
    obtain ⟨j, hj, rfl⟩ := List.mem_iff_getElem.1 ha
    rw [List.length_take] at hj
    rw [List.getElem_take, ← rd_ne xs j (by omega)]
    exact k1 j (by omega)
  split
  · rename_i c
    refine ⟨h, fun x => ⟨.inl, fun q => q.elim id (fun e => ?_)⟩⟩
    rw [e, ← c.2, rd_ne xs k c.1]
    exact List.getElem_mem _
  · rename_i c
    have hd : ∀ b ∈ xs.drop k, n < b := fun b hb => by
      obtain ⟨j, hj, rfl⟩ := List.mem_iff_getElem.1 hb
      rw [List.length_drop] at hj
      rw [List.getElem_drop]
      have a1 := k2 (by omega)
      rw [rd_ne xs k (by omega)] at a1
      have a2 : ¬ xs[k]'(by omega) = n := fun e => c ⟨by omega, by rw [rd_ne xs k (by omega)]; exact e⟩
      by_cases e : j = 0
      · subst e; simp only [Nat.add_zero]; omega
      · have := List.pairwise_iff_getElem.1 h k (k + j) (by omega) (by omega) (by omega)
        omega
    have hsp := List.take_append_drop k xs
    refine ⟨List.pairwise_append.2 ⟨h.sublist (List.take_sublist ..), List.pairwise_cons.2 ⟨hd, h.sublist (List.drop_sublist ..)⟩, fun a ha b hb => ?_⟩, fun x => ?_⟩
    · rcases List.mem_cons.1 hb with e | e
      · rw [e]; exact ht a ha
      · have := ht a ha; have := hd b e; omega
    · have hm : x ∈ xs ↔ x ∈ xs.take k ∨ x ∈ xs.drop k := by rw [← List.mem_append, hsp]
      rw [List.mem_append, List.mem_cons, hm]
      constructor
      · rintro (q | q | q)
        · exact .inl (.inl q)
        · exact .inr q
        · exact .inl (.inr q)
      · rintro ((q | q) | q)
        · exact .inl q
        · exact .inr (.inr q)
        · exact .inr (.inl q)
theorem puts_fact : ∀ (ys xs : List Int), xs.Pairwise (· < ·) → (ys.foldl put xs).Pairwise (· < ·) ∧ ∀ x, x ∈ ys.foldl put xs ↔ x ∈ xs ∨ x ∈ ys
  | [], xs, h => ⟨h, fun x => by simp⟩
  | y :: ys, xs, h => by
    obtain ⟨a, b⟩ := put_fact xs y h
    obtain ⟨c, d⟩ := puts_fact ys (put xs y) a
    refine ⟨c, fun x => ?_⟩
    rw [List.foldl_cons, d, b, List.mem_cons]
    constructor
    · rintro ((q | q) | q)
      · exact .inl q
      · exact .inr (.inl q)
      · exact .inr (.inr q)
    · rintro (q | q | q)
      · exact .inl (.inl q)
      · exact .inl (.inr q)
      · exact .inr q
theorem puts_length : ∀ (ys xs : List Int), (ys.foldl put xs).length ≤ xs.length + ys.length
  | [], _ => Nat.le_refl _
  | y :: ys, xs => by
    have := puts_length ys (put xs y)
    have := put_length xs y
    rw [List.foldl_cons, List.length_cons]
    omega
theorem from_strict (xs : List Int) : ∀ (d : Nat) (k : Nat), 1 ≤ k → implFrom xs d k = true → ∀ (a b : Nat), k - 1 ≤ a → a < b → b < k + d → rd xs (a : Int) < rd xs (b : Int)
  | 0, k, hk, _, a, b, h1, h2, h3 => by omega
  | d + 1, k, hk, h, a, b, h1, h2, h3 => by
    obtain ⟨_, p2, p3, _⟩ := implFrom_head xs d k h
    have ih := from_strict xs d (k + 1) (by omega) (by rw [show ((k + 1 : Nat) : Int) = (k : Int) + 1 by omega]; exact p2)
    rw [show (k : Int) - 1 = ((k - 1 : Nat) : Int) by omega] at p3
    by_cases c : a = k - 1
    · subst c
      by_cases e : b = k
      · rw [e]; exact p3
      · have := ih k b (by omega) (by omega) (by omega)
        omega
    · exact ih a b (by omega) h2 (by omega)
theorem chain_strict (xs : List Int) (h : chain xs = true) : xs.Pairwise (· < ·) := by
  obtain ⟨h1, _, _, h4⟩ := chain_from xs h
  refine List.pairwise_iff_getElem.2 (fun i j hi hj hij => ?_)
  have := from_strict xs (xs.length - 1) 1 (Nat.le_refl _) h4 i j (by omega) hij (by omega)
  rwa [rd_ne xs i hi, rd_ne xs j hj] at this
/-- The law's tail where the arguments are two slices: both sides answer (w, b): the law holds. -/
theorem tail_ (xs ys : List Int) (hl : xs.length ≤ 1048576) (hl2 : ys.length ≤ 1048576) (w : List Int) (b : Bool) (hw : w.length ≤ 1000000) (hs : Ev (fun k => spec_UnionChains.f k xs ys) (w, b)) (hi : Ev (fun k => impl_UnionChains.f k xs ys) (w, b)) : Ev (fun k => laws_FnExactUnionChains.f k xs ys) true := by
  have ht := toIntS_ev xs (by omega)
  have hu := toIntS_ev ys (by omega)
  have hm := markIntS_ev w 1 (by omega) (by omega)
  have hmx := markIntS_ev xs 1 (by omega) (by omega)
  have hmy := markIntS_ev ys (1 + xs.length) (by omega) (by omega)
  have hh := heldIntS_ev w.length 1 (by omega) (by omega)
  have he := eqIntS_same w (by omega)
  have hex := eqIntS_same xs (by omega)
  have hey := eqIntS_same ys (by omega)
  have e0 : (b != b) = false := by cases b <;> rfl
  have n0 : ¬ (1 + (w.length : Int) < 0) := by omega
  have nx : ¬ (1 + (xs.length : Int) + (ys.length : Int) < 0) := by omega
  have j2 : Ev (fun k => laws_FnExactUnionChains.j2 k (marked w.length 1) (1 + w.length) false) true := by
    refine ev_shift ?_
    simp only [laws_FnExactUnionChains.j2, Bool.false_eq_true, if_false]
    refine ev_bind hh ?_
    simp only [if_neg n0, if_true]
    exact Ev.now _
  have j1 : Ev (fun k => laws_FnExactUnionChains.j1 k xs ys w b w false) true := by
    refine ev_shift ?_
    simp only [laws_FnExactUnionChains.j1, Bool.false_eq_true, if_false]
    refine ev_bind hm ?_
    refine ev_bind hh ?_
    simp only [if_neg n0, if_true]
    refine ev_bind ht ?_
    refine ev_bind hu ?_
    refine ev_bind hi ?_
    refine ev_bind he ?_
    simp only [if_true, e0]
    exact j2
  have j0 : Ev (fun k => laws_FnExactUnionChains.j0 k xs ys w b xs ys w b false) true := by
    refine ev_shift ?_
    simp only [laws_FnExactUnionChains.j0, Bool.false_eq_true, if_false]
    refine ev_bind ht ?_
    refine ev_bind hex ?_
    simp only [if_true]
    refine ev_bind hu ?_
    refine ev_bind hey ?_
    simp only [if_true]
    refine ev_bind hmx ?_
    refine ev_bind hmy ?_
    simp only [if_neg nx]
    refine ev_bind he ?_
    simp only [if_true, e0]
    exact j1
  have big : ¬ ((xs.length : Int) > 1048576) := by omega
  have big2 : ¬ ((ys.length : Int) > 1048576) := by omega
  unfold laws_FnExactUnionChains.f
  simp only [if_neg big, if_neg big2]
  refine ev_bind ht ?_
  refine ev_bind hu ?_
  refine ev_bind hs ?_
  refine ev_bind ht ?_
  refine ev_bind hu ?_
  refine ev_bind hi ?_
  refine ev_bind he ?_
  simp only [if_true, e0]
  exact j0
theorem over_ (xs ys : List Int) (hl : ¬ (xs.length ≤ 1048576 ∧ ys.length ≤ 1048576)) : Ev (fun k => laws_FnExactUnionChains.f k xs ys) true := by
  unfold laws_FnExactUnionChains.f
  by_cases c : (xs.length : Int) > 1048576
  · simp only [if_pos c]; exact Ev.now _
  · simp only [if_neg c, if_pos (show (ys.length : Int) > 1048576 by omega)]; exact Ev.now _

def union (xs ys : List Int) : List Int := ys.foldl put xs
def answer (xs ys : List Int) : List Int × Bool := if chain xs = true ∧ chain ys = true then ifChain (union xs ys) else ([], false)
theorem answer_short (xs ys : List Int) : (answer xs ys).1.length ≤ 1000000 := by
  unfold answer
  split
  · exact ifChain_short _
  · simp
theorem spec_loop (ys : List Int) (hy : ys.length ≤ 1000) : ∀ (d i : Nat) (acc : List Int), i + d = ys.length → acc.length + d ≤ 100000 → Ev (fun f => spec_UnionChains.l0 f acc ys ys.length i) (ifChain ((ys.drop i).foldl put acc)) := by
  intro d
  induction d with
  | zero =>
    intro i acc hd ha
    refine ev_shift ?_
    rw [List.drop_of_length_le (by omega)]
    simp only [spec_UnionChains.l0, if_neg (show ¬ (i : Int) < (ys.length : Int) by omega), List.foldl_nil]
    exact ev_bind (chIf_ev acc (by omega)) (Ev.now _)
  | succ d ih =>
    intro i acc hd ha
    have i1 := ih (i + 1) (put acc (rd ys (i : Int))) (by omega) (by have := put_length acc (rd ys (i : Int)); omega)
    refine ev_shift ?_
    simp only [spec_UnionChains.l0, if_pos (show (i : Int) < (ys.length : Int) by omega), if_pos (show (0 : Int) ≤ (i : Int) by omega), w64 (show -9223372036854775808 ≤ (i : Int) + 1 by omega) (by omega)]
    refine ev_bind (l1Put_ev acc (rd ys (i : Int)) (by omega)) ?_
    rw [drop_cons ys i (by omega), List.foldl_cons]
    exact i1
theorem spec_ev (xs ys : List Int) (hl : xs.length ≤ 1048576) (hl2 : ys.length ≤ 1048576) : Ev (fun f => spec_UnionChains.f f xs ys) (answer xs ys) := by
  unfold spec_UnionChains.f answer
  refine ev_bind (chGood_ev xs hl) ?_
  have fin : Ev (fun f => spec_UnionChains.j0 f xs ys true) (([], false) : List Int × Bool) := by
    refine ev_shift ?_
    simp only [spec_UnionChains.j0, if_true]
    exact Ev.now _
  by_cases c : chain xs = true
  · have cx := (chain_from xs c).2.1
    simp only [c, if_true]
    refine ev_bind (chGood_ev ys hl2) ?_
    by_cases c2 : chain ys = true
    · have cy := (chain_from ys c2).2.1
      rw [if_pos ⟨trivial, c2⟩]
      simp only [c2, Bool.not_true]
      refine ev_shift ?_
      simp only [spec_UnionChains.j0, Bool.false_eq_true, if_false, l1Own_eq xs (by omega), Option.bind_some]
      exact spec_loop ys (by omega) ys.length 0 xs (by omega) (by omega)
    · rw [if_neg (fun h => c2 h.2), Bool.eq_false_iff.mpr c2]
      simp only [Bool.not_false]
      exact fin
  · rw [if_neg (fun h => c h.1)]
    simp only [if_neg c]
    exact fin
theorem impl_ev (xs ys : List Int) (hl : xs.length ≤ 1048576) (hl2 : ys.length ≤ 1048576) : Ev (fun f => impl_UnionChains.f f xs ys) (answer xs ys) := by
  unfold impl_UnionChains.f answer
  refine ev_bind (isChain_ev xs hl) ?_
  by_cases c : chain xs = true
  · have cx := chain_from xs c
    simp only [c, if_true]
    refine ev_bind (isChain_ev ys hl2) ?_
    by_cases c2 : chain ys = true
    · rw [if_pos ⟨trivial, c2⟩]
      simp only [c2, if_true, impl_UnionChains.j, if_pos (show 0 < xs.length by omega), if_pos (show xs.length ≤ 1000000 by omega), if_pos (show ys.length ≤ 1000000 by have := (chain_from ys c2).2.1; omega)]
      have e : impl_UnionChains.inc (xs ++ ys) = union xs ys := by
        obtain ⟨p1, p2⟩ := inc_fact (xs ++ ys)
        obtain ⟨q1, q2⟩ := puts_fact ys xs (chain_strict xs c)
        exact strict_eq _ _ p1 q1 (fun x => by unfold impl_UnionChains.inc union; rw [p2, q2, List.mem_append])
      rw [e]
      exact told_ev (union xs ys) (by have := puts_length ys xs; have := (chain_from ys c2).2.1; unfold union; omega)
    · rw [if_neg (fun h => c2 h.2)]
      simp only [if_neg c2]
      exact Ev.now _
  · rw [if_neg (fun h => c h.1)]
    simp only [if_neg c]
    exact Ev.now _

theorem FnExactUnionChains : laws_FnExactUnionChains.Pure := by
  intro xs ys _ _ _ _ _ _
  by_cases hl : xs.length ≤ 1048576 ∧ ys.length ≤ 1048576
  · exact (tail_ xs ys hl.1 hl.2 (answer xs ys).1 (answer xs ys).2 (answer_short xs ys) (spec_ev xs ys hl.1 hl.2) (impl_ev xs ys hl.1 hl.2)).rounds
  · exact (over_ xs ys hl).rounds

end Go.Proofs.Ytailgfeffoimaaa.Pure
