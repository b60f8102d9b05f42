/- For every list and number: InsertNumber of the program answers as the reference does, and shares no memory. -/
import Derived.Test.YtailgfeffoimaaaMFnExactInsertNumberx6
namespace Go.Proofs.Ytailgfeffoimaaa.Pure
open Go.RowKit Go.Proofs.Ytailgfeffoimaaa.MFnExactInsertNumber Go.Proofs.YtailgfeffoimaaaW.PrintWords Go.Proofs.YtailgfeffoimaaaW.PrintLast Go.Proofs.YtailgfeffoimaaaW.PrintMore
set_option linter.unusedSimpArgs false

theorem w64 {x : Int} (h1 : -9223372036854775808 ≤ x) (h2 : x ≤ 9223372036854775807) : wrap64 x = x := by unfold wrap64; omega

theorem rd_nat (xs : List Int) (j : Nat) : rd xs (j : Int) = xs.getD j 0 := by unfold rd; rw [Int.toNat_natCast]

theorem ev_shift {α : Type} {g : Nat → Option α} {r : α} (h : Ev (fun k => g (k + 1)) r) : Ev g r := by
  obtain ⟨K, hK⟩ := h
  refine ⟨K + 1, fun k hk => ?_⟩
  obtain ⟨m, rfl⟩ : ∃ m, k = m + 1 := ⟨k - 1, by omega⟩
  exact hK m (by omega)

theorem ev_bind {α β : Type} {g : Nat → Option α} {F : Nat → α → Option β} {a : α} {r : β} (h : Ev g a) (k : Ev (fun n => F n a) r) : Ev (fun n => (g n).bind (fun x => F n x)) r := Ev.bind h k

theorem ev_some {α : Type} {g : Nat → Option α} {r : α} (h : ∀ k, g k = some r) : Ev g r := ⟨0, fun k _ => h k⟩

theorem eqIntS_same (xs : List Int) (hb : xs.length ≤ 4611686018427387904) : Ev (fun k => laws_eqIntS.f k xs xs) true := by
  have loop : ∀ (d k : Nat) (i : Int), 0 ≤ i → i ≤ xs.length → (xs.length : Int) - i = d → d < k → laws_eqIntS.l0 k xs xs i = some true := by
    intro d
    induction d with
    | zero =>
      intro k i h0 h1 hd hk
      obtain ⟨k, rfl⟩ : ∃ m, k = m + 1 := ⟨k - 1, by omega⟩
      rw [laws_eqIntS.l0, if_neg (by omega)]
    | succ d ih =>
      intro k i h0 h1 hd hk
      obtain ⟨k, rfl⟩ : ∃ m, k = m + 1 := ⟨k - 1, by omega⟩
      rw [laws_eqIntS.l0, if_pos (by omega), if_pos h0, if_pos (by omega), if_pos rfl, w64 (by omega) (by omega)]
      exact ih k (i + 1) (by omega) (by omega) (by omega) (by omega)
  refine ⟨xs.length + 1, fun k hk => ?_⟩
  show laws_eqIntS.f k xs xs = some true
  unfold laws_eqIntS.f
  rw [if_pos rfl]
  exact loop xs.length k 0 (by omega) (by omega) (by omega) (by omega)

def marked (n : Nat) (a : Int) : List Int := (List.range n).map (fun j : Nat => a + (j : Int))
theorem marked_length (n : Nat) (a : Int) : (marked n a).length = n := by simp [marked]
theorem marked_succ (n : Nat) (a : Int) : marked (n + 1) a = marked n a ++ [a + n] := by simp [marked, List.range_succ]
theorem marked_get (n : Nat) (a : Int) (j : Nat) (h : j < n) : (marked n a).getD j 0 = a + j := by simp [marked, List.getD, h]

theorem marked_step (xs : List Int) (a : Int) (i : Nat) (h : i < xs.length) : (marked i a ++ xs.drop i).set i (a + i) = marked (i + 1) a ++ xs.drop (i + 1) := by
  rw [List.set_append_right _ _ (by rw [marked_length]; exact Nat.le_refl _), marked_length, Nat.sub_self, List.drop_eq_getElem_cons h, List.set_cons_zero, marked_succ]
  simp

theorem markIntS_ev (xs : List Int) (a : Int) (h0 : 0 ≤ a) (ha : a + xs.length ≤ 4611686018427387904) : Ev (fun k => laws_markIntS.f k xs a) (a + xs.length, marked xs.length a) := by
  have loop : ∀ (d k i : Nat), i ≤ xs.length → xs.length - i = d → d < k → laws_markIntS.l0 k (marked i a ++ xs.drop i) (a + i) i = some (a + xs.length, marked xs.length a) := by
    intro d
    induction d with
    | zero =>
      intro k i h1 hd hk
      obtain ⟨k, rfl⟩ : ∃ m, k = m + 1 := ⟨k - 1, by omega⟩
      obtain rfl : i = xs.length := by omega
      have hl : (marked xs.length a ++ xs.drop xs.length).length = xs.length := by simp [marked_length]
      rw [laws_markIntS.l0, hl, if_neg (by omega)]
      simp
    | succ d ih =>
      intro k i h1 hd hk
      obtain ⟨k, rfl⟩ : ∃ m, k = m + 1 := ⟨k - 1, by omega⟩
      have hl : (marked i a ++ xs.drop i).length = xs.length := by simp [marked_length]; omega
      rw [laws_markIntS.l0, hl, if_pos (by omega), if_pos (by omega), Int.toNat_natCast, marked_step xs a i (by omega), w64 (by omega) (by omega), w64 (by omega) (by omega)]
      have e : a + (i : Int) + 1 = a + ((i + 1 : Nat) : Int) := by omega
      rw [e]
      exact ih k (i + 1) (by omega) (by omega) (by omega)
  refine ⟨xs.length + 1, fun k hk => ?_⟩
  have h := loop xs.length k 0 (by omega) (by omega) (by omega)
  simpa [marked, laws_markIntS.f] using h

theorem heldIntS_ev (n : Nat) (a : Int) (h0 : 0 ≤ a) (ha : a + n ≤ 4611686018427387904) : Ev (fun k => laws_heldIntS.f k (marked n a) a) (a + n) := by
  have loop : ∀ (d k i : Nat), i ≤ n → n - i = d → d < k → laws_heldIntS.l0 k (marked n a) (a + i) i = some (a + n) := by
    intro d
    induction d with
    | zero =>
      intro k i h1 hd hk
      obtain ⟨k, rfl⟩ : ∃ m, k = m + 1 := ⟨k - 1, by omega⟩
      obtain rfl : i = n := by omega
      rw [laws_heldIntS.l0, marked_length, if_neg (by omega)]
    | succ d ih =>
      intro k i h1 hd hk
      obtain ⟨k, rfl⟩ : ∃ m, k = m + 1 := ⟨k - 1, by omega⟩
      rw [laws_heldIntS.l0, marked_length, if_pos (by omega), if_pos (by omega), rd_nat, marked_get n a i (by omega), if_pos rfl, w64 (by omega) (by omega), w64 (by omega) (by omega)]
      have e : a + (i : Int) + 1 = a + ((i + 1 : Nat) : Int) := by omega
      rw [e]
      exact ih k (i + 1) (by omega) (by omega) (by omega)
  refine ⟨n + 1, fun k hk => ?_⟩
  have h := loop n k 0 (by omega) (by omega) (by omega)
  simpa [laws_heldIntS.f] using h

theorem toIntS_step (xs : List Int) (i : Nat) (h : i < xs.length) : (xs.take i ++ List.replicate (xs.length - i) 0).set i (xs.getD i 0) = xs.take (i + 1) ++ List.replicate (xs.length - (i + 1)) 0 := by
  have hl : (xs.take i).length = i := by simp; omega
  rw [List.set_append_right _ _ (by omega), hl, Nat.sub_self]
  obtain ⟨m, hm⟩ : ∃ m, xs.length - i = m + 1 := ⟨xs.length - i - 1, by omega⟩
  have hm2 : xs.length - (i + 1) = m := by omega
  have e : xs.getD i 0 = xs[i] := by simp [List.getD, h]
  rw [hm, hm2, List.replicate_succ, List.set_cons_zero, e, List.take_succ_eq_append_getElem h, List.append_assoc]
  rfl

theorem toIntS_ev (xs : List Int) (hb : xs.length ≤ 35184372088832) : Ev (fun k => laws_toIntS.f k xs) xs := by
  have loop : ∀ (d k i : Nat), i ≤ xs.length → xs.length - i = d → d < k → laws_toIntS.l0 k xs (xs.take i ++ List.replicate (xs.length - i) 0) i = some xs := by
    intro d
    induction d with
    | zero =>
      intro k i h1 hd hk
      obtain ⟨k, rfl⟩ : ∃ m, k = m + 1 := ⟨k - 1, by omega⟩
      obtain rfl : i = xs.length := by omega
      rw [laws_toIntS.l0, if_neg (by omega)]
      simp
    | succ d ih =>
      intro k i h1 hd hk
      obtain ⟨k, rfl⟩ : ∃ m, k = m + 1 := ⟨k - 1, by omega⟩
      have hl : (xs.take i ++ List.replicate (xs.length - i) 0).length = xs.length := by simp; omega
      rw [laws_toIntS.l0, if_pos (by omega), if_pos (by omega), hl, if_pos (by omega), Int.toNat_natCast, rd_nat, toIntS_step xs i (by omega), w64 (by omega) (by omega)]
      exact ih k (i + 1) (by omega) (by omega) (by omega)
  refine ⟨xs.length + 1, fun k hk => ?_⟩
  have h := loop xs.length k 0 (by omega) (by omega) (by omega)
  show laws_toIntS.f k xs = some xs
  unfold laws_toIntS.f
  rw [if_pos (by omega), Int.toNat_natCast, if_pos hb]
  simpa using h

abbrev St := S51
def inner (xs : List Int) (k j : Int) : Nat → Int → List St
  | 0, _ => []
  | d + 1, i => if wrap64 (rd xs i + rd xs j) = rd xs k then ⟨i, j⟩ :: inner xs k j d (i + 1) else inner xs k j d (i + 1)
def outer (xs : List Int) (k : Int) : Nat → Int → List St
  | 0, _ => []
  | d + 1, j => inner xs k j (j + 1).toNat 0 ++ outer xs k d (j + 1)
def sumsOf (xs : List Int) (k : Int) : List St := outer xs k k.toNat 0

theorem inner_length (xs : List Int) (k j : Int) : ∀ (d : Nat) (i : Int), (inner xs k j d i).length ≤ d
  | 0, _ => Nat.le_refl _
  | d + 1, i => by
    have := inner_length xs k j d (i + 1)
    unfold inner
    split
    · simp only [List.length_cons]; omega
    · omega

theorem spec_inner (xs : List Int) (k j : Int) (r : List St) (hj : 0 ≤ j) (hjk : j < k) (hk : k < xs.length) (hl : xs.length ≤ 100000) : ∀ (d : Nat) (i : Int) (acc : List St), 0 ≤ i → i + d = j + 1 → acc.length + d ≤ 8000000000000 →
    Ev (fun f => spec_chPairs.l0 f xs k (acc ++ inner xs k j d i) (j + 1)) r → Ev (fun f => spec_chPairs.l1 f xs k acc j i) r := by
  intro d
  induction d with
  | zero =>
    intro i acc hi hd _ h
    refine ev_shift ?_
    simp only [spec_chPairs.l1, if_neg (show ¬ i ≤ j by omega), w64 (show -9223372036854775808 ≤ j + 1 by omega) (by omega)]
    simpa [inner] using h
  | succ d ih =>
    intro i acc hi hd hacc h
    refine ev_shift ?_
    simp only [spec_chPairs.l1, if_pos (show i ≤ j by omega), if_pos hi, if_pos (show i < (xs.length : Int) by omega), if_pos hj, if_pos (show j < (xs.length : Int) by omega), if_pos (show 0 ≤ k by omega), if_pos hk,
      w64 (show -9223372036854775808 ≤ i + 1 by omega) (by omega)]
    by_cases c : wrap64 (rd xs i + rd xs j) = rd xs k
    · simp only [if_pos c, if_pos (show acc.length < 8796093022208 by omega)]
      refine ih (i + 1) (acc ++ [⟨i, j⟩]) (by omega) (by omega) (by simp only [List.length_append, List.length_singleton]; omega) ?_
      simpa [inner, c] using h
    · simp only [if_neg c]
      refine ih (i + 1) acc (by omega) (by omega) (by omega) ?_
      simpa [inner, c] using h

theorem spec_outer (xs : List Int) (k : Int) (hk : k < xs.length) (hl : xs.length ≤ 100000) : ∀ (d : Nat) (j : Int) (acc : List St), 0 ≤ j → j + d = k → acc.length + d * 100001 ≤ 8000000000000 →
    Ev (fun f => spec_chPairs.l0 f xs k acc j) (acc ++ outer xs k d j) := by
  intro d
  induction d with
  | zero =>
    intro j acc hj hd _
    refine ev_shift ?_
    simp only [spec_chPairs.l0, if_neg (show ¬ j < k by omega), outer, List.append_nil]
    exact Ev.now _
  | succ d ih =>
    intro j acc hj hd hacc
    refine ev_shift ?_
    simp only [spec_chPairs.l0, if_pos (show j < k by omega)]
    have hi := inner_length xs k j (j + 1).toNat 0
    refine spec_inner xs k j _ hj (by omega) hk hl (j + 1).toNat 0 acc (by omega) (by omega) (by omega) ?_
    have h := ih (j + 1) (acc ++ inner xs k j (j + 1).toNat 0) (by omega) (by omega) (by rw [List.length_append]; omega)
    simpa [outer] using h

theorem chPairs_ev (xs : List Int) (k : Int) (h0 : 0 ≤ k) (hk : k < xs.length) (hl : xs.length ≤ 100000) : Ev (fun f => spec_chPairs.f f xs k) (sumsOf xs k) := by
  have h := spec_outer xs k hk hl k.toNat 0 [] (by omega) (by omega) (by simp only [List.length_nil]; omega)
  simpa [sumsOf, spec_chPairs.f] using h

theorem impl_inner (xs : List Int) (k j : Int) (r : List St) (hj : 0 ≤ j) (hjk : j < k) (hk : k < xs.length) (hl : xs.length ≤ 100000) : ∀ (d : Nat) (i : Int) (acc : List St), 0 ≤ i → i + d = j + 1 → acc.length + d ≤ 8000000000000 →
    Ev (fun f => impl_sums.l0 f xs k (acc ++ inner xs k j d i) k (j + 1)) r → Ev (fun f => impl_sums.l1 f xs k acc j k j (j + 1) i) r := by
  intro d
  induction d with
  | zero =>
    intro i acc hi hd _ h
    refine ev_shift ?_
    simp only [impl_sums.l1, if_neg (show ¬ i < j + 1 by omega), w64 (show -9223372036854775808 ≤ j + 1 by omega) (by omega)]
    simpa [inner] using h
  | succ d ih =>
    intro i acc hi hd hacc h
    refine ev_shift ?_
    simp only [impl_sums.l1, if_pos (show i < j + 1 by omega), if_pos hi, if_pos (show i < (xs.length : Int) by omega), if_pos hj, if_pos (show j < (xs.length : Int) by omega), if_pos (show 0 ≤ k by omega), if_pos hk,
      w64 (show -9223372036854775808 ≤ i + 1 by omega) (by omega)]
    by_cases c : wrap64 (rd xs i + rd xs j) = rd xs k
    · simp only [if_pos c, if_pos (show acc.length < 8796093022208 by omega)]
      refine ih (i + 1) (acc ++ [⟨i, j⟩]) (by omega) (by omega) (by simp only [List.length_append, List.length_singleton]; omega) ?_
      simpa [inner, c] using h
    · simp only [if_neg c]
      refine ih (i + 1) acc (by omega) (by omega) (by omega) ?_
      simpa [inner, c] using h

theorem impl_outer (xs : List Int) (k : Int) (hk : k < xs.length) (hl : xs.length ≤ 100000) : ∀ (d : Nat) (j : Int) (acc : List St), 0 ≤ j → j + d = k → acc.length + d * 100001 ≤ 8000000000000 →
    Ev (fun f => impl_sums.l0 f xs k acc k j) (acc ++ outer xs k d j) := by
  intro d
  induction d with
  | zero =>
    intro j acc hj hd _
    refine ev_shift ?_
    simp only [impl_sums.l0, if_neg (show ¬ j < k by omega), outer, List.append_nil]
    exact Ev.now _
  | succ d ih =>
    intro j acc hj hd hacc
    refine ev_shift ?_
    simp only [impl_sums.l0, if_pos (show j < k by omega), w64 (show -9223372036854775808 ≤ j + 1 by omega) (by omega)]
    have hi := inner_length xs k j (j + 1).toNat 0
    refine impl_inner xs k j _ hj (by omega) hk hl (j + 1).toNat 0 acc (by omega) (by omega) (by omega) ?_
    have h := ih (j + 1) (acc ++ inner xs k j (j + 1).toNat 0) (by omega) (by omega) (by rw [List.length_append]; omega)
    simpa [outer] using h

theorem sums_ev (xs : List Int) (k : Int) (h0 : 0 ≤ k) (hk : k < xs.length) (hl : xs.length ≤ 100000) : Ev (fun f => impl_sums.f f xs k) (sumsOf xs k) := by
  have h := impl_outer xs k hk hl k.toNat 0 [] (by omega) (by omega) (by simp only [List.length_nil]; omega)
  simpa [sumsOf, impl_sums.f] using h

/-! the chain's test, in both ways -/
def risingFrom (xs : List Int) : Nat → Int → Bool
  | 0, _ => true
  | d + 1, i => if rd xs i ≥ 1 then (if rd xs i ≤ 1000000 then (if i > 0 then (if rd xs (i - 1) ≥ rd xs i then false else risingFrom xs d (i + 1)) else risingFrom xs d (i + 1)) else false) else false
def pairsFrom (xs : List Int) : Nat → Int → Bool
  | 0, _ => true
  | d + 1, k => if (sumsOf xs k).length = 0 then false else pairsFrom xs d (k + 1)
def implFrom (xs : List Int) : Nat → Int → Bool
  | 0, _ => true
  | d + 1, k => if rd xs k ≤ rd xs (k - 1) then false else if rd xs k > 1000000 then false else if (sumsOf xs k).length = 0 then false else implFrom xs d (k + 1)
/-- Is it a chain? -/
def chain (xs : List Int) : Bool := if 1 ≤ xs.length ∧ xs.length ≤ 41 then (if rd xs 0 = 1 then implFrom xs (xs.length - 1) 1 else false) else false

theorem from_same (xs : List Int) : ∀ (d : Nat) (i : Int), 1 ≤ i → 1 ≤ rd xs (i - 1) → (risingFrom xs d i && pairsFrom xs d i) = implFrom xs d i
  | 0, _, _, _ => rfl
  | d + 1, i, h1, h2 => by
    unfold risingFrom pairsFrom implFrom
    rw [if_pos (show i > 0 by omega)]
    by_cases c1 : rd xs i ≤ rd xs (i - 1)
    · rw [if_pos c1, if_pos (show rd xs (i - 1) ≥ rd xs i from c1)]
      split
      · split <;> rfl
      · rfl
    · rw [if_neg c1, if_neg (show ¬ rd xs (i - 1) ≥ rd xs i from c1), if_pos (show rd xs i ≥ 1 by omega)]
      by_cases c2 : rd xs i > 1000000
      · rw [if_pos c2, if_neg (by omega)]; rfl
      · rw [if_neg c2, if_pos (by omega)]
        by_cases c3 : (sumsOf xs i).length = 0
        · rw [if_pos c3, if_pos c3, Bool.and_false]
        · rw [if_neg c3, if_neg c3]
          have e : i + 1 - 1 = i := by omega
          exact from_same xs d (i + 1) (by omega) (by rw [e]; omega)

theorem l1In_eq (a b c : Int) : spec_l1In.f a b c = some (decide (b ≤ a) && decide (a ≤ c)) := by
  unfold spec_l1In.f
  by_cases h : a ≥ b
  · rw [if_pos h]; simp [show b ≤ a from h]
  · rw [if_neg h]; simp [show ¬ b ≤ a from h]
theorem in_eq (a b c : Int) : impl_in.f a b c = some (decide (b ≤ a) && decide (a ≤ c)) := by
  unfold impl_in.f
  by_cases h : a ≥ b
  · rw [if_pos h]; simp [show b ≤ a from h]
  · rw [if_neg h]; simp [show ¬ b ≤ a from h]

theorem rising_ev (xs : List Int) (hl : xs.length ≤ 100000) : ∀ (d : Nat) (i : Int), 0 ≤ i → i + d = xs.length → Ev (fun f => spec_l1Rising.l0 f xs 1 1000000 xs xs.length i) (risingFrom xs d i) := by
  intro d
  induction d with
  | zero =>
    intro i h0 hd
    refine ev_shift ?_
    simp only [spec_l1Rising.l0, if_neg (show ¬ i < (xs.length : Int) by omega), risingFrom]
    exact Ev.now _
  | succ d ih =>
    intro i h0 hd
    have hn := ih (i + 1) (by omega) (by omega)
    refine ev_shift ?_
    simp only [spec_l1Rising.l0, if_pos (show i < (xs.length : Int) by omega), if_pos h0, w64 (show -9223372036854775808 ≤ i + 1 by omega) (by omega), w64 (show -9223372036854775808 ≤ i - 1 by omega) (by omega), l1In_eq, Option.bind_some]
    unfold risingFrom
    by_cases c1 : rd xs i ≥ 1
    · by_cases c2 : rd xs i ≤ 1000000
      · rw [if_pos c1, if_pos c2]
        simp only [decide_eq_true (show 1 ≤ rd xs i from c1), decide_eq_true c2, Bool.and_self, if_true]
        by_cases c3 : i > 0
        · simp only [if_pos c3, if_pos (show 0 ≤ i - 1 by omega), if_pos (show i - 1 < (xs.length : Int) by omega)]
          by_cases c4 : rd xs (i - 1) ≥ rd xs i
          · simp only [if_pos c4]; exact Ev.now _
          · simp only [if_neg c4]; exact hn
        · simp only [if_neg c3]; exact hn
      · rw [if_pos c1, if_neg c2]
        simp only [decide_eq_false c2, Bool.and_false, Bool.false_eq_true, if_false]
        exact Ev.now _
    · rw [if_neg c1]
      simp only [decide_eq_false (show ¬ 1 ≤ rd xs i from c1), Bool.false_and, Bool.false_eq_true, if_false]
      exact Ev.now _

theorem pairs_ev (xs : List Int) (hl : xs.length ≤ 100000) : ∀ (d : Nat) (k : Int), 0 ≤ k → k + d = xs.length → Ev (fun f => spec_chGood.l0 f xs k) (pairsFrom xs d k) := by
  intro d
  induction d with
  | zero =>
    intro i h0 hd
    refine ev_shift ?_
    simp only [spec_chGood.l0, if_neg (show ¬ i < (xs.length : Int) by omega), pairsFrom]
    exact Ev.now _
  | succ d ih =>
    intro i h0 hd
    have hn := ih (i + 1) (by omega) (by omega)
    refine ev_shift ?_
    simp only [spec_chGood.l0, if_pos (show i < (xs.length : Int) by omega), w64 (show -9223372036854775808 ≤ i + 1 by omega) (by omega)]
    refine ev_bind (chPairs_ev xs i h0 (by omega) hl) ?_
    unfold pairsFrom
    by_cases c : (sumsOf xs i).length = 0
    · simp only [if_pos c, if_pos (show ((sumsOf xs i).length : Int) = 0 by omega)]; exact Ev.now _
    · simp only [if_neg c, if_neg (show ¬ ((sumsOf xs i).length : Int) = 0 by omega)]; exact hn

theorem implFrom_ev (xs : List Int) (hl : xs.length ≤ 100000) : ∀ (d : Nat) (k : Int), 1 ≤ k → k + d = xs.length → Ev (fun f => impl_IsChain.l0 f xs k) (implFrom xs d k) := by
  intro d
  induction d with
  | zero =>
    intro i h0 hd
    refine ev_shift ?_
    simp only [impl_IsChain.l0, if_neg (show ¬ i < (xs.length : Int) by omega), implFrom]
    exact Ev.now _
  | succ d ih =>
    intro i h0 hd
    have hn := ih (i + 1) (by omega) (by omega)
    refine ev_shift ?_
    simp only [impl_IsChain.l0, if_pos (show i < (xs.length : Int) by omega), if_pos (show 0 ≤ i by omega), w64 (show -9223372036854775808 ≤ i + 1 by omega) (by omega), w64 (show -9223372036854775808 ≤ i - 1 by omega) (by omega), if_pos (show 0 ≤ i - 1 by omega), if_pos (show i - 1 < (xs.length : Int) by omega)]
    unfold implFrom
    by_cases c1 : rd xs i ≤ rd xs (i - 1)
    · simp only [if_pos c1]; exact Ev.now _
    · simp only [if_neg c1]
      by_cases c2 : rd xs i > 1000000
      · simp only [if_pos c2]; exact Ev.now _
      · simp only [if_neg c2]
        refine ev_bind (sums_ev xs i (by omega) (by omega) hl) ?_
        by_cases c : (sumsOf xs i).length = 0
        · simp only [if_pos c, if_pos (show ((sumsOf xs i).length : Int) = 0 by omega)]; exact Ev.now _
        · simp only [if_neg c, if_neg (show ¬ ((sumsOf xs i).length : Int) = 0 by omega)]; exact hn

theorem isChain_ev (xs : List Int) (hl : xs.length ≤ 1048576) : Ev (fun f => impl_IsChain.f f xs) (chain xs) := by
  unfold impl_IsChain.f chain
  simp only [in_eq, Option.bind_some]
  by_cases c : 1 ≤ xs.length ∧ xs.length ≤ 41
  · simp only [if_pos c, decide_eq_true (show (1 : Int) ≤ xs.length by omega), decide_eq_true (show (xs.length : Int) ≤ 41 by omega), Bool.and_self, if_true, if_pos (show (0 : Int) < xs.length by omega)]
    by_cases c1 : rd xs 0 = 1
    · simp only [if_pos c1]
      refine ev_shift ?_
      simp only [impl_IsChain.j0, c1, bne_self_eq_false, Bool.false_eq_true, if_false]
      exact implFrom_ev xs (by omega) (xs.length - 1) 1 (by omega) (by omega)
    · simp only [if_neg c1]
      refine ev_shift ?_
      simp only [impl_IsChain.j0, bne_iff_ne.mpr c1, if_true]
      exact Ev.now _
  · rw [if_neg c]
    have e : (decide ((1 : Int) ≤ xs.length) && decide ((xs.length : Int) ≤ 41)) = false := by
      rw [Bool.and_eq_false_iff, decide_eq_false_iff_not, decide_eq_false_iff_not]; omega
    simp only [e, Bool.false_eq_true, if_false]
    refine ev_shift ?_
    simp only [impl_IsChain.j0, if_true]
    exact Ev.now _

theorem chGood_ev (xs : List Int) (hl : xs.length ≤ 1048576) : Ev (fun f => spec_chGood.f f xs) (chain xs) := by
  unfold spec_chGood.f chain
  simp only [l1In_eq, Option.bind_some]
  by_cases c : 1 ≤ xs.length ∧ xs.length ≤ 41
  · simp only [if_pos c, decide_eq_true (show (1 : Int) ≤ xs.length by omega), decide_eq_true (show (xs.length : Int) ≤ 41 by omega), Bool.and_self, if_true, if_pos (show (0 : Int) < xs.length by omega)]
    by_cases c1 : rd xs 0 = 1
    · simp only [if_pos c1]
      unfold spec_l1Rising.f
      refine ev_bind (rising_ev xs (by omega) xs.length 0 (by omega) (by omega)) ?_
      obtain ⟨n, hn⟩ : ∃ n, xs.length = n + 1 := ⟨xs.length - 1, by omega⟩
      have e1 : risingFrom xs xs.length 0 = risingFrom xs n 1 := by
        rw [hn, risingFrom, c1, if_pos (by decide), if_pos (by decide), if_neg (by decide)]
        rfl
      have e2 : xs.length - 1 = n := by omega
      rw [e1, e2, ← from_same xs n 1 (by omega) (by rw [show (1 : Int) - 1 = 0 from rfl, c1]; omega)]
      refine ev_shift ?_
      simp only [spec_chGood.j0]
      cases hr : risingFrom xs n 1 with
      | false =>
        simp only [Bool.not_false, if_true, Bool.false_and]
        exact Ev.now _
      | true =>
        simp only [Bool.not_true, Bool.false_eq_true, if_false, Bool.true_and]
        exact pairs_ev xs (by omega) n 1 (by omega) (by omega)
    · simp only [if_neg c1]
      refine ev_shift ?_
      simp only [spec_chGood.j0, if_true]
      exact Ev.now _
  · rw [if_neg c]
    have e : (decide ((1 : Int) ≤ xs.length) && decide ((xs.length : Int) ≤ 41)) = false := by
      rw [Bool.and_eq_false_iff, decide_eq_false_iff_not, decide_eq_false_iff_not]; omega
    simp only [e, Bool.false_eq_true, if_false]
    refine ev_shift ?_
    simp only [spec_chGood.j0, if_true]
    exact Ev.now _

theorem implFrom_head (xs : List Int) (d : Nat) (k : Int) (h : implFrom xs (d + 1) k = true) : (sumsOf xs k).length ≠ 0 ∧ implFrom xs d (k + 1) = true ∧ rd xs (k - 1) < rd xs k ∧ rd xs k ≤ 1000000 := by
  unfold implFrom at h
  split at h
  · cases h
  · split at h
    · cases h
    · split at h
      · cases h
      · rename_i a b c
        exact ⟨c, h, by omega, by omega⟩
theorem chain_from (xs : List Int) (h : chain xs = true) : 1 ≤ xs.length ∧ xs.length ≤ 41 ∧ rd xs 0 = 1 ∧ implFrom xs (xs.length - 1) 1 = true := by
  unfold chain at h
  split at h
  · rename_i c
    split at h
    · rename_i c1
      exact ⟨c.1, c.2, c1, h⟩
    · cases h
  · cases h

theorem from_mono (xs : List Int) : ∀ (d : Nat) (k : Nat), 1 ≤ k → implFrom xs d k = true → ∀ (a b : Nat), k - 1 ≤ a → a ≤ b → b < k + d → rd xs (a : Int) ≤ rd xs (b : Int)
  | 0, k, hk, _, a, b, h1, h2, h3 => by
    obtain rfl : a = b := by omega
    exact Int.le_refl _
  | d + 1, k, hk, h, a, b, h1, h2, h3 => by
    obtain ⟨_, p2, p3, _⟩ := implFrom_head xs d k h
    have ih := from_mono xs d (k + 1) (by omega) (by rw [show ((k + 1 : Nat) : Int) = (k : Int) + 1 by omega]; exact p2)
    rw [show (k : Int) - 1 = ((k - 1 : Nat) : Int) by omega] at p3
    by_cases c : a = k - 1
    · subst c
      by_cases e : b = k - 1
      · rw [e]; exact Int.le_refl _
      · have := ih k b (by omega) (by omega) (by omega)
        omega
    · exact ih a b (by omega) h2 (by omega)
/-- The numbers of a chain rise. -/
theorem chain_rises (xs : List Int) (h : chain xs = true) : ∀ a b : Nat, a ≤ b → b < xs.length → rd xs (a : Int) ≤ rd xs (b : Int) := by
  obtain ⟨h1, _, _, h4⟩ := chain_from xs h
  exact fun a b h2 h3 => from_mono xs (xs.length - 1) 1 (Nat.le_refl _) h4 a b (by omega) h2 (by omega)
theorem clone_eq (xs : List Int) (h : xs.length < 17592186044416) : slices_Clone_int_int.f xs = some xs := by
  unfold slices_Clone_int_int.f
  rw [if_pos h]

/-- a list, if it is a chain -/
def ifChain (xs : List Int) : List Int × Bool := if chain xs = true then (xs, true) else ([], false)
theorem ifChain_short (xs : List Int) : (ifChain xs).1.length ≤ 1000000 := by
  unfold ifChain
  split
  · rename_i c; have := (chain_from xs c).2.1; simp only; omega
  · simp
theorem chIf_ev (xs : List Int) (hl : xs.length ≤ 1048576) : Ev (fun f => spec_chIf.f f xs) (ifChain xs) := by
  unfold spec_chIf.f ifChain
  refine ev_bind (chGood_ev xs hl) ?_
  by_cases c : chain xs = true
  · simp only [c, if_true]; exact Ev.now _
  · simp only [if_neg c]; exact Ev.now _
theorem told_ev (xs : List Int) (hl : xs.length ≤ 1048576) : Ev (fun f => impl_toldChain.f f xs) (ifChain xs) := by
  unfold impl_toldChain.f ifChain
  refine ev_bind (isChain_ev xs hl) ?_
  by_cases c : chain xs = true
  · simp only [c, if_true]; exact Ev.now _
  · simp only [if_neg c]; exact Ev.now _

def hasFrom (ys : List Int) (x : Int) : Nat → Int → Bool
  | 0, _ => false
  | d + 1, i => if rd ys i = x then true else hasFrom ys x d (i + 1)
/-- Is x among them? -/
def has (ys : List Int) (x : Int) : Bool := hasFrom ys x ys.length 0
theorem hasFrom_at (ys : List Int) (x : Int) : ∀ (d : Nat) (i : Int), hasFrom ys x d i = true → ∃ j, i ≤ j ∧ j < i + d ∧ rd ys j = x
  | 0, _, h => by cases h
  | d + 1, i, h => by
    unfold hasFrom at h
    split at h
    · rename_i c; exact ⟨i, by omega, by omega, c⟩
    · obtain ⟨j, h1, h2, h3⟩ := hasFrom_at ys x d (i + 1) h
      exact ⟨j, by omega, by omega, h3⟩
theorem hasFrom_mk (ys : List Int) (x : Int) : ∀ (d : Nat) (i j : Int), i ≤ j → j < i + d → rd ys j = x → hasFrom ys x d i = true
  | 0, _, _, _, _, _ => by omega
  | d + 1, i, j, h1, h2, h3 => by
    unfold hasFrom
    split
    · rfl
    · rename_i c
      by_cases e : i = j
      · subst e; exact absurd h3 c
      · exact hasFrom_mk ys x d (i + 1) j (by omega) (by omega) h3
theorem has_iff (ys : List Int) (x : Int) : has ys x = true ↔ ∃ j : Int, 0 ≤ j ∧ j < ys.length ∧ rd ys j = x := by
  constructor
  · intro h
    obtain ⟨j, h1, h2, h3⟩ := hasFrom_at ys x ys.length 0 h
    exact ⟨j, h1, by omega, h3⟩
  · rintro ⟨j, h1, h2, h3⟩
    exact hasFrom_mk ys x ys.length 0 j h1 (by omega) h3
theorem rd_take (xs : List Int) (k j : Int) (h0 : 0 ≤ j) (h1 : j < k) : rd (xs.take k.toNat) j = rd xs j := by
  unfold rd
  simp only [List.getD_eq_getElem?_getD]
  rw [List.getElem?_take_of_lt (by omega)]

theorem l1Has_ev (ys : List Int) (x : Int) (hl : ys.length ≤ 100000000) : Ev (fun f => spec_l1Has.f f ys x) (has ys x) := by
  have loop : ∀ (d : Nat) (i : Int), 0 ≤ i → i + d = ys.length → Ev (fun f => spec_l1Has.l0 f x ys ys.length i) (hasFrom ys x d i) := by
    intro d
    induction d with
    | zero =>
      intro i h0 hd
      refine ev_shift ?_
      simp only [spec_l1Has.l0, if_neg (show ¬ i < (ys.length : Int) by omega), hasFrom]
      exact Ev.now _
    | succ d ih =>
      intro i h0 hd
      have hn := ih (i + 1) (by omega) (by omega)
      refine ev_shift ?_
      simp only [spec_l1Has.l0, if_pos (show i < (ys.length : Int) by omega), if_pos h0, w64 (show -9223372036854775808 ≤ i + 1 by omega) (by omega)]
      unfold hasFrom
      by_cases c : rd ys i = x
      · rw [if_pos c]; simp only [if_pos c]; exact Ev.now _
      · rw [if_neg c]; simp only [if_neg c]; exact hn
  exact loop ys.length 0 (by omega) (by omega)

/-! the place of a number in a list -/
def place (xs : List Int) (x : Int) : Nat → Nat → Nat
  | 0, i => i
  | d + 1, i => if rd xs (i : Int) < x then place xs x d (i + 1) else i
def putAt (xs : List Int) (x : Int) (k : Nat) : List Int := if k < xs.length ∧ rd xs (k : Int) = x then xs else xs.take k ++ x :: xs.drop k
/-- l1Put. -/
def put (xs : List Int) (x : Int) : List Int := putAt xs x (place xs x xs.length 0)
theorem place_le (xs : List Int) (x : Int) : ∀ (d i : Nat), place xs x d i ≤ i + d
  | 0, i => Nat.le_refl _
  | d + 1, i => by
    unfold place
    split
    · have := place_le xs x d (i + 1); omega
    · omega
theorem place_low (xs : List Int) (x : Int) : ∀ (d i m : Nat), i ≤ m → m < place xs x d i → rd xs (m : Int) < x
  | 0, i, m, h1, h2 => by unfold place at h2; omega
  | d + 1, i, m, h1, h2 => by
    unfold place at h2
    split at h2
    · rename_i c
      by_cases e : i = m
      · subst e; exact c
      · exact place_low xs x d (i + 1) m (by omega) h2
    · omega
theorem place_high (xs : List Int) (x : Int) : ∀ (d i : Nat), place xs x d i < i + d → ¬ rd xs (place xs x d i : Int) < x
  | 0, i, h => by unfold place at h; omega
  | d + 1, i, h => by
    unfold place at h ⊢
    split
    · rename_i c
      rw [if_pos c] at h
      exact place_high xs x d (i + 1) (by omega)
    · assumption
theorem place_eq (xs : List Int) (x : Int) (k : Nat) (hk : k ≤ xs.length) (h1 : ∀ m : Nat, m < k → rd xs (m : Int) < x) (h2 : k < xs.length → ¬ rd xs (k : Int) < x) : place xs x xs.length 0 = k := by
  have a := place_le xs x xs.length 0
  rcases Nat.lt_trichotomy (place xs x xs.length 0) k with c | c | c
  · exact absurd (h1 _ c) (place_high xs x xs.length 0 (by omega))
  · exact c
  · exact absurd (place_low xs x xs.length 0 k (by omega) c) (h2 (by omega))
theorem l1Put_ev (xs : List Int) (x : Int) (hl : xs.length ≤ 100000000) : Ev (fun f => spec_l1Put.f f xs x) (put xs x) := by
  have loop : ∀ (d i : Nat), i + d = xs.length → Ev (fun f => spec_l1Put.l0 f xs x i) (putAt xs x (place xs x d i)) := by
    intro d
    induction d with
    | zero =>
      intro i hd
      refine ev_shift ?_
      have l1 : ([] ++ xs.take i : List Int).length ≤ 100000000 := by simp only [List.nil_append, List.length_take]; omega
      have l2 : (([] ++ xs.take i : List Int) ++ [x]).length ≤ 100000001 := by rw [List.length_append, List.length_singleton]; omega
      simp only [spec_l1Put.l0, if_neg (show ¬ (i : Int) < (xs.length : Int) by omega), Option.bind_some, if_pos (show (0 : Int) ≤ (i : Int) by omega), if_pos (show (i : Int) ≤ (xs.length : Int) by omega), Int.toNat_natCast, if_pos (show ([] : List Int).length + (xs.take i).length < 17592186044416 by rw [List.length_take]; simp only [List.length_nil]; omega), if_pos (show ([] ++ xs.take i : List Int).length < 17592186044416 by omega), if_pos (show (([] ++ xs.take i : List Int) ++ [x]).length + (xs.drop i).length < 17592186044416 by rw [List.length_drop]; omega)]
      unfold place putAt
      rw [if_neg (by omega), List.nil_append, List.append_assoc]
      exact Ev.now _
    | succ d ih =>
      intro i hd
      have ih1 := ih (i + 1) (by omega)
      unfold place
      by_cases c : rd xs (i : Int) < x
      · rw [if_pos c]
        refine ev_shift ?_
        simp only [spec_l1Put.l0, if_pos (show (i : Int) < (xs.length : Int) by omega), if_pos (show (0 : Int) ≤ (i : Int) by omega), if_pos c, w64 (show -9223372036854775808 ≤ (i : Int) + 1 by omega) (by omega)]
        exact ih1
      · rw [if_neg c]
        by_cases e : rd xs (i : Int) = x
        · refine ev_shift ?_
          simp only [spec_l1Put.l0, if_pos (show (i : Int) < (xs.length : Int) by omega), if_pos (show (0 : Int) ≤ (i : Int) by omega), if_neg c, if_pos e]
          unfold putAt
          rw [if_pos ⟨by omega, e⟩]
          exact Ev.now _
        · refine ev_shift ?_
          have l1 : ([] ++ xs.take i : List Int).length ≤ 100000000 := by simp only [List.nil_append, List.length_take]; omega
          have l2 : (([] ++ xs.take i : List Int) ++ [x]).length ≤ 100000001 := by rw [List.length_append, List.length_singleton]; omega
          simp only [spec_l1Put.l0, if_pos (show (i : Int) < (xs.length : Int) by omega), if_neg c, if_neg e, Option.bind_some, if_pos (show (0 : Int) ≤ (i : Int) by omega), if_pos (show (i : Int) ≤ (xs.length : Int) by omega), Int.toNat_natCast, if_pos (show ([] : List Int).length + (xs.take i).length < 17592186044416 by rw [List.length_take]; simp only [List.length_nil]; omega), if_pos (show ([] ++ xs.take i : List Int).length < 17592186044416 by omega), if_pos (show (([] ++ xs.take i : List Int) ++ [x]).length + (xs.drop i).length < 17592186044416 by rw [List.length_drop]; omega)]
          unfold putAt
          rw [if_neg (fun h => e h.2), List.nil_append, List.append_assoc]
          exact Ev.now _
  exact loop xs.length 0 (by omega)
theorem put_length (xs : List Int) (x : Int) : (put xs x).length ≤ xs.length + 1 := by
  unfold put putAt
  split
  · omega
  · rw [List.length_append, List.length_cons, List.length_take, List.length_drop]; omega
/-! slices.BinarySearch: it ends at whatever list; at one that rises it gives the place -/
def found (xs : List Int) (x : Int) (k : Nat) : Bool := decide (k < xs.length ∧ rd xs (k : Int) = x)
theorem bins_loop (xs : List Int) (x : Int) (hl : xs.length ≤ 100000000) : ∀ (d i j : Nat), i ≤ j → j ≤ xs.length → j - i ≤ d →
    ∃ m : Nat, i ≤ m ∧ m ≤ j ∧ Ev (fun f => slices_BinarySearch_int_int.l0 f xs x xs.length i j) ((m : Int), found xs x m) ∧
      ((∀ a b : Nat, a ≤ b → b < xs.length → rd xs (a : Int) ≤ rd xs (b : Int)) → (∀ a : Nat, a < i → rd xs (a : Int) < x) → (j < xs.length → ¬ rd xs (j : Int) < x) → (∀ a : Nat, a < m → rd xs (a : Int) < x) ∧ (m < xs.length → ¬ rd xs (m : Int) < x))
  | d, i, j, hij, hj, hd => by
    by_cases c : i < j
    · obtain ⟨d', rfl⟩ : ∃ d', d = d' + 1 := ⟨d - 1, by omega⟩
      have hw : IntKind.u64.wrap (wrap64 ((i : Int) + (j : Int))) = (i : Int) + (j : Int) := by
        rw [w64 (by omega) (by omega), IntKind.wrap_u64]; omega
      have hh : wrap64 (((i : Int) + (j : Int)) / 2) = (((i + j) / 2 : Nat) : Int) := by rw [w64 (by omega) (by omega)]; omega
      obtain ⟨h, eh⟩ : ∃ h, h = (i + j) / 2 := ⟨_, rfl⟩
      rw [← eh] at hh
      have hi1 : i ≤ h := by omega
      have hj1 : h < j := by omega
      have less : cmp_Less_int.f (rd xs (h : Int)) x = some (decide (rd xs (h : Int) < x)) := by
        unfold cmp_Less_int.f cmp_isNaN_int.f
        simp
      by_cases cl : rd xs (h : Int) < x
      · obtain ⟨m, m1, m2, m3, m4⟩ := bins_loop xs x hl d' (h + 1) j (by omega) hj (by omega)
        refine ⟨m, by omega, m2, ev_shift ?_, fun hs ha hb => m4 hs (fun a ha' => ?_) hb⟩
        · simp only [slices_BinarySearch_int_int.l0, if_pos (show (i : Int) < (j : Int) by omega), hw, hh, if_pos (show (0 : Int) ≤ (h : Int) by omega), if_pos (show (h : Int) < (xs.length : Int) by omega), less, Option.bind_some, decide_eq_true cl, if_true, w64 (show -9223372036854775808 ≤ (h : Int) + 1 by omega) (by omega)]
          exact m3
        · have := hs a h (by omega) (by omega)
          omega
      · obtain ⟨m, m1, m2, m3, m4⟩ := bins_loop xs x hl d' i h (by omega) (by omega) (by omega)
        refine ⟨m, m1, by omega, ev_shift ?_, fun hs ha hb => m4 hs ha (fun _ => cl)⟩
        simp only [slices_BinarySearch_int_int.l0, if_pos (show (i : Int) < (j : Int) by omega), hw, hh, if_pos (show (0 : Int) ≤ (h : Int) by omega), if_pos (show (h : Int) < (xs.length : Int) by omega), less, Option.bind_some, decide_eq_false cl, Bool.false_eq_true, if_false]
        exact m3
    · obtain rfl : i = j := by omega
      refine ⟨i, Nat.le_refl _, Nat.le_refl _, ev_shift ?_, fun _ ha hb => ⟨ha, hb⟩⟩
      unfold found
      simp only [slices_BinarySearch_int_int.l0, if_neg (show ¬ (i : Int) < (i : Int) by omega)]
      by_cases cn : (i : Int) < (xs.length : Int)
      · simp only [if_pos cn, if_pos (show (0 : Int) ≤ (i : Int) by omega)]
        by_cases e : rd xs (i : Int) = x
        · simp only [if_pos e]
          rw [decide_eq_true ⟨by omega, e⟩]
          exact Ev.now _
        · have z : (rd xs (i : Int) != rd xs (i : Int)) = false := by simp
          simp only [if_neg e, slices_isNaN_int.f, z, Option.bind_some, Bool.false_eq_true, if_false]
          rw [decide_eq_false (fun h => e h.2)]
          exact Ev.now _
      · simp only [if_neg cn]
        rw [decide_eq_false (fun h => cn (by omega))]
        exact Ev.now _
theorem bins_any (xs : List Int) (x : Int) (hl : xs.length ≤ 100000000) : ∃ m : Nat, m ≤ xs.length ∧ Ev (fun f => slices_BinarySearch_int_int.f f xs x) ((m : Int), found xs x m) ∧ ((∀ a b : Nat, a ≤ b → b < xs.length → rd xs (a : Int) ≤ rd xs (b : Int)) → place xs x xs.length 0 = m) := by
  obtain ⟨m, _, m2, m3, m4⟩ := bins_loop xs x hl xs.length 0 xs.length (Nat.zero_le _) (Nat.le_refl _) (by omega)
  exact ⟨m, m2, m3, fun hs => by obtain ⟨a, b⟩ := m4 hs (fun a h => absurd h (Nat.not_lt_zero _)) (fun h => absurd h (Nat.lt_irrefl _)); exact place_eq xs x m m2 a b⟩
/-- Is it there? In a list that rises: just where its place is. -/
theorem found_has (xs : List Int) (x : Int) (hs : ∀ a b : Nat, a ≤ b → b < xs.length → rd xs (a : Int) ≤ rd xs (b : Int)) : found xs x (place xs x xs.length 0) = has xs x := by
  unfold found
  rw [Bool.eq_iff_iff, decide_eq_true_iff, has_iff]
  have a := place_le xs x xs.length 0
  constructor
  · rintro ⟨h1, h2⟩; exact ⟨_, by omega, by omega, h2⟩
  · rintro ⟨j, j0, j1, j2⟩
    obtain ⟨j, rfl⟩ := Int.eq_ofNat_of_zero_le j0
    have h1 : place xs x xs.length 0 ≤ j := by
      rcases Nat.lt_or_ge j (place xs x xs.length 0) with c | c
      · have := place_low xs x xs.length 0 j (Nat.zero_le _) c; omega
      · exact c
    have h2 := hs _ _ h1 (by omega)
    have h3 := place_high xs x xs.length 0 (by omega)
    exact ⟨by omega, by omega⟩
/-- A list that is too long: the law answers true at once. -/
theorem over_ (xs : List Int) (n : Int) (hl : ¬ xs.length ≤ 1048576) : Ev (fun k => laws_FnExactInsertNumber.f k xs n) true := by
  have big : (xs.length : Int) > 1048576 := by omega
  unfold laws_FnExactInsertNumber.f
  simp only [if_pos big]
  exact Ev.now _

/-- The law's tail where the argument is a slice: both sides answer (w, b): the law holds. -/
theorem tail_ (xs : List Int) (n : Int) (hl : xs.length ≤ 1048576) (w : List Int) (b : Bool) (hw : w.length ≤ 1000000) (hs : Ev (fun k => spec_InsertNumber.f k xs n) (w, b)) (hi : Ev (fun k => impl_InsertNumber.f k xs n) (w, b)) : Ev (fun k => laws_FnExactInsertNumber.f k xs n) true := by
  have ht := toIntS_ev xs (by omega)
  have hm := markIntS_ev w 1 (by omega) (by omega)
  have hmx := markIntS_ev xs 1 (by omega) (by omega)
  have hh := heldIntS_ev w.length 1 (by omega) (by omega)
  have he := eqIntS_same w (by omega)
  have hex := eqIntS_same xs (by omega)
  have e0 : (b != b) = false := by cases b <;> rfl
  have n0 : ¬ (1 + (w.length : Int) < 0) := by omega
  have nx : ¬ (1 + (xs.length : Int) < 0) := by omega
  have j2 : Ev (fun k => laws_FnExactInsertNumber.j2 k (marked w.length 1) (1 + w.length) false) true := by
    refine ev_shift ?_
    simp only [laws_FnExactInsertNumber.j2, Bool.false_eq_true, if_false]
    refine ev_bind hh ?_
    simp only [if_neg n0, if_true]
    exact Ev.now _
  have j1 : Ev (fun k => laws_FnExactInsertNumber.j1 k xs n w b w false) true := by
    refine ev_shift ?_
    simp only [laws_FnExactInsertNumber.j1, Bool.false_eq_true, if_false]
    refine ev_bind hm ?_
    refine ev_bind hh ?_
    simp only [if_neg n0, if_true]
    refine ev_bind ht ?_
    refine ev_bind hi ?_
    refine ev_bind he ?_
    simp only [if_true, e0]
    exact j2
  have j0 : Ev (fun k => laws_FnExactInsertNumber.j0 k xs n w b xs w b false) true := by
    refine ev_shift ?_
    simp only [laws_FnExactInsertNumber.j0, Bool.false_eq_true, if_false]
    refine ev_bind ht ?_
    refine ev_bind hex ?_
    simp only [if_true]
    refine ev_bind hmx ?_
    simp only [if_neg nx]
    refine ev_bind he ?_
    simp only [if_true, e0]
    exact j1
  have big : ¬ ((xs.length : Int) > 1048576) := by omega
  unfold laws_FnExactInsertNumber.f
  simp only [if_neg big]
  refine ev_bind ht ?_
  refine ev_bind hs ?_
  refine ev_bind ht ?_
  refine ev_bind hi ?_
  refine ev_bind he ?_
  simp only [if_true, e0]
  exact j0

def answer (xs : List Int) (n : Int) : List Int × Bool := if chain xs = true ∧ (1 ≤ n ∧ n ≤ 1000000) ∧ has xs n = false then ifChain (put xs n) else ([], false)
theorem answer_short (xs : List Int) (n : Int) : (answer xs n).1.length ≤ 1000000 := by
  unfold answer
  split
  · exact ifChain_short _
  · simp
theorem num_eq (n : Int) : spec_chNumber.f n = some (decide (1 ≤ n) && decide (n ≤ 1000000)) := by unfold spec_chNumber.f; rw [l1In_eq]; rfl
theorem isNum_eq (n : Int) : impl_isNumber.f n = some (decide (1 ≤ n) && decide (n ≤ 1000000)) := by unfold impl_isNumber.f; rw [in_eq]; rfl

theorem spec_ev (xs : List Int) (n : Int) (hl : xs.length ≤ 1048576) : Ev (fun f => spec_InsertNumber.f f xs n) (answer xs n) := by
  unfold spec_InsertNumber.f answer
  refine ev_bind (chGood_ev xs hl) ?_
  simp only [num_eq, Option.bind_some]
  have fin : Ev (fun f => spec_InsertNumber.j0 f xs n true) (([], false) : List Int × Bool) := by
    refine ev_shift ?_
    simp only [spec_InsertNumber.j0, if_true]
    exact Ev.now _
  by_cases c : chain xs = true
  · simp only [c, if_true]
    by_cases c2 : 1 ≤ n ∧ n ≤ 1000000
    · simp only [decide_eq_true c2.1, decide_eq_true c2.2, Bool.and_self, if_true]
      refine ev_bind (l1Has_ev xs n (by omega)) ?_
      cases e : has xs n with
      | true => rw [if_neg (fun h => by simp at h)]; exact fin
      | false =>
        rw [if_pos ⟨trivial, c2, rfl⟩]
        refine ev_shift ?_
        simp only [spec_InsertNumber.j0, Bool.false_eq_true, if_false]
        refine ev_bind (l1Put_ev xs n (by omega)) ?_
        exact ev_bind (chIf_ev _ (by have := put_length xs n; have := (chain_from xs c).2.1; omega)) (Ev.now _)
    · rw [if_neg (fun h => c2 h.2.1)]
      have e : (decide (1 ≤ n) && decide (n ≤ 1000000)) = false := by rw [Bool.and_eq_false_iff, decide_eq_false_iff_not, decide_eq_false_iff_not]; omega
      simp only [e, Bool.false_eq_true, if_false]
      exact fin
  · rw [if_neg (fun h => c h.1)]
    simp only [if_neg c]
    exact fin

theorem impl_ev (xs : List Int) (n : Int) (hl : xs.length ≤ 1048576) : Ev (fun f => impl_InsertNumber.f f xs n) (answer xs n) := by
  unfold impl_InsertNumber.f answer
  obtain ⟨m, m1, m2, m3⟩ := bins_any xs n (by omega)
  refine ev_bind m2 ?_
  refine ev_bind (isChain_ev xs hl) ?_
  simp only [isNum_eq, Option.bind_some]
  by_cases c : chain xs = true
  · have cf := chain_from xs c
    have rise := chain_rises xs c
    have e := m3 rise
    have fh := found_has xs n rise
    rw [e] at fh
    simp only [c, if_true, fh]
    by_cases c2 : 1 ≤ n ∧ n ≤ 1000000
    · simp only [decide_eq_true c2.1, decide_eq_true c2.2, Bool.and_self, if_true]
      cases eh : has xs n with
      | true => rw [if_neg (fun h => by simp at h)]; simp only [if_true]; exact Ev.now _
      | false =>
        rw [if_pos ⟨trivial, c2, rfl⟩]
        simp only [Bool.false_eq_true, if_false, impl_InsertNumber.j, if_pos (show 0 < xs.length by omega), if_pos (show xs.length ≤ 1000000 by omega), if_pos (show (0 : Int) ≤ (m : Int) by omega), if_pos (show (m : Int) ≤ (xs.length : Int) by omega), Int.toNat_natCast]
        have ep : xs.take m ++ n :: xs.drop m = put xs n := by
          unfold put putAt
          rw [e, if_neg]
          intro h
          rw [eh] at fh
          unfold found at fh
          rw [decide_eq_true h] at fh
          cases fh
        rw [ep]
        exact told_ev _ (by have := put_length xs n; omega)
    · rw [if_neg (fun h => c2 h.2.1)]
      have e : (decide (1 ≤ n) && decide (n ≤ 1000000)) = false := by rw [Bool.and_eq_false_iff, decide_eq_false_iff_not, decide_eq_false_iff_not]; omega
      simp only [e, Bool.false_eq_true, if_false]
      exact Ev.now _
  · rw [if_neg (fun h => c h.1)]
    simp only [if_neg c]
    exact Ev.now _

theorem FnExactInsertNumber : laws_FnExactInsertNumber.Pure := by
  intro xs n _ _ _ _
  by_cases hl : xs.length ≤ 1048576
  · exact (tail_ xs n hl (answer xs n).1 (answer xs n).2 (answer_short xs n) (spec_ev xs n hl) (impl_ev xs n hl)).rounds
  · exact (over_ xs n hl).rounds

end Go.Proofs.Ytailgfeffoimaaa.Pure
