/- For every list: ChainPlan of the program answers as the reference does, and shares no memory. -/
import Derived.Test.YtopkiccdfmjjjaaMFnExactChainPlanx8
namespace Go.Proofs.Ytopkiccdfmjjjaa.Pure
open Go.RowKit Go.Proofs.Ytopkiccdfmjjjaa.MFnExactChainPlan Go.Proofs.YtopkiccdfmjjjaaW.PrintWords Go.Proofs.YtopkiccdfmjjjaaW.PrintLast Go.Proofs.YtopkiccdfmjjjaaW.PrintMore
open Go.Proofs.YtopkiccdfmjjjaaH

theorem w64 {x : Int} (h1 : -9223372036854775808 ≤ x) (h2 : x ≤ 9223372036854775807) : wrap64 x = x := by unfold wrap64; omega

theorem rd_nat (xs : List Int) (j : Nat) : rd xs (j : Int) = xs.getD j 0 := by unfold rd; rw [Int.toNat_natCast]

theorem ev_shift {α : Type} {g : Nat → Option α} {r : α} (h : Ev (fun k => g (k + 1)) r) : Ev g r := by
  obtain ⟨K, hK⟩ := h
  refine ⟨K + 1, fun k hk => ?_⟩
  obtain ⟨m, rfl⟩ : ∃ m, k = m + 1 := ⟨k - 1, by omega⟩
  exact hK m (by omega)

theorem ev_bind {α β : Type} {g : Nat → Option α} {F : Nat → α → Option β} {a : α} {r : β} (h : Ev g a) (k : Ev (fun n => F n a) r) : Ev (fun n => (g n).bind (fun x => F n x)) r := Ev.bind h k

theorem ev_some {α : Type} {g : Nat → Option α} {r : α} (h : ∀ k, g k = some r) : Ev g r := ⟨0, fun k _ => h k⟩

theorem eqIntS_same (xs : List Int) (hb : xs.length ≤ 4611686018427387904) : Ev (fun k => laws_eqIntS.f k xs xs) true := by
  have loop : ∀ (d k : Nat) (i : Int), 0 ≤ i → i ≤ xs.length → (xs.length : Int) - i = d → d < k → laws_eqIntS.l0 k xs xs i = some true := by
    intro d
    induction d with
    | zero =>
      intro k i h0 h1 hd hk
      obtain ⟨k, rfl⟩ : ∃ m, k = m + 1 := ⟨k - 1, by omega⟩
      rw [laws_eqIntS.l0, if_neg (by omega)]
    | succ d ih =>
      intro k i h0 h1 hd hk
      obtain ⟨k, rfl⟩ : ∃ m, k = m + 1 := ⟨k - 1, by omega⟩
      rw [laws_eqIntS.l0, if_pos (by omega), if_pos h0, if_pos (by omega), if_pos rfl, w64 (by omega) (by omega)]
      exact ih k (i + 1) (by omega) (by omega) (by omega) (by omega)
  refine ⟨xs.length + 1, fun k hk => ?_⟩
  show laws_eqIntS.f k xs xs = some true
  unfold laws_eqIntS.f
  rw [if_pos rfl]
  exact loop xs.length k 0 (by omega) (by omega) (by omega) (by omega)

def marked (n : Nat) (a : Int) : List Int := (List.range n).map (fun j : Nat => a + (j : Int))
theorem marked_length (n : Nat) (a : Int) : (marked n a).length = n := by simp [marked]
theorem marked_succ (n : Nat) (a : Int) : marked (n + 1) a = marked n a ++ [a + n] := by simp [marked, List.range_succ]
theorem marked_get (n : Nat) (a : Int) (j : Nat) (h : j < n) : (marked n a).getD j 0 = a + j := by simp [marked, List.getD, h]

theorem marked_step (xs : List Int) (a : Int) (i : Nat) (h : i < xs.length) : (marked i a ++ xs.drop i).set i (a + i) = marked (i + 1) a ++ xs.drop (i + 1) := by
  rw [List.set_append_right _ _ (by rw [marked_length]; exact Nat.le_refl _), marked_length, Nat.sub_self, List.drop_eq_getElem_cons h, List.set_cons_zero, marked_succ]
  simp

theorem markIntS_ev (xs : List Int) (a : Int) (h0 : 0 ≤ a) (ha : a + xs.length ≤ 4611686018427387904) : Ev (fun k => laws_markIntS.f k xs a) (a + xs.length, marked xs.length a) := by
  have loop : ∀ (d k i : Nat), i ≤ xs.length → xs.length - i = d → d < k → laws_markIntS.l0 k (marked i a ++ xs.drop i) (a + i) i = some (a + xs.length, marked xs.length a) := by
    intro d
    induction d with
    | zero =>
      intro k i h1 hd hk
      obtain ⟨k, rfl⟩ : ∃ m, k = m + 1 := ⟨k - 1, by omega⟩
      obtain rfl : i = xs.length := by omega
      have hl : (marked xs.length a ++ xs.drop xs.length).length = xs.length := by simp [marked_length]
      rw [laws_markIntS.l0, hl, if_neg (by omega)]
      simp
    | succ d ih =>
      intro k i h1 hd hk
      obtain ⟨k, rfl⟩ : ∃ m, k = m + 1 := ⟨k - 1, by omega⟩
      have hl : (marked i a ++ xs.drop i).length = xs.length := by simp [marked_length]; omega
      rw [laws_markIntS.l0, hl, if_pos (by omega), if_pos (by omega), Int.toNat_natCast, marked_step xs a i (by omega), w64 (by omega) (by omega), w64 (by omega) (by omega)]
      have e : a + (i : Int) + 1 = a + ((i + 1 : Nat) : Int) := by omega
      rw [e]
      exact ih k (i + 1) (by omega) (by omega) (by omega)
  refine ⟨xs.length + 1, fun k hk => ?_⟩
  have h := loop xs.length k 0 (by omega) (by omega) (by omega)
  simpa [marked, laws_markIntS.f] using h

theorem heldIntS_ev (n : Nat) (a : Int) (h0 : 0 ≤ a) (ha : a + n ≤ 4611686018427387904) : Ev (fun k => laws_heldIntS.f k (marked n a) a) (a + n) := by
  have loop : ∀ (d k i : Nat), i ≤ n → n - i = d → d < k → laws_heldIntS.l0 k (marked n a) (a + i) i = some (a + n) := by
    intro d
    induction d with
    | zero =>
      intro k i h1 hd hk
      obtain ⟨k, rfl⟩ : ∃ m, k = m + 1 := ⟨k - 1, by omega⟩
      obtain rfl : i = n := by omega
      rw [laws_heldIntS.l0, marked_length, if_neg (by omega)]
    | succ d ih =>
      intro k i h1 hd hk
      obtain ⟨k, rfl⟩ : ∃ m, k = m + 1 := ⟨k - 1, by omega⟩
      rw [laws_heldIntS.l0, marked_length, if_pos (by omega), if_pos (by omega), rd_nat, marked_get n a i (by omega), if_pos rfl, w64 (by omega) (by omega), w64 (by omega) (by omega)]
      have e : a + (i : Int) + 1 = a + ((i + 1 : Nat) : Int) := by omega
      rw [e]
      exact ih k (i + 1) (by omega) (by omega) (by omega)
  refine ⟨n + 1, fun k hk => ?_⟩
  have h := loop n k 0 (by omega) (by omega) (by omega)
  simpa [laws_heldIntS.f] using h

theorem toIntS_step (xs : List Int) (i : Nat) (h : i < xs.length) : (xs.take i ++ List.replicate (xs.length - i) 0).set i (xs.getD i 0) = xs.take (i + 1) ++ List.replicate (xs.length - (i + 1)) 0 := by
  have hl : (xs.take i).length = i := by simp; omega
  rw [List.set_append_right _ _ (by omega), hl, Nat.sub_self]
  obtain ⟨m, hm⟩ : ∃ m, xs.length - i = m + 1 := ⟨xs.length - i - 1, by omega⟩
  have hm2 : xs.length - (i + 1) = m := by omega
  have e : xs.getD i 0 = xs[i] := by simp [List.getD, h]
  rw [hm, hm2, List.replicate_succ, List.set_cons_zero, e, List.take_succ_eq_append_getElem h, List.append_assoc]
  rfl

theorem toIntS_ev (xs : List Int) (hb : xs.length ≤ 35184372088832) : Ev (fun k => laws_toIntS.f k xs) xs := by
  have loop : ∀ (d k i : Nat), i ≤ xs.length → xs.length - i = d → d < k → laws_toIntS.l0 k xs (xs.take i ++ List.replicate (xs.length - i) 0) i = some xs := by
    intro d
    induction d with
    | zero =>
      intro k i h1 hd hk
      obtain ⟨k, rfl⟩ : ∃ m, k = m + 1 := ⟨k - 1, by omega⟩
      obtain rfl : i = xs.length := by omega
      rw [laws_toIntS.l0, if_neg (by omega)]
      simp
    | succ d ih =>
      intro k i h1 hd hk
      obtain ⟨k, rfl⟩ : ∃ m, k = m + 1 := ⟨k - 1, by omega⟩
      have hl : (xs.take i ++ List.replicate (xs.length - i) 0).length = xs.length := by simp; omega
      rw [laws_toIntS.l0, if_pos (by omega), if_pos (by omega), hl, if_pos (by omega), Int.toNat_natCast, rd_nat, toIntS_step xs i (by omega), w64 (by omega) (by omega)]
      exact ih k (i + 1) (by omega) (by omega) (by omega)
  refine ⟨xs.length + 1, fun k hk => ?_⟩
  have h := loop xs.length k 0 (by omega) (by omega) (by omega)
  show laws_toIntS.f k xs = some xs
  unfold laws_toIntS.f
  rw [if_pos (by omega), Int.toNat_natCast, if_pos hb]
  simpa using h

abbrev St := S69
def inner (xs : List Int) (k j : Int) : Nat → Int → List St
  | 0, _ => []
  | d + 1, i => if wrap64 (rd xs i + rd xs j) = rd xs k then ⟨i, j⟩ :: inner xs k j d (i + 1) else inner xs k j d (i + 1)
def outer (xs : List Int) (k : Int) : Nat → Int → List St
  | 0, _ => []
  | d + 1, j => inner xs k j (j + 1).toNat 0 ++ outer xs k d (j + 1)
def sumsOf (xs : List Int) (k : Int) : List St := outer xs k k.toNat 0

theorem inner_length (xs : List Int) (k j : Int) : ∀ (d : Nat) (i : Int), (inner xs k j d i).length ≤ d
  | 0, _ => Nat.le_refl _
  | d + 1, i => by
    have := inner_length xs k j d (i + 1)
    unfold inner
    split
    · simp only [List.length_cons]; omega
    · omega

theorem spec_inner (xs : List Int) (k j : Int) (r : List St) (hj : 0 ≤ j) (hjk : j < k) (hk : k < xs.length) (hl : xs.length ≤ 100000) : ∀ (d : Nat) (i : Int) (acc : List St), 0 ≤ i → i + d = j + 1 → acc.length + d ≤ 8000000000000 →
    Ev (fun f => spec_chPairs.l0 f xs k (acc ++ inner xs k j d i) (j + 1)) r → Ev (fun f => spec_chPairs.l1 f xs k acc j i) r := by
  intro d
  induction d with
  | zero =>
    intro i acc hi hd _ h
    refine ev_shift ?_
    simp only [spec_chPairs.l1, if_neg (show ¬ i ≤ j by omega), w64 (show -9223372036854775808 ≤ j + 1 by omega) (by omega)]
    simpa [inner] using h
  | succ d ih =>
    intro i acc hi hd hacc h
    refine ev_shift ?_
    simp only [spec_chPairs.l1, if_pos (show i ≤ j by omega), if_pos hi, if_pos (show i < (xs.length : Int) by omega), if_pos hj, if_pos (show j < (xs.length : Int) by omega), if_pos (show 0 ≤ k by omega), if_pos hk,
      w64 (show -9223372036854775808 ≤ i + 1 by omega) (by omega)]
    by_cases c : wrap64 (rd xs i + rd xs j) = rd xs k
    · simp only [if_pos c, if_pos (show acc.length < 8796093022208 by omega)]
      refine ih (i + 1) (acc ++ [⟨i, j⟩]) (by omega) (by omega) (by simp only [List.length_append, List.length_singleton]; omega) ?_
      simpa [inner, c] using h
    · simp only [if_neg c]
      refine ih (i + 1) acc (by omega) (by omega) (by omega) ?_
      simpa [inner, c] using h

theorem spec_outer (xs : List Int) (k : Int) (hk : k < xs.length) (hl : xs.length ≤ 100000) : ∀ (d : Nat) (j : Int) (acc : List St), 0 ≤ j → j + d = k → acc.length + d * 100001 ≤ 8000000000000 →
    Ev (fun f => spec_chPairs.l0 f xs k acc j) (acc ++ outer xs k d j) := by
  intro d
  induction d with
  | zero =>
    intro j acc hj hd _
    refine ev_shift ?_
    simp only [spec_chPairs.l0, if_neg (show ¬ j < k by omega), outer, List.append_nil]
    exact Ev.now _
  | succ d ih =>
    intro j acc hj hd hacc
    refine ev_shift ?_
    simp only [spec_chPairs.l0, if_pos (show j < k by omega)]
    have hi := inner_length xs k j (j + 1).toNat 0
    refine spec_inner xs k j _ hj (by omega) hk hl (j + 1).toNat 0 acc (by omega) (by omega) (by omega) ?_
    have h := ih (j + 1) (acc ++ inner xs k j (j + 1).toNat 0) (by omega) (by omega) (by rw [List.length_append]; omega)
    simpa [outer] using h

theorem chPairs_ev (xs : List Int) (k : Int) (h0 : 0 ≤ k) (hk : k < xs.length) (hl : xs.length ≤ 100000) : Ev (fun f => spec_chPairs.f f xs k) (sumsOf xs k) := by
  have h := spec_outer xs k hk hl k.toNat 0 [] (by omega) (by omega) (by simp only [List.length_nil]; omega)
  simpa [sumsOf, spec_chPairs.f] using h

theorem impl_inner (xs : List Int) (k j : Int) (r : List St) (hj : 0 ≤ j) (hjk : j < k) (hk : k < xs.length) (hl : xs.length ≤ 100000) : ∀ (d : Nat) (i : Int) (acc : List St), 0 ≤ i → i + d = j + 1 → acc.length + d ≤ 8000000000000 →
    Ev (fun f => impl_sums.l0 f xs k (acc ++ inner xs k j d i) k (j + 1)) r → Ev (fun f => impl_sums.l1 f xs k acc j k j (j + 1) i) r := by
  intro d
  induction d with
  | zero =>
    intro i acc hi hd _ h
    refine ev_shift ?_
    simp only [impl_sums.l1, if_neg (show ¬ i < j + 1 by omega), w64 (show -9223372036854775808 ≤ j + 1 by omega) (by omega)]
    simpa [inner] using h
  | succ d ih =>
    intro i acc hi hd hacc h
    refine ev_shift ?_
    simp only [impl_sums.l1, if_pos (show i < j + 1 by omega), if_pos hi, if_pos (show i < (xs.length : Int) by omega), if_pos hj, if_pos (show j < (xs.length : Int) by omega), if_pos (show 0 ≤ k by omega), if_pos hk,
      w64 (show -9223372036854775808 ≤ i + 1 by omega) (by omega)]
    by_cases c : wrap64 (rd xs i + rd xs j) = rd xs k
    · simp only [if_pos c, if_pos (show acc.length < 8796093022208 by omega)]
      refine ih (i + 1) (acc ++ [⟨i, j⟩]) (by omega) (by omega) (by simp only [List.length_append, List.length_singleton]; omega) ?_
      simpa [inner, c] using h
    · simp only [if_neg c]
      refine ih (i + 1) acc (by omega) (by omega) (by omega) ?_
      simpa [inner, c] using h

theorem impl_outer (xs : List Int) (k : Int) (hk : k < xs.length) (hl : xs.length ≤ 100000) : ∀ (d : Nat) (j : Int) (acc : List St), 0 ≤ j → j + d = k → acc.length + d * 100001 ≤ 8000000000000 →
    Ev (fun f => impl_sums.l0 f xs k acc k j) (acc ++ outer xs k d j) := by
  intro d
  induction d with
  | zero =>
    intro j acc hj hd _
    refine ev_shift ?_
    simp only [impl_sums.l0, if_neg (show ¬ j < k by omega), outer, List.append_nil]
    exact Ev.now _
  | succ d ih =>
    intro j acc hj hd hacc
    refine ev_shift ?_
    simp only [impl_sums.l0, if_pos (show j < k by omega), w64 (show -9223372036854775808 ≤ j + 1 by omega) (by omega)]
    have hi := inner_length xs k j (j + 1).toNat 0
    refine impl_inner xs k j _ hj (by omega) hk hl (j + 1).toNat 0 acc (by omega) (by omega) (by omega) ?_
    have h := ih (j + 1) (acc ++ inner xs k j (j + 1).toNat 0) (by omega) (by omega) (by rw [List.length_append]; omega)
    simpa [outer] using h

theorem sums_ev (xs : List Int) (k : Int) (h0 : 0 ≤ k) (hk : k < xs.length) (hl : xs.length ≤ 100000) : Ev (fun f => impl_sums.f f xs k) (sumsOf xs k) := by
  have h := impl_outer xs k hk hl k.toNat 0 [] (by omega) (by omega) (by simp only [List.length_nil]; omega)
  simpa [sumsOf, impl_sums.f] using h

/-! the chain's test, in both ways -/
def risingFrom (xs : List Int) : Nat → Int → Bool
  | 0, _ => true
  | d + 1, i => if rd xs i ≥ 1 then (if rd xs i ≤ 1000000 then (if i > 0 then (if rd xs (i - 1) ≥ rd xs i then false else risingFrom xs d (i + 1)) else risingFrom xs d (i + 1)) else false) else false
def pairsFrom (xs : List Int) : Nat → Int → Bool
  | 0, _ => true
  | d + 1, k => if (sumsOf xs k).length = 0 then false else pairsFrom xs d (k + 1)
def implFrom (xs : List Int) : Nat → Int → Bool
  | 0, _ => true
  | d + 1, k => if rd xs k ≤ rd xs (k - 1) then false else if rd xs k > 1000000 then false else if (sumsOf xs k).length = 0 then false else implFrom xs d (k + 1)
/-- Is it a chain? -/
def chain (xs : List Int) : Bool := if 1 ≤ xs.length ∧ xs.length ≤ 41 then (if rd xs 0 = 1 then implFrom xs (xs.length - 1) 1 else false) else false

theorem from_same (xs : List Int) : ∀ (d : Nat) (i : Int), 1 ≤ i → 1 ≤ rd xs (i - 1) → (risingFrom xs d i && pairsFrom xs d i) = implFrom xs d i
  | 0, _, _, _ => rfl
  | d + 1, i, h1, h2 => by
    unfold risingFrom pairsFrom implFrom
    rw [if_pos (show i > 0 by omega)]
    by_cases c1 : rd xs i ≤ rd xs (i - 1)
    · rw [if_pos c1, if_pos (show rd xs (i - 1) ≥ rd xs i from c1)]
      split
      · split <;> rfl
      · rfl
    · rw [if_neg c1, if_neg (show ¬ rd xs (i - 1) ≥ rd xs i from c1), if_pos (show rd xs i ≥ 1 by omega)]
      by_cases c2 : rd xs i > 1000000
      · rw [if_pos c2, if_neg (by omega)]; rfl
      · rw [if_neg c2, if_pos (by omega)]
        by_cases c3 : (sumsOf xs i).length = 0
        · rw [if_pos c3, if_pos c3, Bool.and_false]
        · rw [if_neg c3, if_neg c3]
          have e : i + 1 - 1 = i := by omega
          exact from_same xs d (i + 1) (by omega) (by rw [e]; omega)

theorem l1In_eq (a b c : Int) : spec_l1In.f a b c = some (decide (b ≤ a) && decide (a ≤ c)) := by
  unfold spec_l1In.f
  by_cases h : a ≥ b
  · rw [if_pos h]; simp [show b ≤ a from h]
  · rw [if_neg h]; simp [show ¬ b ≤ a from h]
theorem in_eq (a b c : Int) : impl_in.f a b c = some (decide (b ≤ a) && decide (a ≤ c)) := by
  unfold impl_in.f
  by_cases h : a ≥ b
  · rw [if_pos h]; simp [show b ≤ a from h]
  · rw [if_neg h]; simp [show ¬ b ≤ a from h]

theorem rising_ev (xs : List Int) (hl : xs.length ≤ 100000) : ∀ (d : Nat) (i : Int), 0 ≤ i → i + d = xs.length → Ev (fun f => spec_l1Rising.l0 f xs 1 1000000 xs xs.length i) (risingFrom xs d i) := by
  intro d
  induction d with
  | zero =>
    intro i h0 hd
    refine ev_shift ?_
    simp only [spec_l1Rising.l0, if_neg (show ¬ i < (xs.length : Int) by omega), risingFrom]
    exact Ev.now _
  | succ d ih =>
    intro i h0 hd
    have hn := ih (i + 1) (by omega) (by omega)
    refine ev_shift ?_
    simp only [spec_l1Rising.l0, if_pos (show i < (xs.length : Int) by omega), if_pos h0, w64 (show -9223372036854775808 ≤ i + 1 by omega) (by omega), w64 (show -9223372036854775808 ≤ i - 1 by omega) (by omega), l1In_eq, Option.bind_some]
    unfold risingFrom
    by_cases c1 : rd xs i ≥ 1
    · by_cases c2 : rd xs i ≤ 1000000
      · rw [if_pos c1, if_pos c2]
        simp only [decide_eq_true (show 1 ≤ rd xs i from c1), decide_eq_true c2, Bool.and_self, if_true]
        by_cases c3 : i > 0
        · simp only [if_pos c3, if_pos (show 0 ≤ i - 1 by omega), if_pos (show i - 1 < (xs.length : Int) by omega)]
          by_cases c4 : rd xs (i - 1) ≥ rd xs i
          · simp only [if_pos c4]; exact Ev.now _
          · simp only [if_neg c4]; exact hn
        · simp only [if_neg c3]; exact hn
      · rw [if_pos c1, if_neg c2]
        simp only [decide_eq_false c2, Bool.and_false, Bool.false_eq_true, if_false]
        exact Ev.now _
    · rw [if_neg c1]
      simp only [decide_eq_false (show ¬ 1 ≤ rd xs i from c1), Bool.false_and, Bool.false_eq_true, if_false]
      exact Ev.now _

theorem pairs_ev (xs : List Int) (hl : xs.length ≤ 100000) : ∀ (d : Nat) (k : Int), 0 ≤ k → k + d = xs.length → Ev (fun f => spec_chGood.l0 f xs k) (pairsFrom xs d k) := by
  intro d
  induction d with
  | zero =>
    intro i h0 hd
    refine ev_shift ?_
    simp only [spec_chGood.l0, if_neg (show ¬ i < (xs.length : Int) by omega), pairsFrom]
    exact Ev.now _
  | succ d ih =>
    intro i h0 hd
    have hn := ih (i + 1) (by omega) (by omega)
    refine ev_shift ?_
    simp only [spec_chGood.l0, if_pos (show i < (xs.length : Int) by omega), w64 (show -9223372036854775808 ≤ i + 1 by omega) (by omega)]
    refine ev_bind (chPairs_ev xs i h0 (by omega) hl) ?_
    unfold pairsFrom
    by_cases c : (sumsOf xs i).length = 0
    · simp only [if_pos c, if_pos (show ((sumsOf xs i).length : Int) = 0 by omega)]; exact Ev.now _
    · simp only [if_neg c, if_neg (show ¬ ((sumsOf xs i).length : Int) = 0 by omega)]; exact hn

theorem implFrom_ev (xs : List Int) (hl : xs.length ≤ 100000) : ∀ (d : Nat) (k : Int), 1 ≤ k → k + d = xs.length → Ev (fun f => impl_IsChain.l0 f xs k) (implFrom xs d k) := by
  intro d
  induction d with
  | zero =>
    intro i h0 hd
    refine ev_shift ?_
    simp only [impl_IsChain.l0, if_neg (show ¬ i < (xs.length : Int) by omega), implFrom]
    exact Ev.now _
  | succ d ih =>
    intro i h0 hd
    have hn := ih (i + 1) (by omega) (by omega)
    refine ev_shift ?_
    simp only [impl_IsChain.l0, if_pos (show i < (xs.length : Int) by omega), if_pos (show 0 ≤ i by omega), w64 (show -9223372036854775808 ≤ i + 1 by omega) (by omega), w64 (show -9223372036854775808 ≤ i - 1 by omega) (by omega), if_pos (show 0 ≤ i - 1 by omega), if_pos (show i - 1 < (xs.length : Int) by omega)]
    unfold implFrom
    by_cases c1 : rd xs i ≤ rd xs (i - 1)
    · simp only [if_pos c1]; exact Ev.now _
    · simp only [if_neg c1]
      by_cases c2 : rd xs i > 1000000
      · simp only [if_pos c2]; exact Ev.now _
      · simp only [if_neg c2]
        refine ev_bind (sums_ev xs i (by omega) (by omega) hl) ?_
        by_cases c : (sumsOf xs i).length = 0
        · simp only [if_pos c, if_pos (show ((sumsOf xs i).length : Int) = 0 by omega)]; exact Ev.now _
        · simp only [if_neg c, if_neg (show ¬ ((sumsOf xs i).length : Int) = 0 by omega)]; exact hn

theorem isChain_ev (xs : List Int) (hl : xs.length ≤ 1048576) : Ev (fun f => impl_IsChain.f f xs) (chain xs) := by
  unfold impl_IsChain.f chain
  simp only [in_eq, Option.bind_some]
  by_cases c : 1 ≤ xs.length ∧ xs.length ≤ 41
  · simp only [if_pos c, decide_eq_true (show (1 : Int) ≤ xs.length by omega), decide_eq_true (show (xs.length : Int) ≤ 41 by omega), Bool.and_self, if_true, if_pos (show (0 : Int) < xs.length by omega)]
    by_cases c1 : rd xs 0 = 1
    · simp only [if_pos c1]
      refine ev_shift ?_
      simp only [impl_IsChain.j0, c1, bne_self_eq_false, Bool.false_eq_true, if_false]
      exact implFrom_ev xs (by omega) (xs.length - 1) 1 (by omega) (by omega)
    · simp only [if_neg c1]
      refine ev_shift ?_
      simp only [impl_IsChain.j0, bne_iff_ne.mpr c1, if_true]
      exact Ev.now _
  · rw [if_neg c]
    have e : (decide ((1 : Int) ≤ xs.length) && decide ((xs.length : Int) ≤ 41)) = false := by
      rw [Bool.and_eq_false_iff, decide_eq_false_iff_not, decide_eq_false_iff_not]; omega
    simp only [e, Bool.false_eq_true, if_false]
    refine ev_shift ?_
    simp only [impl_IsChain.j0, if_true]
    exact Ev.now _

theorem chGood_ev (xs : List Int) (hl : xs.length ≤ 1048576) : Ev (fun f => spec_chGood.f f xs) (chain xs) := by
  unfold spec_chGood.f chain
  simp only [l1In_eq, Option.bind_some]
  by_cases c : 1 ≤ xs.length ∧ xs.length ≤ 41
  · simp only [if_pos c, decide_eq_true (show (1 : Int) ≤ xs.length by omega), decide_eq_true (show (xs.length : Int) ≤ 41 by omega), Bool.and_self, if_true, if_pos (show (0 : Int) < xs.length by omega)]
    by_cases c1 : rd xs 0 = 1
    · simp only [if_pos c1]
      unfold spec_l1Rising.f
      refine ev_bind (rising_ev xs (by omega) xs.length 0 (by omega) (by omega)) ?_
      obtain ⟨n, hn⟩ : ∃ n, xs.length = n + 1 := ⟨xs.length - 1, by omega⟩
      have e1 : risingFrom xs xs.length 0 = risingFrom xs n 1 := by
        rw [hn, risingFrom, c1, if_pos (by decide), if_pos (by decide), if_neg (by decide)]
        rfl
      have e2 : xs.length - 1 = n := by omega
      rw [e1, e2, ← from_same xs n 1 (by omega) (by rw [show (1 : Int) - 1 = 0 from rfl, c1]; omega)]
      refine ev_shift ?_
      simp only [spec_chGood.j0]
      cases hr : risingFrom xs n 1 with
      | false =>
        simp only [Bool.not_false, if_true, Bool.false_and]
        exact Ev.now _
      | true =>
        simp only [Bool.not_true, Bool.false_eq_true, if_false, Bool.true_and]
        exact pairs_ev xs (by omega) n 1 (by omega) (by omega)
    · simp only [if_neg c1]
      refine ev_shift ?_
      simp only [spec_chGood.j0, if_true]
      exact Ev.now _
  · rw [if_neg c]
    have e : (decide ((1 : Int) ≤ xs.length) && decide ((xs.length : Int) ≤ 41)) = false := by
      rw [Bool.and_eq_false_iff, decide_eq_false_iff_not, decide_eq_false_iff_not]; omega
    simp only [e, Bool.false_eq_true, if_false]
    refine ev_shift ?_
    simp only [spec_chGood.j0, if_true]
    exact Ev.now _

theorem implFrom_head (xs : List Int) (d : Nat) (k : Int) (h : implFrom xs (d + 1) k = true) : (sumsOf xs k).length ≠ 0 ∧ implFrom xs d (k + 1) = true ∧ rd xs (k - 1) < rd xs k ∧ rd xs k ≤ 1000000 := by
  unfold implFrom at h
  split at h
  · cases h
  · split at h
    · cases h
    · split at h
      · cases h
      · rename_i a b c
        exact ⟨c, h, by omega, by omega⟩
theorem chain_from (xs : List Int) (h : chain xs = true) : 1 ≤ xs.length ∧ xs.length ≤ 41 ∧ rd xs 0 = 1 ∧ implFrom xs (xs.length - 1) 1 = true := by
  unfold chain at h
  split at h
  · rename_i c
    split at h
    · rename_i c1
      exact ⟨c.1, c.2, c1, h⟩
    · cases h
  · cases h

abbrev rdS (ss : List St) (i : Int) : St := rd_T69 ss i
theorem outer_length (xs : List Int) (k : Int) : ∀ (d : Nat) (j : Int), 0 ≤ j → j + d ≤ 100000 → (outer xs k d j).length ≤ d * 100001
  | 0, _, _, _ => Nat.le_refl _
  | d + 1, j, h0, h1 => by
    have h2 := outer_length xs k d (j + 1) (by omega) (by omega)
    have h3 := inner_length xs k j (j + 1).toNat 0
    unfold outer
    rw [List.length_append]
    omega
theorem sums_length (xs : List Int) (k : Int) (h0 : 0 ≤ k) (h1 : k ≤ 100000) : (sumsOf xs k).length ≤ 10000100000 := by
  have := outer_length xs k k.toNat 0 (by omega) (by omega)
  unfold sumsOf
  omega
def lastOf (ss : List St) : St := rdS ss (ss.length - 1)
def stepsFrom (xs : List Int) : Nat → Int → List St
  | 0, _ => []
  | d + 1, k => lastOf (sumsOf xs k) :: stepsFrom xs d (k + 1)
theorem stepsFrom_length (xs : List Int) : ∀ (d : Nat) (k : Int), (stepsFrom xs d k).length = d
  | 0, _ => rfl
  | d + 1, k => by rw [stepsFrom, List.length_cons, stepsFrom_length xs d (k + 1)]
/-- ChainSteps of a chain. -/
def stepsOf (xs : List Int) : List St := stepsFrom xs (xs.length - 1) 1

theorem chSteps_loop (xs : List Int) (hl : xs.length ≤ 100000) : ∀ (d : Nat) (k : Int) (acc : List St), 1 ≤ k → k + d = xs.length → acc.length + d ≤ 8000000000000 → implFrom xs d k = true → Ev (fun f => spec_chSteps.l0 f xs acc k) (acc ++ stepsFrom xs d k) := by
  intro d
  induction d with
  | zero =>
    intro k acc h0 hd _ _
    refine ev_shift ?_
    simp only [spec_chSteps.l0, if_neg (show ¬ k < (xs.length : Int) by omega), stepsFrom, List.append_nil]
    exact Ev.now _
  | succ d ih =>
    intro k acc h0 hd ha hi
    obtain ⟨h1, h2, _, _⟩ := implFrom_head xs d k hi
    have h3 := sums_length xs k (by omega) (by omega)
    refine ev_shift ?_
    simp only [spec_chSteps.l0, if_pos (show k < (xs.length : Int) by omega), w64 (show -9223372036854775808 ≤ k + 1 by omega) (by omega)]
    refine ev_bind (chPairs_ev xs k (by omega) (by omega) hl) ?_
    simp only [w64 (show -9223372036854775808 ≤ ((sumsOf xs k).length : Int) - 1 by omega) (by omega), if_pos (show 0 ≤ ((sumsOf xs k).length : Int) - 1 by omega), if_pos (show ((sumsOf xs k).length : Int) - 1 < (sumsOf xs k).length by omega), if_pos (show acc.length < 8796093022208 by omega)]
    have h := ih (k + 1) (acc ++ [lastOf (sumsOf xs k)]) (by omega) (by omega) (by simp only [List.length_append, List.length_singleton]; omega) h2
    simp only [List.append_assoc, List.singleton_append] at h
    exact h

theorem chainSteps_loop (xs : List Int) (hl : xs.length ≤ 100000) : ∀ (d : Nat) (k : Int) (acc : List St), 1 ≤ k → k + d = xs.length → acc.length + d ≤ 8000000000000 → implFrom xs d k = true → Ev (fun f => impl_chainSteps.l0 f xs acc k) (acc ++ stepsFrom xs d k) := by
  intro d
  induction d with
  | zero =>
    intro k acc h0 hd _ _
    refine ev_shift ?_
    simp only [impl_chainSteps.l0, if_neg (show ¬ k < (xs.length : Int) by omega), stepsFrom, List.append_nil]
    exact Ev.now _
  | succ d ih =>
    intro k acc h0 hd ha hi
    obtain ⟨h1, h2, _, _⟩ := implFrom_head xs d k hi
    have h3 := sums_length xs k (by omega) (by omega)
    refine ev_shift ?_
    simp only [impl_chainSteps.l0, if_pos (show k < (xs.length : Int) by omega), w64 (show -9223372036854775808 ≤ k + 1 by omega) (by omega)]
    refine ev_bind (sums_ev xs k (by omega) (by omega) hl) ?_
    simp only [w64 (show -9223372036854775808 ≤ ((sumsOf xs k).length : Int) - 1 by omega) (by omega), if_pos (show 0 ≤ ((sumsOf xs k).length : Int) - 1 by omega), if_pos (show ((sumsOf xs k).length : Int) - 1 < (sumsOf xs k).length by omega), if_pos (show acc.length < 8796093022208 by omega)]
    have h := ih (k + 1) (acc ++ [lastOf (sumsOf xs k)]) (by omega) (by omega) (by simp only [List.length_append, List.length_singleton]; omega) h2
    simp only [List.append_assoc, List.singleton_append] at h
    exact h

theorem chSteps_ev (xs : List Int) (h : chain xs = true) : Ev (fun f => spec_chSteps.f f xs) (stepsOf xs) := by
  obtain ⟨h1, h2, _, h4⟩ := chain_from xs h
  have := chSteps_loop xs (by omega) (xs.length - 1) 1 [] (by omega) (by omega) (by simp only [List.length_nil]; omega) h4
  simpa [stepsOf, spec_chSteps.f] using this
theorem chainSteps_ev (xs : List Int) (h : chain xs = true) : Ev (fun f => impl_chainSteps.f f xs) (stepsOf xs) := by
  obtain ⟨h1, h2, _, h4⟩ := chain_from xs h
  have := chainSteps_loop xs (by omega) (xs.length - 1) 1 [] (by omega) (by omega) (by simp only [List.length_nil]; omega) h4
  simpa [stepsOf, impl_chainSteps.f] using this
theorem stepsOf_length (xs : List Int) (h : chain xs = true) : (stepsOf xs).length ≤ 40 := by
  obtain ⟨h1, h2, _, _⟩ := chain_from xs h
  unfold stepsOf
  rw [stepsFrom_length]
  omega

def markedS (n : Nat) (a : Int) : List St := (List.range n).map (fun j : Nat => (⟨a + 2 * (j : Int), a + 2 * (j : Int) + 1⟩ : St))
theorem markedS_length (n : Nat) (a : Int) : (markedS n a).length = n := by simp [markedS]
theorem markedS_succ (n : Nat) (a : Int) : markedS (n + 1) a = markedS n a ++ [⟨a + 2 * (n : Int), a + 2 * (n : Int) + 1⟩] := by simp [markedS, List.range_succ]
theorem rdS_nat (ss : List St) (j : Nat) : rdS ss (j : Int) = ss.getD j z69 := by unfold rdS rd_T69; rw [Int.toNat_natCast]
theorem markedS_get (n : Nat) (a : Int) (j : Nat) (h : j < n) : rdS (markedS n a) (j : Int) = ⟨a + 2 * (j : Int), a + 2 * (j : Int) + 1⟩ := by rw [rdS_nat]; simp [markedS, List.getD, h]

theorem setS (l : List St) (x : St) (y : St) (t : List St) : (l ++ x :: t).set l.length y = l ++ y :: t := by
  rw [List.set_append_right _ _ (Nat.le_refl _), Nat.sub_self, List.set_cons_zero]
theorem getS (l : List St) (x : St) (t : List St) : rdS (l ++ x :: t) (l.length : Int) = x := by
  rw [rdS_nat]; simp [List.getD]

theorem markStepS_ev (xs : List St) (a : Int) (h0 : 0 ≤ a) (ha : a + 2 * xs.length ≤ 4611686018427387904) : Ev (fun k => laws_markStepS.f k xs a) (a + 2 * xs.length, markedS xs.length a) := by
  have loop : ∀ (d k i : Nat), i ≤ xs.length → xs.length - i = d → d < k → laws_markStepS.l0 k (markedS i a ++ xs.drop i) (a + 2 * i) i = some (a + 2 * xs.length, markedS xs.length a) := by
    intro d
    induction d with
    | zero =>
      intro k i h1 hd hk
      obtain ⟨k, rfl⟩ : ∃ m, k = m + 1 := ⟨k - 1, by omega⟩
      obtain rfl : i = xs.length := by omega
      have hl : (markedS xs.length a ++ xs.drop xs.length).length = xs.length := by simp [markedS_length]
      rw [laws_markStepS.l0, hl, if_neg (by omega)]
      simp
    | succ d ih =>
      intro k i h1 hd hk
      obtain ⟨k, rfl⟩ : ∃ m, k = m + 1 := ⟨k - 1, by omega⟩
      have hlt : i < xs.length := by omega
      have hl : (markedS i a ++ xs.drop i).length = xs.length := by simp [markedS_length]; omega
      have hm := markedS_length i a
      rw [laws_markStepS.l0, hl, if_pos (by omega), if_pos (by omega), Int.toNat_natCast, List.drop_eq_getElem_cons hlt]
      have e1 := setS (markedS i a) xs[i] ⟨a + 2 * (i : Int), (rdS (markedS i a ++ xs[i] :: xs.drop (i + 1)) (i : Int)).f1⟩ (xs.drop (i + 1))
      rw [hm] at e1
      unfold rdS at e1
      rw [e1]
      simp only [Option.bind_some]
      have e2 := getS (markedS i a) ⟨a + 2 * (i : Int), (rdS (markedS i a ++ xs[i] :: xs.drop (i + 1)) (i : Int)).f1⟩ (xs.drop (i + 1))
      rw [hm] at e2
      unfold rdS at e2
      rw [e2]
      have e3 := setS (markedS i a) ⟨a + 2 * (i : Int), (rdS (markedS i a ++ xs[i] :: xs.drop (i + 1)) (i : Int)).f1⟩ ⟨a + 2 * (i : Int), a + 2 * (i : Int) + 1⟩ (xs.drop (i + 1))
      rw [hm] at e3
      unfold rdS at e3
      rw [w64 (show -9223372036854775808 ≤ a + 2 * (i : Int) + 1 by omega) (by omega), e3, w64 (show -9223372036854775808 ≤ a + 2 * (i : Int) + 1 + 1 by omega) (by omega), w64 (show -9223372036854775808 ≤ (i : Int) + 1 by omega) (by omega)]
      have h := ih k (i + 1) (by omega) (by omega) (by omega)
      rw [markedS_succ, List.append_assoc, List.singleton_append] at h
      have e4 : a + 2 * ((i + 1 : Nat) : Int) = a + 2 * (i : Int) + 1 + 1 := by omega
      rw [e4] at h
      exact h
  refine ⟨xs.length + 1, fun k hk => ?_⟩
  have h := loop xs.length k 0 (by omega) (by omega) (by omega)
  simpa [markedS, laws_markStepS.f] using h

theorem heldStepS_ev (n : Nat) (a : Int) (h0 : 0 ≤ a) (ha : a + 2 * n ≤ 4611686018427387904) : Ev (fun k => laws_heldStepS.f k (markedS n a) a) (a + 2 * n) := by
  have loop : ∀ (d k i : Nat), i ≤ n → n - i = d → d < k → laws_heldStepS.l0 k (markedS n a) (a + 2 * i) i = some (a + 2 * n) := by
    intro d
    induction d with
    | zero =>
      intro k i h1 hd hk
      obtain ⟨k, rfl⟩ : ∃ m, k = m + 1 := ⟨k - 1, by omega⟩
      obtain rfl : i = n := by omega
      rw [laws_heldStepS.l0, markedS_length, if_neg (by omega)]
    | succ d ih =>
      intro k i h1 hd hk
      obtain ⟨k, rfl⟩ : ∃ m, k = m + 1 := ⟨k - 1, by omega⟩
      have hg := markedS_get n a i (by omega)
      unfold rdS at hg
      rw [laws_heldStepS.l0, markedS_length, if_pos (by omega), if_pos (by omega), hg, if_pos rfl, w64 (show -9223372036854775808 ≤ a + 2 * (i : Int) + 1 by omega) (by omega), if_pos rfl, w64 (show -9223372036854775808 ≤ a + 2 * (i : Int) + 1 + 1 by omega) (by omega), w64 (show -9223372036854775808 ≤ (i : Int) + 1 by omega) (by omega)]
      have e : a + 2 * (i : Int) + 1 + 1 = a + 2 * ((i + 1 : Nat) : Int) := by omega
      rw [e]
      exact ih k (i + 1) (by omega) (by omega) (by omega)
  refine ⟨n + 1, fun k hk => ?_⟩
  have h := loop n k 0 (by omega) (by omega) (by omega)
  simpa [laws_heldStepS.f] using h

theorem eqStep_same (a b : Int) : laws_eqStep.f a b a b = some true := by simp [laws_eqStep.f]
theorem eqStepS_same (xs : List St) (hb : xs.length ≤ 4611686018427387904) : Ev (fun k => laws_eqStepS.f k xs xs) true := by
  have loop : ∀ (d k : Nat) (i : Int), 0 ≤ i → i ≤ xs.length → (xs.length : Int) - i = d → d < k → laws_eqStepS.l0 k xs xs i = some true := by
    intro d
    induction d with
    | zero =>
      intro k i h0 h1 hd hk
      obtain ⟨k, rfl⟩ : ∃ m, k = m + 1 := ⟨k - 1, by omega⟩
      rw [laws_eqStepS.l0, if_neg (by omega)]
    | succ d ih =>
      intro k i h0 h1 hd hk
      obtain ⟨k, rfl⟩ : ∃ m, k = m + 1 := ⟨k - 1, by omega⟩
      rw [laws_eqStepS.l0, if_pos (by omega), if_pos h0, if_pos (by omega), eqStep_same]
      simp only [Option.bind_some, if_true]
      rw [w64 (by omega) (by omega)]
      exact ih k (i + 1) (by omega) (by omega) (by omega) (by omega)
  refine ⟨xs.length + 1, fun k hk => ?_⟩
  show laws_eqStepS.f k xs xs = some true
  unfold laws_eqStepS.f
  rw [if_pos rfl]
  exact loop xs.length k 0 (by omega) (by omega) (by omega) (by omega)

def allFrom (xs : List Int) (a b : Int) : Nat → Int → Bool
  | 0, _ => true
  | d + 1, i => if a ≤ rd xs i ∧ rd xs i ≤ b then allFrom xs a b d (i + 1) else false
theorem eqPlan_same (n : Int) (ss : List (S69)) (os : List Int) (h1 : ss.length ≤ 1048576) (h2 : os.length ≤ 1048576) : Ev (fun k => laws_eqPlan.f k n ss os n ss os) true := by
  unfold laws_eqPlan.f
  simp only [if_true]
  refine ev_bind (eqStepS_same ss (by omega)) ?_
  simp only [if_true]
  refine ev_bind (eqIntS_same os (by omega)) ?_
  simp only [if_true]
  exact Ev.now _
/-! exponents -/
def cap2 (x : Int) : Int := if x < 1000001 then x else 1000001
def sumFrom (a b : List Int) : Nat → Int → List Int
  | 0, _ => []
  | d + 1, k => cap2 (wrap64 (rd a k + rd b k)) :: sumFrom a b d (k + 1)
theorem sumFrom_length (a b : List Int) : ∀ d k, (sumFrom a b d k).length = d
  | 0, _ => rfl
  | d + 1, k => by rw [sumFrom, List.length_cons, sumFrom_length a b d (k + 1)]
def addRow (a b : List Int) : List Int := sumFrom a b a.length 0
def row0 (n i : Nat) : List Int := (List.replicate n 0).set i 1
def base0 (n m : Nat) : List (List Int) := (List.range m).map (row0 n)
theorem base0_succ (n m : Nat) : base0 n (m + 1) = base0 n m ++ [row0 n m] := by unfold base0; rw [List.range_succ, List.map_append]; rfl
theorem base0_length (n m : Nat) : (base0 n m).length = m := by unfold base0; simp
def grow (ss : List (S69)) : Nat → Int → List (List Int) → List (List Int)
  | 0, _, rows => rows
  | d + 1, i, rows => grow ss d (i + 1) (rows ++ [addRow (rd_L2 rows (rd_T69 ss i).f0) (rd_L2 rows (rd_T69 ss i).f1)])
/-- The exponents of all values. -/
def exps (n : Nat) (ss : List (S69)) : List (List Int) := grow ss ss.length 0 (base0 n n)
/-- Is each step from i on in order. -/
def InOrder (n : Nat) (ss : List (S69)) : Prop := ∀ i : Nat, i < ss.length → 0 ≤ (rd_T69 ss i).f0 ∧ (rd_T69 ss i).f0 ≤ (rd_T69 ss i).f1 ∧ (rd_T69 ss i).f1 < n + i
def RowOk (n : Nat) (r : List Int) : Prop := r.length = n ∧ ∀ e ∈ r, 0 ≤ e ∧ e ≤ 1000001
def RowsOk (n m : Nat) (rows : List (List Int)) : Prop := rows.length = m ∧ ∀ r ∈ rows, RowOk n r
theorem rd_mem (rows : List (List Int)) (a : Int) (h0 : 0 ≤ a) (h1 : a < rows.length) : rd_L2 rows a ∈ rows := by
  unfold rd_L2
  have h : a.toNat < rows.length := by omega
  rw [show rows.getD a.toNat [] = rows[a.toNat] by simp [List.getD, h]]
  exact List.getElem_mem h
theorem rd_in (r : List Int) (n : Nat) (hr : RowOk n r) (i : Int) : 0 ≤ rd r i ∧ rd r i ≤ 1000001 := by
  unfold rd
  rw [List.getD_eq_getElem?_getD]
  cases h : r[i.toNat]? with
  | none => simp
  | some e => exact hr.2 e (List.mem_of_getElem? h)
theorem sumFrom_ok (n : Nat) (a b : List Int) (ha : RowOk n a) (hb : RowOk n b) : ∀ d k, ∀ e ∈ sumFrom a b d k, 0 ≤ e ∧ e ≤ 1000001
  | 0, _, e, h => by cases h
  | d + 1, k, e, h => by
    rw [sumFrom] at h
    rcases List.mem_cons.1 h with rfl | h
    · have := rd_in a n ha k
      have := rd_in b n hb k
      rw [w64 (by omega) (by omega)]
      unfold cap2
      split <;> omega
    · exact sumFrom_ok n a b ha hb d (k + 1) e h
theorem addRow_ok (n : Nat) (a b : List Int) (ha : RowOk n a) (hb : RowOk n b) : RowOk n (addRow a b) := ⟨by unfold addRow; rw [sumFrom_length]; exact ha.1, sumFrom_ok n a b ha hb _ _⟩
theorem base0_ok (n m : Nat) : RowsOk n m (base0 n m) := by
  refine ⟨base0_length n m, fun r hr => ?_⟩
  unfold base0 at hr
  obtain ⟨i, _, rfl⟩ := List.mem_map.1 hr
  refine ⟨by unfold row0; simp, fun e he => ?_⟩
  unfold row0 at he
  rcases List.mem_or_eq_of_mem_set he with h | rfl
  · have := (List.mem_replicate.1 h).2
    omega
  · omega
theorem RowsOk.snoc {n m : Nat} {rows : List (List Int)} {r : List Int} (h : RowsOk n m rows) (hr : RowOk n r) : RowsOk n (m + 1) (rows ++ [r]) := ⟨by rw [List.length_append, h.1]; rfl, fun q hq => by
  rcases List.mem_append.1 hq with h1 | h1
  · exact h.2 q h1
  · rw [List.mem_singleton.1 h1]; exact hr⟩
theorem grow_ok (n : Nat) (ss : List (S69)) (ho : InOrder n ss) : ∀ (d i : Nat) (rows : List (List Int)), i + d = ss.length → RowsOk n (n + i) rows → RowsOk n (n + ss.length) (grow ss d i rows) := by
  intro d
  induction d with
  | zero =>
    intro i rows hd h
    obtain rfl : i = ss.length := by omega
    exact h
  | succ d ih =>
    intro i rows hd h
    obtain ⟨h1, h2, h3⟩ := ho i (by omega)
    have hl := h.1
    rw [grow]
    exact ih (i + 1) _ (by omega) (h.snoc (addRow_ok n _ _ (h.2 _ (rd_mem rows _ h1 (by omega))) (h.2 _ (rd_mem rows _ (by omega) (by omega)))))
theorem exps_ok (n : Nat) (ss : List (S69)) (ho : InOrder n ss) : RowsOk n (n + ss.length) (exps n ss) := grow_ok n ss ho ss.length 0 _ (by omega) (base0_ok n n)

theorem exponents_ev (n : Nat) (ss : List (S69)) (os : List Int) (hn : n ≤ 6) (hs : ss.length ≤ 40) (ho : InOrder n ss) : Ev (fun k => impl_Plan_exponents.f k n ss os) (exps n ss, (n : Int)) := by
  have inner : ∀ (rows : List (List Int)) (i : Nat) (A B : Int) (r : List (List Int) × Int), rows.length ≤ 100 → RowOk n (rd_L2 rows A) → RowOk n (rd_L2 rows B) → 0 ≤ B → B < rows.length → Ev (fun k => impl_Plan_exponents.l1 k (rows ++ [addRow (rd_L2 rows A) (rd_L2 rows B)]) ss ss.length (wrap64 ((i : Int) + 1)) n ss os) r → ∀ (d : Nat) (j : Int) (acc : List Int), 0 ≤ j → j + d = (rd_L2 rows A).length → acc.length + d ≤ 1000000 → acc ++ sumFrom (rd_L2 rows A) (rd_L2 rows B) d j = addRow (rd_L2 rows A) (rd_L2 rows B) → Ev (fun k => impl_Plan_exponents.l2 k rows acc ss ss.length i (rd_L2 rows A) (rd_L2 rows A).length j n ss os A B) r := by
    intro rows i A B r hl ra rb hb0 hb1 hr d
    induction d with
    | zero =>
      intro j acc h0 hd _ he
      rw [sumFrom, List.append_nil] at he
      refine ev_shift ?_
      simp only [impl_Plan_exponents.l2, if_neg (show ¬ j < ((rd_L2 rows A).length : Int) by omega), if_pos (show rows.length < 5864062014805 by omega)]
      rw [he]
      exact hr
    | succ d ih =>
      intro j acc h0 hd hacc he
      have hlen : (rd_L2 rows B).length = (rd_L2 rows A).length := by rw [ra.1, rb.1]
      have e : ∀ x : Int, mn x 1000001 = cap2 x := fun x => by
        unfold mn cap2
        split <;> split <;> omega
      refine ev_shift ?_
      simp only [impl_Plan_exponents.l2, if_pos (show j < ((rd_L2 rows A).length : Int) by omega), if_pos h0, if_pos hb0, if_pos hb1, if_pos (show j < ((rd_L2 rows B).length : Int) by omega), if_pos (show acc.length < 17592186044416 by omega), e, w64 (show -9223372036854775808 ≤ j + 1 by omega) (by have := ra.1; omega)]
      rw [sumFrom] at he
      exact ih (j + 1) _ (by omega) (by omega) (by simp only [List.length_append, List.length_singleton]; omega) (by rw [List.append_assoc, List.singleton_append]; exact he)
  have second : ∀ (d i : Nat) (rows : List (List Int)), i + d = ss.length → RowsOk n (n + i) rows → Ev (fun k => impl_Plan_exponents.l1 k rows ss ss.length i n ss os) (grow ss d i rows, (n : Int)) := by
    intro d
    induction d with
    | zero =>
      intro i rows hd _
      refine ev_shift ?_
      simp only [impl_Plan_exponents.l1, if_neg (show ¬ (i : Int) < (ss.length : Int) by omega), grow]
      exact Ev.now _
    | succ d ih =>
      intro i rows hd h
      obtain ⟨h1, h2, h3⟩ := ho i (by omega)
      have hl := h.1
      have ra := h.2 _ (rd_mem rows (rd_T69 ss i).f0 h1 (by omega))
      have rb := h.2 _ (rd_mem rows (rd_T69 ss i).f1 (by omega) (by omega))
      refine ev_shift ?_
      simp only [impl_Plan_exponents.l1, if_pos (show (i : Int) < (ss.length : Int) by omega), if_pos (show (0 : Int) ≤ (i : Int) by omega), if_pos h1, if_pos (show (rd_T69 ss i).f0 < (rows.length : Int) by omega), grow]
      refine inner rows i _ _ _ (by omega) ra rb (by omega) (by omega) ?_ (rd_L2 rows (rd_T69 ss i).f0).length 0 [] (by omega) (by omega) (by have := ra.1; simp; omega) (by rw [List.nil_append]; rfl)
      rw [w64 (by omega) (by omega)]
      exact ih (i + 1) _ (by omega) (h.snoc (addRow_ok n _ _ ra rb))
  have first_ : ∀ (d i : Nat), i + d = n → Ev (fun k => impl_Plan_exponents.l0 k (base0 n i) n i n ss os) (exps n ss, (n : Int)) := by
    intro d
    induction d with
    | zero =>
      intro i hd
      obtain rfl : i = n := by omega
      refine ev_shift ?_
      simp only [impl_Plan_exponents.l0, if_neg (show ¬ (i : Int) < (i : Int) by omega)]
      exact second ss.length 0 _ (by omega) (base0_ok i i)
    | succ d ih =>
      intro i hd
      refine ev_shift ?_
      simp only [impl_Plan_exponents.l0, if_pos (show (i : Int) < (n : Int) by omega), if_pos (show (0 : Int) ≤ (n : Int) by omega), Int.toNat_natCast, if_pos (show n ≤ 35184372088832 by omega), Option.bind_some, if_pos (show (0 : Int) ≤ (i : Int) by omega), List.length_replicate, base0_length, if_pos (show i < 5864062014805 by omega), w64 (show -9223372036854775808 ≤ (i : Int) + 1 by omega) (by omega)]
      have := ih (i + 1) (by omega)
      rw [base0_succ] at this
      exact this
  exact first_ n 0 (by omega)
/-! IsPlan -/
def goodFrom (rows : List (List Int)) : Nat → Int → Bool
  | 0, _ => true
  | d + 1, i => if allFrom (rd_L2 rows i) 0 1000000 (rd_L2 rows i).length 0 = true then goodFrom rows d (i + 1) else false
def planOk (n : Int) (ss : List (S69)) (os : List Int) : Bool := impl_IsPlan.formed n ss os && goodFrom (exps n.toNat ss) (exps n.toNat ss).length 0
theorem goodFrom_all (rows : List (List Int)) : ∀ (xs pre : List (List Int)), rows = pre ++ xs → goodFrom rows xs.length (pre.length : Int) = xs.all (fun r => allFrom r 0 1000000 r.length 0)
  | [], pre, _ => rfl
  | x :: xs, pre, h => by
    have e : rd_L2 rows (pre.length : Int) = x := by
      unfold rd_L2
      rw [Int.toNat_natCast, h]
      simp [List.getD_eq_getElem?_getD]
    have := goodFrom_all rows xs (pre ++ [x]) (by rw [h, List.append_assoc]; rfl)
    rw [List.length_append] at this
    rw [List.length_cons, goodFrom, e, List.all_cons]
    cases allFrom x 0 1000000 x.length 0 with
    | true => rw [if_pos rfl, Bool.true_and, ← this]; rfl
    | false => rw [if_neg (by decide), Bool.false_and]
theorem goodFrom_eq (rows : List (List Int)) : goodFrom rows rows.length 0 = rows.all (fun r => allFrom r 0 1000000 r.length 0) := goodFrom_all rows rows [] rfl
theorem steps_order (n : Nat) (ss : List (S69)) : ∀ (d i : Nat), impl_IsPlan.steps n ss d i = true → ∀ j, i ≤ j → j < i + d → 0 ≤ (rd_T69 ss j).f0 ∧ (rd_T69 ss j).f0 ≤ (rd_T69 ss j).f1 ∧ (rd_T69 ss j).f1 < n + j := by
  intro d
  induction d with
  | zero => intro i _ j h1 h2; omega
  | succ d ih =>
    intro i h j h1 h2
    rw [impl_IsPlan.steps] at h
    by_cases k1 : (rd_T69 ss i).f0 < 0
    · rw [if_pos k1] at h; cases h
    · rw [if_neg k1] at h
      by_cases k2 : (rd_T69 ss i).f0 > (rd_T69 ss i).f1
      · rw [if_pos k2] at h; cases h
      · rw [if_neg k2] at h
        by_cases k3 : (rd_T69 ss i).f1 ≥ (n : Int) + i
        · rw [if_pos k3] at h; cases h
        · rw [if_neg k3] at h
          by_cases e : j = i
          · subst e; omega
          · exact ih (i + 1) h j (by omega) (by omega)
theorem order_of (n : Nat) (ss : List (S69)) (h : impl_IsPlan.steps n ss ss.length 0 = true) : InOrder n ss := fun i hi => steps_order n ss ss.length 0 h i (by omega) (by omega)
theorem formed_of {n : Int} {ss : List (S69)} {os : List Int} (h : impl_IsPlan.formed n ss os = true) : (1 ≤ n ∧ n ≤ 6) ∧ ss.length ≤ 40 ∧ os.length ≤ 6 ∧ impl_IsPlan.steps n ss ss.length 0 = true ∧ anyIx (impl_IsPlan.outs n ss os) os.length 0 = false := by
  unfold impl_IsPlan.formed at h
  by_cases c1 : 1 ≤ n ∧ n ≤ 6
  · rw [if_pos c1] at h
    by_cases c2 : ss.length ≤ 40
    · rw [if_pos c2] at h
      by_cases c3 : os.length ≤ 6
      · rw [if_pos c3] at h
        by_cases c4 : impl_IsPlan.steps n ss ss.length 0 = true
        · rw [if_pos c4] at h
          exact ⟨c1, c2, c3, c4, by simpa using h⟩
        · rw [if_neg c4] at h; cases h
      · rw [if_neg c3] at h; cases h
    · rw [if_neg c2] at h; cases h
  · rw [if_neg c1] at h; cases h
def maxFrom (xs : List Int) : Nat → Int → Int → Int
  | 0, _, m => m
  | d + 1, i, m => maxFrom xs d (i + 1) (mx m (rd xs i))
theorem max_ev (xs : List Int) (h0 : 0 < xs.length) (hl : xs.length ≤ 1000000) : Ev (fun k => slices_Max_int_int.f k xs) (maxFrom xs (xs.length - 1) 1 (rd xs 0)) := by
  have loop : ∀ (d : Nat) (i m : Int), 0 ≤ i → i + d = xs.length → Ev (fun k => slices_Max_int_int.l0 k xs m i) (maxFrom xs d i m) := by
    intro d
    induction d with
    | zero =>
      intro i m _ hd
      refine ev_shift ?_
      simp only [slices_Max_int_int.l0, if_neg (show ¬ i < (xs.length : Int) by omega), maxFrom]
      exact Ev.now _
    | succ d ih =>
      intro i m h0 hd
      refine ev_shift ?_
      simp only [slices_Max_int_int.l0, if_pos (show i < (xs.length : Int) by omega), if_pos h0, w64 (show -9223372036854775808 ≤ i + 1 by omega) (by omega), maxFrom]
      exact ih (i + 1) _ (by omega) (by omega)
  unfold slices_Max_int_int.f
  simp only [if_neg (show ¬ (xs.length : Int) < 1 by omega), if_pos (show (0 : Int) < (xs.length : Int) by omega)]
  exact loop (xs.length - 1) 1 _ (by omega) (by omega)
theorem max_all (n : Nat) (xs : List Int) (hx : RowOk n xs) : ∀ (d : Nat) (i m : Int), decide (maxFrom xs d i m > 1000000) = !(decide (m ≤ 1000000) && allFrom xs 0 1000000 d i)
  | 0, i, m => by
    rw [maxFrom, allFrom, Bool.and_true]
    by_cases c : m ≤ 1000000
    · rw [decide_eq_true c, decide_eq_false (by omega)]; rfl
    · rw [decide_eq_false c, decide_eq_true (by omega)]; rfl
  | d + 1, i, m => by
    have hr := rd_in xs n hx i
    rw [maxFrom, max_all n xs hx d (i + 1), allFrom]
    by_cases c : m ≤ 1000000
    · rw [decide_eq_true c]
      by_cases c2 : rd xs i ≤ 1000000
      · rw [if_pos ⟨hr.1, c2⟩, decide_eq_true (by unfold mx; split <;> omega)]
      · rw [if_neg (by omega), decide_eq_false (by unfold mx; split <;> omega)]; rfl
    · rw [decide_eq_false c, decide_eq_false (by unfold mx; split <;> omega)]; rfl
theorem top_ev (n : Nat) (hn : 1 ≤ n) (hn6 : n ≤ 6) : ∀ (rows : List (List Int)), (∀ r ∈ rows, RowOk n r) → Ev (fun k => impl_IsPlan.top k rows) (!(rows.all (fun r => allFrom r 0 1000000 r.length 0)))
  | [], _ => Ev.now _
  | x :: xs, h => by
    have hx := h x (List.mem_cons_self ..)
    have hxl := hx.1
    refine ev_bind (max_ev x (by omega) (by omega)) ?_
    refine ev_bind (top_ev n hn hn6 xs (fun r hr => h r (List.mem_cons_of_mem _ hr))) ?_
    have e : decide (maxFrom x (x.length - 1) 1 (rd x 0) > 1000000) = !(allFrom x 0 1000000 x.length 0) := by
      obtain ⟨m, hm⟩ : ∃ m, x.length = m + 1 := ⟨x.length - 1, by omega⟩
      have hr := rd_in x n hx 0
      rw [hm, Nat.add_sub_cancel, max_all n x hx, allFrom]
      by_cases c : rd x 0 ≤ 1000000
      · rw [decide_eq_true c, if_pos ⟨hr.1, c⟩, Bool.true_and]; rfl
      · rw [decide_eq_false c, if_neg (by omega)]; rfl
    have e2 : (decide (maxFrom x (x.length - 1) 1 (rd x 0) > 1000000) || !(xs.all fun r => allFrom r 0 1000000 r.length 0)) = !((x :: xs).all fun r => allFrom r 0 1000000 r.length 0) := by
      rw [e, List.all_cons, Bool.not_and]
    simp only [e2]
    exact Ev.now _
theorem isPlan_ev (n : Int) (ss : List (S69)) (os : List Int) : Ev (fun k => impl_IsPlan.f k n ss os) (planOk n ss os) := by
  unfold impl_IsPlan.f planOk
  by_cases c : impl_IsPlan.formed n ss os = true
  · obtain ⟨h1, h2, h3, h4, h5⟩ := formed_of c
    obtain ⟨m, rfl⟩ := Int.eq_ofNat_of_zero_le (show 0 ≤ n by omega)
    have ho := order_of m ss h4
    have hok := exps_ok m ss ho
    simp only [c, if_true, Bool.true_and, Int.toNat_natCast]
    refine ev_bind (exponents_ev m ss os (by omega) h2 ho) ?_
    refine ev_bind (top_ev m (by omega) (by omega) _ hok.2) ?_
    rw [goodFrom_eq, Bool.not_not]
    exact Ev.now _
  · simp only [Bool.eq_false_iff.mpr c, Bool.false_and]
    exact Ev.now _
theorem outs_all (n : Int) (ss : List (S69)) (os : List Int) : ∀ (d i : Nat), anyIx (impl_IsPlan.outs n ss os) d i = !(allFrom os 0 (n + ss.length - 1) d i)
  | 0, _ => rfl
  | d + 1, i => by
    have ih := outs_all n ss os d (i + 1)
    rw [anyIx, allFrom, ih]
    unfold impl_IsPlan.outs
    by_cases c : 0 ≤ rd os i ∧ rd os i ≤ n + ss.length - 1
    · rw [if_pos c, decide_eq_true c.1, decide_eq_true c.2]; rfl
    · rw [if_neg c]
      have e : (decide (0 ≤ rd os (i : Int)) && decide (rd os (i : Int) ≤ n + ss.length - 1)) = false := by rw [Bool.and_eq_false_iff, decide_eq_false_iff_not, decide_eq_false_iff_not]; omega
      rw [e]; rfl
/-! the plan of a chain -/
theorem inner_mem (xs : List Int) (k j : Int) (hj : 0 ≤ j) : ∀ (d : Nat) (i : Int), 0 ≤ i → i + d = j + 1 → ∀ s ∈ inner xs k j d i, 0 ≤ s.f0 ∧ s.f0 ≤ j ∧ s.f1 = j ∧ wrap64 (rd xs s.f0 + rd xs s.f1) = rd xs k
  | 0, _, _, _, s, h => by cases h
  | d + 1, i, h0, hd, s, h => by
    unfold inner at h
    split at h
    · rename_i c
      rcases List.mem_cons.1 h with rfl | h
      · exact ⟨h0, by show i ≤ j; omega, rfl, c⟩
      · exact inner_mem xs k j hj d (i + 1) (by omega) (by omega) s h
    · exact inner_mem xs k j hj d (i + 1) (by omega) (by omega) s h
theorem outer_mem (xs : List Int) (k : Int) : ∀ (d : Nat) (j : Int), 0 ≤ j → j + d = k → ∀ s ∈ outer xs k d j, 0 ≤ s.f0 ∧ s.f0 ≤ s.f1 ∧ s.f1 < k ∧ wrap64 (rd xs s.f0 + rd xs s.f1) = rd xs k
  | 0, _, _, _, s, h => by cases h
  | d + 1, j, h0, hd, s, h => by
    unfold outer at h
    rcases List.mem_append.1 h with h | h
    · obtain ⟨a, b, c, e⟩ := inner_mem xs k j h0 (j + 1).toNat 0 (by omega) (by omega) s h
      exact ⟨a, by omega, by omega, e⟩
    · exact outer_mem xs k d (j + 1) (by omega) (by omega) s h
theorem lastOf_mem (ss : List St) (h : ss.length ≠ 0) : lastOf ss ∈ ss := by
  unfold lastOf rdS rd_T69
  have e : ((ss.length : Int) - 1).toNat < ss.length := by omega
  generalize ((ss.length : Int) - 1).toNat = q at e ⊢
  rw [show ss.getD q z69 = ss[q] by simp [List.getD, e]]
  exact List.getElem_mem e
theorem stepsFrom_get (xs : List Int) : ∀ (d : Nat) (k : Int) (j : Nat), j < d → rdS (stepsFrom xs d k) (j : Int) = lastOf (sumsOf xs (k + j))
  | 0, _, _, h => absurd h (Nat.not_lt_zero _)
  | d + 1, k, 0, _ => by
    rw [rdS_nat, stepsFrom, show k + ((0 : Nat) : Int) = k by omega]; rfl
  | d + 1, k, j + 1, h => by
    have := stepsFrom_get xs d (k + 1) j (by omega)
    rw [rdS_nat] at this
    rw [rdS_nat, stepsFrom, show k + ((j + 1 : Nat) : Int) = k + 1 + (j : Int) by omega, ← this]
    rfl
theorem implFrom_at (xs : List Int) : ∀ (d : Nat) (k : Int), implFrom xs d k = true → ∀ j : Nat, j < d → (sumsOf xs (k + j)).length ≠ 0 ∧ rd xs (k + j) ≤ 1000000 ∧ rd xs (k + j - 1) < rd xs (k + j)
  | 0, _, _, _, h => absurd h (Nat.not_lt_zero _)
  | d + 1, k, hi, 0, _ => by
    obtain ⟨a, _, c, e⟩ := implFrom_head xs d k hi
    rw [show k + ((0 : Nat) : Int) = k by omega]
    exact ⟨a, e, c⟩
  | d + 1, k, hi, j + 1, h => by
    obtain ⟨_, b, _, _⟩ := implFrom_head xs d k hi
    have := implFrom_at xs d (k + 1) b j (by omega)
    rw [show k + ((j + 1 : Nat) : Int) = k + 1 + (j : Int) by omega]
    exact this
theorem stepOf_fact (xs : List Int) (h : chain xs = true) (j : Nat) (hj : j < xs.length - 1) : 0 ≤ (rdS (stepsOf xs) j).f0 ∧ (rdS (stepsOf xs) j).f0 ≤ (rdS (stepsOf xs) j).f1 ∧ (rdS (stepsOf xs) j).f1 < 1 + (j : Int) ∧ wrap64 (rd xs (rdS (stepsOf xs) j).f0 + rd xs (rdS (stepsOf xs) j).f1) = rd xs (1 + (j : Int)) := by
  obtain ⟨h1, h2, h3, h4⟩ := chain_from xs h
  have hs := (implFrom_at xs _ _ h4 j hj).1
  unfold stepsOf
  rw [stepsFrom_get xs _ _ j hj]
  exact outer_mem xs (1 + (j : Int)) (1 + (j : Int)).toNat 0 (by omega) (by omega) _ (lastOf_mem _ hs)
theorem chain_le (xs : List Int) (h : chain xs = true) (j : Nat) (hj : j < xs.length) : 1 ≤ rd xs j ∧ rd xs j ≤ 1000000 := by
  obtain ⟨h1, h2, h3, h4⟩ := chain_from xs h
  induction j with
  | zero => rw [show ((0 : Nat) : Int) = 0 by rfl, h3]; omega
  | succ j ih =>
    have i := ih (by omega)
    obtain ⟨_, b, c⟩ := implFrom_at xs _ _ h4 j (by omega)
    rw [show (1 : Int) + (j : Int) - 1 = (j : Int) by omega] at c
    rw [show ((j + 1 : Nat) : Int) = 1 + (j : Int) by omega]
    omega
theorem chain_order (xs : List Int) (h : chain xs = true) : InOrder 1 (stepsOf xs) := by
  intro i hi
  unfold stepsOf at hi
  rw [stepsFrom_length] at hi
  obtain ⟨a, b, c, _⟩ := stepOf_fact xs h i hi
  exact ⟨a, b, c⟩
/-- The exponents of a chain's plan are the chain's numbers. -/
theorem chain_exps (xs : List Int) (h : chain xs = true) : exps 1 (stepsOf xs) = xs.map (fun c => [c]) := by
  obtain ⟨h1, h2, h3, h4⟩ := chain_from xs h
  have hsl : (stepsOf xs).length = xs.length - 1 := by unfold stepsOf; rw [stepsFrom_length]
  have rdm : ∀ (n : Nat) (a : Int), 0 ≤ a → a < n → n ≤ xs.length → rd_L2 ((xs.take n).map (fun c => [c])) a = [rd xs a] := by
    intro n a a0 a1 hn
    obtain ⟨m, rfl⟩ := Int.eq_ofNat_of_zero_le a0
    unfold rd_L2 rd
    rw [Int.toNat_natCast]
    simp only [List.getD_eq_getElem?_getD, List.getElem?_map, List.getElem?_take]
    rw [if_pos (by omega), List.getElem?_eq_getElem (by omega)]
    rfl
  have loop : ∀ (d i : Nat), i + d = xs.length - 1 → grow (stepsOf xs) d i ((xs.take (i + 1)).map (fun c => [c])) = xs.map (fun c => [c]) := by
    intro d
    induction d with
    | zero =>
      intro i hd
      rw [grow, List.take_of_length_le (by omega)]
    | succ d ih =>
      intro i hd
      obtain ⟨a, b, c, e⟩ := stepOf_fact xs h i (by omega)
      have hle := chain_le xs h (i + 1) (by omega)
      rw [show ((i + 1 : Nat) : Int) = 1 + (i : Int) by omega] at hle
      rw [grow, rdm (i + 1) _ a (show (rdS (stepsOf xs) i).f0 < ((i + 1 : Nat) : Int) by omega) (by omega), rdm (i + 1) _ (show 0 ≤ (rdS (stepsOf xs) i).f1 by omega) (show (rdS (stepsOf xs) i).f1 < ((i + 1 : Nat) : Int) by omega) (by omega)]
      have e2 : addRow [rd xs (rdS (stepsOf xs) i).f0] [rd xs (rdS (stepsOf xs) i).f1] = [rd xs (1 + (i : Int))] := by
        show [cap2 (wrap64 (rd xs (rdS (stepsOf xs) i).f0 + rd xs (rdS (stepsOf xs) i).f1))] = _
        rw [e]
        unfold cap2
        rw [if_pos (by omega)]
      rw [e2]
      have e3 : (xs.take (i + 1)).map (fun c => [c]) ++ [[rd xs (1 + (i : Int))]] = (xs.take (i + 1 + 1)).map (fun c => [c]) := by
        rw [List.take_succ_eq_append_getElem (show i + 1 < xs.length by omega), List.map_append]
        have : rd xs (1 + (i : Int)) = xs[i + 1] := by
          rw [show (1 : Int) + (i : Int) = ((i + 1 : Nat) : Int) by omega, rd_nat]
          simp [List.getD, show i + 1 < xs.length by omega]
        rw [this]
        rfl
      rw [e3]
      exact ih (i + 1) (by omega)
  unfold exps
  rw [hsl]
  have e0 : base0 1 1 = (xs.take (0 + 1)).map (fun c => [c]) := by
    obtain ⟨x, t, rfl⟩ : ∃ x t, xs = x :: t := by cases xs with
      | nil => simp at h1
      | cons x t => exact ⟨x, t, rfl⟩
    have : x = 1 := h3
    rw [this]
    rfl
  rw [e0]
  exact loop (xs.length - 1) 0 (by omega)
theorem steps_true (n : Nat) (ss : List St) : ∀ (d i : Nat), (∀ j : Nat, i ≤ j → j < i + d → 0 ≤ (rdS ss j).f0 ∧ (rdS ss j).f0 ≤ (rdS ss j).f1 ∧ (rdS ss j).f1 < n + j) → impl_IsPlan.steps n ss d i = true
  | 0, _, _ => rfl
  | d + 1, i, h => by
    obtain ⟨a, b, c⟩ := h i (by omega) (by omega)
    rw [impl_IsPlan.steps, if_neg (by show ¬ (rdS ss i).f0 < 0; omega), if_neg (by show ¬ (rdS ss i).f0 > (rdS ss i).f1; omega), if_neg (by show ¬ (rdS ss i).f1 ≥ (n : Int) + i; omega)]
    exact steps_true n ss d (i + 1) (fun j h1 h2 => h j (by omega) (by omega))
theorem chain_planOk (xs : List Int) (h : chain xs = true) (os : List Int) (ho : os.length ≤ 6) (hr : ∀ j : Nat, j < os.length → 0 ≤ rd os j ∧ rd os j ≤ (xs.length : Int) - 1) : planOk 1 (stepsOf xs) os = true := by
  obtain ⟨h1, h2, h3, h4⟩ := chain_from xs h
  have hsl : (stepsOf xs).length = xs.length - 1 := by unfold stepsOf; rw [stepsFrom_length]
  have hord := chain_order xs h
  have all_ok : ∀ (ys : List Int) (a b : Int) (d i : Nat), (∀ j : Nat, i ≤ j → j < i + d → a ≤ rd ys j ∧ rd ys j ≤ b) → allFrom ys a b d i = true := by
    intro ys a b d
    induction d with
    | zero => intro i _; rfl
    | succ d ih =>
      intro i hh
      rw [allFrom, if_pos (hh i (by omega) (by omega))]
      exact ih (i + 1) (fun j a1 a2 => hh j (by omega) (by omega))
  unfold planOk
  rw [Bool.and_eq_true]
  constructor
  · unfold impl_IsPlan.formed
    have hst : impl_IsPlan.steps 1 (stepsOf xs) (stepsOf xs).length 0 = true := steps_true 1 (stepsOf xs) (stepsOf xs).length 0 (fun j _ hj => hord j (by omega))
    rw [if_pos (by omega), if_pos (by omega), if_pos ho, if_pos hst, outs_all, Bool.not_not]
    exact all_ok os _ _ os.length 0 (fun j _ hj => by have := hr j (by omega); omega)
  · show goodFrom (exps 1 (stepsOf xs)) (exps 1 (stepsOf xs)).length 0 = true
    rw [chain_exps xs h, goodFrom_eq, List.all_eq_true]
    intro r hrr
    obtain ⟨c, hc, rfl⟩ := List.mem_map.1 hrr
    obtain ⟨j, hj, rfl⟩ := List.mem_iff_getElem.1 hc
    have := chain_le xs h j hj
    rw [rd_nat] at this
    have e : xs.getD j 0 = xs[j] := by simp [List.getD, hj]
    rw [e] at this
    exact all_ok [xs[j]] 0 1000000 1 0 (fun q _ hq => by
      obtain rfl : q = 0 := by omega
      show 0 ≤ xs[j] ∧ xs[j] ≤ 1000000
      omega)
theorem markPlan_ev (n : Int) (ss : List St) (os : List Int) (h1 : ss.length ≤ 1000000) (h2 : os.length ≤ 1000000) : Ev (fun k => laws_markPlan.f k n ss os 1) (1 + 2 * ss.length + os.length, markedS ss.length 1, marked os.length (1 + 2 * ss.length)) := by
  unfold laws_markPlan.f
  refine ev_bind (markStepS_ev ss 1 (by omega) (by omega)) ?_
  refine ev_bind (markIntS_ev os (1 + 2 * ss.length) (by omega) (by omega)) ?_
  exact Ev.now _
theorem heldPlan_ev (n : Int) (a b : Nat) (h1 : a ≤ 1000000) (h2 : b ≤ 1000000) : Ev (fun k => laws_heldPlan.f k n (markedS a 1) (marked b (1 + 2 * a)) 1) (1 + 2 * (a : Int) + b) := by
  unfold laws_heldPlan.f
  refine ev_bind (heldStepS_ev a 1 (by omega) (by omega)) ?_
  simp only [if_neg (show ¬ (1 : Int) + 2 * (a : Int) < 0 by omega)]
  refine ev_bind (heldIntS_ev b (1 + 2 * a) (by omega) (by omega)) ?_
  simp only [if_neg (show ¬ (1 : Int) + 2 * (a : Int) + (b : Int) < 0 by omega)]
  exact Ev.now _
/-- A list that is too long: the law answers true at once. -/
theorem over_ (xs : List Int) (hl : ¬ xs.length ≤ 1048576) : Ev (fun k => laws_FnExactChainPlan.f k xs) true := by
  have big : (xs.length : Int) > 1048576 := by omega
  unfold laws_FnExactChainPlan.f
  simp only [if_pos big]
  exact Ev.now _

theorem tail_ (xs : List Int) (hl : xs.length ≤ 1048576) (n : Int) (ss : List St) (os : List Int) (b : Bool) (h1 : ss.length ≤ 1000000) (h2 : os.length ≤ 1000000) (hs : Ev (fun k => spec_ChainPlan.f k xs) (n, ss, os, b)) (hi : Ev (fun k => impl_ChainPlan.f k xs) (n, ss, os, b)) : Ev (fun k => laws_FnExactChainPlan.f k xs) true := by
  have ht := toIntS_ev xs (by omega)
  have hmx := markIntS_ev xs 1 (by omega) (by omega)
  have hex := eqIntS_same xs (by omega)
  have hep := eqPlan_same n ss os (by omega) (by omega)
  have hm := markPlan_ev n ss os h1 h2
  have hh := heldPlan_ev n ss.length os.length h1 h2
  have e0 : (b != b) = false := by cases b <;> rfl
  have n0 : ¬ (1 + 2 * (ss.length : Int) + (os.length : Int) < 0) := by omega
  have n1 : ¬ (1 + (xs.length : Int) < 0) := by omega
  have j2 : Ev (fun k => laws_FnExactChainPlan.j2 k (1 + 2 * ss.length + os.length) false n (markedS ss.length 1) (marked os.length (1 + 2 * ss.length))) true := by
    refine ev_shift ?_
    simp only [laws_FnExactChainPlan.j2, Bool.false_eq_true, if_false]
    refine ev_bind hh ?_
    simp only [if_neg n0, if_true]
    exact Ev.now _
  have j1 : Ev (fun k => laws_FnExactChainPlan.j1 k xs b false n ss os n ss os) true := by
    refine ev_shift ?_
    simp only [laws_FnExactChainPlan.j1, Bool.false_eq_true, if_false]
    refine ev_bind hm ?_
    refine ev_bind hh ?_
    simp only [if_neg n0, if_true]
    refine ev_bind ht ?_
    refine ev_bind hi ?_
    refine ev_bind hep ?_
    simp only [if_true, e0]
    exact j2
  have j0 : Ev (fun k => laws_FnExactChainPlan.j0 k xs b xs b false n ss os n ss os) true := by
    refine ev_shift ?_
    simp only [laws_FnExactChainPlan.j0, Bool.false_eq_true, if_false]
    refine ev_bind ht ?_
    refine ev_bind hex ?_
    simp only [if_true]
    refine ev_bind hmx ?_
    simp only [if_neg n1]
    refine ev_bind hep ?_
    simp only [if_true, e0]
    exact j1
  have big : ¬ ((xs.length : Int) > 1048576) := by omega
  unfold laws_FnExactChainPlan.f
  simp only [if_neg big]
  refine ev_bind ht ?_
  refine ev_bind hs ?_
  refine ev_bind ht ?_
  refine ev_bind hi ?_
  refine ev_bind hep ?_
  simp only [if_true, e0]
  exact j0
theorem both (xs : List Int) (hl : xs.length ≤ 1048576) (c : chain xs = true) : Ev (fun k => spec_ChainPlan.f k xs) (1, stepsOf xs, [(xs.length : Int) - 1], true) ∧ Ev (fun k => impl_ChainPlan.f k xs) (1, stepsOf xs, [(xs.length : Int) - 1], true) := by
  have hf := chain_from xs c
  have hok := chain_planOk xs c [(xs.length : Int) - 1] (by simp) (fun j hj => by
    obtain rfl : j = 0 := by simpa using hj
    show 0 ≤ (xs.length : Int) - 1 ∧ (xs.length : Int) - 1 ≤ (xs.length : Int) - 1
    omega)
  constructor
  · unfold spec_ChainPlan.f spec_chPlan.f
    refine ev_bind (chGood_ev xs hl) ?_
    simp only [c, if_true, Option.bind_assoc, Option.bind_some, w64 (show -9223372036854775808 ≤ (xs.length : Int) - 1 by omega) (by omega)]
    exact ev_bind (chSteps_ev xs c) (Ev.now _)
  · unfold impl_ChainPlan.f impl_chainPlan.f impl_told.f
    refine ev_bind (isChain_ev xs hl) ?_
    simp only [c, if_true, Option.bind_assoc, Option.bind_some, w64 (show -9223372036854775808 ≤ (xs.length : Int) - 1 by omega) (by omega)]
    refine ev_bind (chainSteps_ev xs c) ?_
    refine ev_bind (isPlan_ev 1 (stepsOf xs) [(xs.length : Int) - 1]) ?_
    simp only [hok, if_true, Option.bind_some]
    exact Ev.now _
theorem FnExactChainPlan : laws_FnExactChainPlan.Pure := by
  intro xs _ _ _
  by_cases hl : xs.length ≤ 1048576
  · by_cases c : chain xs = true
    · obtain ⟨a, b⟩ := both xs hl c
      exact (tail_ xs hl _ _ _ _ (by have := stepsOf_length xs c; omega) (by simp) a b).rounds
    · refine (tail_ xs hl 0 [] [] false (by simp) (by simp) ?_ ?_).rounds
      · unfold spec_ChainPlan.f
        refine ev_bind (chGood_ev xs hl) ?_
        simp only [if_neg c]; exact Ev.now _
      · unfold impl_ChainPlan.f
        refine ev_bind (isChain_ev xs hl) ?_
        simp only [if_neg c]; exact Ev.now _
  · exact (over_ xs hl).rounds

end Go.Proofs.Ytopkiccdfmjjjaa.Pure
