/- For every text: what the program's ParseChain and the reference's compute (plain laws, no program in sight). -/
import Derived.Test.YtlefjgpkabijdaaDoorPN
import Derived.Test.YtlefjgpkabijdaaDoorPC
namespace Go.Proofs.YtlefjgpkabijdaaDoor.PP
open Go.RowKit Go.Proofs.YtlefjgpkabijdaaDoor.MFnExactParseChain Go.Proofs.YtlefjgpkabijdaaDoorW.PrintWords Go.Proofs.YtlefjgpkabijdaaDoorW.PrintLast Go.Proofs.YtlefjgpkabijdaaDoorW.PrintMore
open Go.Proofs.YtlefjgpkabijdaaDoor.CT Go.Proofs.YtlefjgpkabijdaaDoor.PW Go.Proofs.YtlefjgpkabijdaaDoor.PN Go.Proofs.YtlefjgpkabijdaaDoor.PC

theorem w64 {x : Int} (h1 : -9223372036854775808 ≤ x) (h2 : x ≤ 9223372036854775807) : wrap64 x = x := by unfold wrap64; omega

theorem rd_nat (xs : List Int) (j : Nat) : rd xs (j : Int) = xs.getD j 0 := by unfold rd; rw [Int.toNat_natCast]

theorem ev_shift {α : Type} {g : Nat → Option α} {r : α} (h : Ev (fun k => g (k + 1)) r) : Ev g r := by
  obtain ⟨K, hK⟩ := h
  refine ⟨K + 1, fun k hk => ?_⟩
  obtain ⟨m, rfl⟩ : ∃ m, k = m + 1 := ⟨k - 1, by omega⟩
  exact hK m (by omega)

theorem ev_bind {α β : Type} {g : Nat → Option α} {F : Nat → α → Option β} {a : α} {r : β} (h : Ev g a) (k : Ev (fun n => F n a) r) : Ev (fun n => (g n).bind (fun x => F n x)) r := Ev.bind h k

theorem ev_some {α : Type} {g : Nat → Option α} {r : α} (h : ∀ k, g k = some r) : Ev g r := ⟨0, fun k _ => h k⟩

theorem eqIntS_same (xs : List Int) (hb : xs.length ≤ 4611686018427387904) : Ev (fun k => laws_eqIntS.f k xs xs) true := by
  have loop : ∀ (d k : Nat) (i : Int), 0 ≤ i → i ≤ xs.length → (xs.length : Int) - i = d → d < k → laws_eqIntS.l0 k xs xs i = some true := by
    intro d
    induction d with
    | zero =>
      intro k i h0 h1 hd hk
      obtain ⟨k, rfl⟩ : ∃ m, k = m + 1 := ⟨k - 1, by omega⟩
      rw [laws_eqIntS.l0, if_neg (by omega)]
    | succ d ih =>
      intro k i h0 h1 hd hk
      obtain ⟨k, rfl⟩ : ∃ m, k = m + 1 := ⟨k - 1, by omega⟩
      rw [laws_eqIntS.l0, if_pos (by omega), if_pos h0, if_pos (by omega), if_pos rfl, w64 (by omega) (by omega)]
      exact ih k (i + 1) (by omega) (by omega) (by omega) (by omega)
  refine ⟨xs.length + 1, fun k hk => ?_⟩
  show laws_eqIntS.f k xs xs = some true
  unfold laws_eqIntS.f
  rw [if_pos rfl]
  exact loop xs.length k 0 (by omega) (by omega) (by omega) (by omega)

def marked (n : Nat) (a : Int) : List Int := (List.range n).map (fun j : Nat => a + (j : Int))
theorem marked_length (n : Nat) (a : Int) : (marked n a).length = n := by simp [marked]
theorem marked_succ (n : Nat) (a : Int) : marked (n + 1) a = marked n a ++ [a + n] := by simp [marked, List.range_succ]
theorem marked_get (n : Nat) (a : Int) (j : Nat) (h : j < n) : (marked n a).getD j 0 = a + j := by simp [marked, List.getD, h]

theorem marked_step (xs : List Int) (a : Int) (i : Nat) (h : i < xs.length) : (marked i a ++ xs.drop i).set i (a + i) = marked (i + 1) a ++ xs.drop (i + 1) := by
  rw [List.set_append_right _ _ (by rw [marked_length]; exact Nat.le_refl _), marked_length, Nat.sub_self, List.drop_eq_getElem_cons h, List.set_cons_zero, marked_succ]
  simp

theorem markIntS_ev (xs : List Int) (a : Int) (h0 : 0 ≤ a) (ha : a + xs.length ≤ 4611686018427387904) : Ev (fun k => laws_markIntS.f k xs a) (a + xs.length, marked xs.length a) := by
  have loop : ∀ (d k i : Nat), i ≤ xs.length → xs.length - i = d → d < k → laws_markIntS.l0 k (marked i a ++ xs.drop i) (a + i) i = some (a + xs.length, marked xs.length a) := by
    intro d
    induction d with
    | zero =>
      intro k i h1 hd hk
      obtain ⟨k, rfl⟩ : ∃ m, k = m + 1 := ⟨k - 1, by omega⟩
      obtain rfl : i = xs.length := by omega
      have hl : (marked xs.length a ++ xs.drop xs.length).length = xs.length := by simp [marked_length]
      rw [laws_markIntS.l0, hl, if_neg (by omega)]
      simp
    | succ d ih =>
      intro k i h1 hd hk
      obtain ⟨k, rfl⟩ : ∃ m, k = m + 1 := ⟨k - 1, by omega⟩
      have hl : (marked i a ++ xs.drop i).length = xs.length := by simp [marked_length]; omega
      rw [laws_markIntS.l0, hl, if_pos (by omega), if_pos (by omega), Int.toNat_natCast, marked_step xs a i (by omega), w64 (by omega) (by omega), w64 (by omega) (by omega)]
      have e : a + (i : Int) + 1 = a + ((i + 1 : Nat) : Int) := by omega
      rw [e]
      exact ih k (i + 1) (by omega) (by omega) (by omega)
  refine ⟨xs.length + 1, fun k hk => ?_⟩
  have h := loop xs.length k 0 (by omega) (by omega) (by omega)
  simpa [marked, laws_markIntS.f] using h

theorem heldIntS_ev (n : Nat) (a : Int) (h0 : 0 ≤ a) (ha : a + n ≤ 4611686018427387904) : Ev (fun k => laws_heldIntS.f k (marked n a) a) (a + n) := by
  have loop : ∀ (d k i : Nat), i ≤ n → n - i = d → d < k → laws_heldIntS.l0 k (marked n a) (a + i) i = some (a + n) := by
    intro d
    induction d with
    | zero =>
      intro k i h1 hd hk
      obtain ⟨k, rfl⟩ : ∃ m, k = m + 1 := ⟨k - 1, by omega⟩
      obtain rfl : i = n := by omega
      rw [laws_heldIntS.l0, marked_length, if_neg (by omega)]
    | succ d ih =>
      intro k i h1 hd hk
      obtain ⟨k, rfl⟩ : ∃ m, k = m + 1 := ⟨k - 1, by omega⟩
      rw [laws_heldIntS.l0, marked_length, if_pos (by omega), if_pos (by omega), rd_nat, marked_get n a i (by omega), if_pos rfl, w64 (by omega) (by omega), w64 (by omega) (by omega)]
      have e : a + (i : Int) + 1 = a + ((i + 1 : Nat) : Int) := by omega
      rw [e]
      exact ih k (i + 1) (by omega) (by omega) (by omega)
  refine ⟨n + 1, fun k hk => ?_⟩
  have h := loop n k 0 (by omega) (by omega) (by omega)
  simpa [laws_heldIntS.f] using h

abbrev St := S47
def inner (xs : List Int) (k j : Int) : Nat → Int → List St
  | 0, _ => []
  | d + 1, i => if wrap64 (rd xs i + rd xs j) = rd xs k then ⟨i, j⟩ :: inner xs k j d (i + 1) else inner xs k j d (i + 1)
def outer (xs : List Int) (k : Int) : Nat → Int → List St
  | 0, _ => []
  | d + 1, j => inner xs k j (j + 1).toNat 0 ++ outer xs k d (j + 1)
def sumsOf (xs : List Int) (k : Int) : List St := outer xs k k.toNat 0

theorem inner_length (xs : List Int) (k j : Int) : ∀ (d : Nat) (i : Int), (inner xs k j d i).length ≤ d
  | 0, _ => Nat.le_refl _
  | d + 1, i => by
    have := inner_length xs k j d (i + 1)
    unfold inner
    split
    · simp only [List.length_cons]; omega
    · omega

theorem spec_inner (xs : List Int) (k j : Int) (r : List St) (hj : 0 ≤ j) (hjk : j < k) (hk : k < xs.length) (hl : xs.length ≤ 100000) : ∀ (d : Nat) (i : Int) (acc : List St), 0 ≤ i → i + d = j + 1 → acc.length + d ≤ 8000000000000 →
    Ev (fun f => spec_chPairs.l0 f xs k (acc ++ inner xs k j d i) (j + 1)) r → Ev (fun f => spec_chPairs.l1 f xs k acc j i) r := by
  intro d
  induction d with
  | zero =>
    intro i acc hi hd _ h
    refine ev_shift ?_
    simp only [spec_chPairs.l1, if_neg (show ¬ i ≤ j by omega), w64 (show -9223372036854775808 ≤ j + 1 by omega) (by omega)]
    simpa [inner] using h
  | succ d ih =>
    intro i acc hi hd hacc h
    refine ev_shift ?_
    simp only [spec_chPairs.l1, if_pos (show i ≤ j by omega), if_pos hi, if_pos (show i < (xs.length : Int) by omega), if_pos hj, if_pos (show j < (xs.length : Int) by omega), if_pos (show 0 ≤ k by omega), if_pos hk,
      w64 (show -9223372036854775808 ≤ i + 1 by omega) (by omega)]
    by_cases c : wrap64 (rd xs i + rd xs j) = rd xs k
    · simp only [if_pos c, if_pos (show acc.length < 8796093022208 by omega)]
      refine ih (i + 1) (acc ++ [⟨i, j⟩]) (by omega) (by omega) (by simp only [List.length_append, List.length_singleton]; omega) ?_
      simpa [inner, c] using h
    · simp only [if_neg c]
      refine ih (i + 1) acc (by omega) (by omega) (by omega) ?_
      simpa [inner, c] using h

theorem spec_outer (xs : List Int) (k : Int) (hk : k < xs.length) (hl : xs.length ≤ 100000) : ∀ (d : Nat) (j : Int) (acc : List St), 0 ≤ j → j + d = k → acc.length + d * 100001 ≤ 8000000000000 →
    Ev (fun f => spec_chPairs.l0 f xs k acc j) (acc ++ outer xs k d j) := by
  intro d
  induction d with
  | zero =>
    intro j acc hj hd _
    refine ev_shift ?_
    simp only [spec_chPairs.l0, if_neg (show ¬ j < k by omega), outer, List.append_nil]
    exact Ev.now _
  | succ d ih =>
    intro j acc hj hd hacc
    refine ev_shift ?_
    simp only [spec_chPairs.l0, if_pos (show j < k by omega)]
    have hi := inner_length xs k j (j + 1).toNat 0
    refine spec_inner xs k j _ hj (by omega) hk hl (j + 1).toNat 0 acc (by omega) (by omega) (by omega) ?_
    have h := ih (j + 1) (acc ++ inner xs k j (j + 1).toNat 0) (by omega) (by omega) (by rw [List.length_append]; omega)
    simpa [outer] using h

theorem chPairs_ev (xs : List Int) (k : Int) (h0 : 0 ≤ k) (hk : k < xs.length) (hl : xs.length ≤ 100000) : Ev (fun f => spec_chPairs.f f xs k) (sumsOf xs k) := by
  have h := spec_outer xs k hk hl k.toNat 0 [] (by omega) (by omega) (by simp only [List.length_nil]; omega)
  simpa [sumsOf, spec_chPairs.f] using h

theorem impl_inner (xs : List Int) (k j : Int) (r : List St) (hj : 0 ≤ j) (hjk : j < k) (hk : k < xs.length) (hl : xs.length ≤ 100000) : ∀ (d : Nat) (i : Int) (acc : List St), 0 ≤ i → i + d = j + 1 → acc.length + d ≤ 8000000000000 →
    Ev (fun f => impl_sums.l0 f xs k (acc ++ inner xs k j d i) k (j + 1)) r → Ev (fun f => impl_sums.l1 f xs k acc j k j (j + 1) i) r := by
  intro d
  induction d with
  | zero =>
    intro i acc hi hd _ h
    refine ev_shift ?_
    simp only [impl_sums.l1, if_neg (show ¬ i < j + 1 by omega), w64 (show -9223372036854775808 ≤ j + 1 by omega) (by omega)]
    simpa [inner] using h
  | succ d ih =>
    intro i acc hi hd hacc h
    refine ev_shift ?_
    simp only [impl_sums.l1, if_pos (show i < j + 1 by omega), if_pos hi, if_pos (show i < (xs.length : Int) by omega), if_pos hj, if_pos (show j < (xs.length : Int) by omega), if_pos (show 0 ≤ k by omega), if_pos hk,
      w64 (show -9223372036854775808 ≤ i + 1 by omega) (by omega)]
    by_cases c : wrap64 (rd xs i + rd xs j) = rd xs k
    · simp only [if_pos c, if_pos (show acc.length < 8796093022208 by omega)]
      refine ih (i + 1) (acc ++ [⟨i, j⟩]) (by omega) (by omega) (by simp only [List.length_append, List.length_singleton]; omega) ?_
      simpa [inner, c] using h
    · simp only [if_neg c]
      refine ih (i + 1) acc (by omega) (by omega) (by omega) ?_
      simpa [inner, c] using h
theorem impl_outer (xs : List Int) (k : Int) (hk : k < xs.length) (hl : xs.length ≤ 100000) : ∀ (d : Nat) (j : Int) (acc : List St), 0 ≤ j → j + d = k → acc.length + d * 100001 ≤ 8000000000000 →
    Ev (fun f => impl_sums.l0 f xs k acc k j) (acc ++ outer xs k d j) := by
  intro d
  induction d with
  | zero =>
    intro j acc hj hd _
    refine ev_shift ?_
    simp only [impl_sums.l0, if_neg (show ¬ j < k by omega), outer, List.append_nil]
    exact Ev.now _
  | succ d ih =>
    intro j acc hj hd hacc
    refine ev_shift ?_
    simp only [impl_sums.l0, if_pos (show j < k by omega), w64 (show -9223372036854775808 ≤ j + 1 by omega) (by omega)]
    have hi := inner_length xs k j (j + 1).toNat 0
    refine impl_inner xs k j _ hj (by omega) hk hl (j + 1).toNat 0 acc (by omega) (by omega) (by omega) ?_
    have h := ih (j + 1) (acc ++ inner xs k j (j + 1).toNat 0) (by omega) (by omega) (by rw [List.length_append]; omega)
    simpa [outer] using h
theorem sums_ev (xs : List Int) (k : Int) (h0 : 0 ≤ k) (hk : k < xs.length) (hl : xs.length ≤ 100000) : Ev (fun f => impl_sums.f f xs k) (sumsOf xs k) := by
  have h := impl_outer xs k hk hl k.toNat 0 [] (by omega) (by omega) (by simp only [List.length_nil]; omega)
  simpa [sumsOf, impl_sums.f] using h

/-! the chain's test, in both ways -/
def risingFrom (xs : List Int) : Nat → Int → Bool
  | 0, _ => true
  | d + 1, i => if rd xs i ≥ 1 then (if rd xs i ≤ 1000000 then (if i > 0 then (if rd xs (i - 1) ≥ rd xs i then false else risingFrom xs d (i + 1)) else risingFrom xs d (i + 1)) else false) else false
def pairsFrom (xs : List Int) : Nat → Int → Bool
  | 0, _ => true
  | d + 1, k => if (sumsOf xs k).length = 0 then false else pairsFrom xs d (k + 1)
def implFrom (xs : List Int) : Nat → Int → Bool
  | 0, _ => true
  | d + 1, k => if rd xs k ≤ rd xs (k - 1) then false else if rd xs k > 1000000 then false else if (sumsOf xs k).length = 0 then false else implFrom xs d (k + 1)
/-- Is it a chain? -/
def chain (xs : List Int) : Bool := if 1 ≤ xs.length ∧ xs.length ≤ 41 then (if rd xs 0 = 1 then implFrom xs (xs.length - 1) 1 else false) else false

theorem from_same (xs : List Int) : ∀ (d : Nat) (i : Int), 1 ≤ i → 1 ≤ rd xs (i - 1) → (risingFrom xs d i && pairsFrom xs d i) = implFrom xs d i
  | 0, _, _, _ => rfl
  | d + 1, i, h1, h2 => by
    unfold risingFrom pairsFrom implFrom
    rw [if_pos (show i > 0 by omega)]
    by_cases c1 : rd xs i ≤ rd xs (i - 1)
    · rw [if_pos c1, if_pos (show rd xs (i - 1) ≥ rd xs i from c1)]
      split
      · split <;> rfl
      · rfl
    · rw [if_neg c1, if_neg (show ¬ rd xs (i - 1) ≥ rd xs i from c1), if_pos (show rd xs i ≥ 1 by omega)]
      by_cases c2 : rd xs i > 1000000
      · rw [if_pos c2, if_neg (by omega)]; rfl
      · rw [if_neg c2, if_pos (by omega)]
        by_cases c3 : (sumsOf xs i).length = 0
        · rw [if_pos c3, if_pos c3, Bool.and_false]
        · rw [if_neg c3, if_neg c3]
          have e : i + 1 - 1 = i := by omega
          exact from_same xs d (i + 1) (by omega) (by rw [e]; omega)

theorem l1In_eq (a b c : Int) : spec_l1In.f a b c = some (decide (b ≤ a) && decide (a ≤ c)) := by
  unfold spec_l1In.f
  by_cases h : a ≥ b
  · rw [if_pos h]; simp [show b ≤ a from h]
  · rw [if_neg h]; simp [show ¬ b ≤ a from h]
theorem in_eq (a b c : Int) : impl_in.f a b c = some (decide (b ≤ a) && decide (a ≤ c)) := by
  unfold impl_in.f
  by_cases h : a ≥ b
  · rw [if_pos h]; simp [show b ≤ a from h]
  · rw [if_neg h]; simp [show ¬ b ≤ a from h]
theorem rising_ev (xs : List Int) (hl : xs.length ≤ 100000) : ∀ (d : Nat) (i : Int), 0 ≤ i → i + d = xs.length → Ev (fun f => spec_l1Rising.l0 f xs 1 1000000 xs xs.length i) (risingFrom xs d i) := by
  intro d
  induction d with
  | zero =>
    intro i h0 hd
    refine ev_shift ?_
    simp only [spec_l1Rising.l0, if_neg (show ¬ i < (xs.length : Int) by omega), risingFrom]
    exact Ev.now _
  | succ d ih =>
    intro i h0 hd
    have hn := ih (i + 1) (by omega) (by omega)
    refine ev_shift ?_
    simp only [spec_l1Rising.l0, if_pos (show i < (xs.length : Int) by omega), if_pos h0, w64 (show -9223372036854775808 ≤ i + 1 by omega) (by omega), w64 (show -9223372036854775808 ≤ i - 1 by omega) (by omega), l1In_eq, Option.bind_some]
    unfold risingFrom
    by_cases c1 : rd xs i ≥ 1
    · by_cases c2 : rd xs i ≤ 1000000
      · rw [if_pos c1, if_pos c2]
        simp only [decide_eq_true (show 1 ≤ rd xs i from c1), decide_eq_true c2, Bool.and_self, if_true]
        by_cases c3 : i > 0
        · simp only [if_pos c3, if_pos (show 0 ≤ i - 1 by omega), if_pos (show i - 1 < (xs.length : Int) by omega)]
          by_cases c4 : rd xs (i - 1) ≥ rd xs i
          · simp only [if_pos c4]; exact Ev.now _
          · simp only [if_neg c4]; exact hn
        · simp only [if_neg c3]; exact hn
      · rw [if_pos c1, if_neg c2]
        simp only [decide_eq_false c2, Bool.and_false, Bool.false_eq_true, if_false]
        exact Ev.now _
    · rw [if_neg c1]
      simp only [decide_eq_false (show ¬ 1 ≤ rd xs i from c1), Bool.false_and, Bool.false_eq_true, if_false]
      exact Ev.now _

theorem pairs_ev (xs : List Int) (hl : xs.length ≤ 100000) : ∀ (d : Nat) (k : Int), 0 ≤ k → k + d = xs.length → Ev (fun f => spec_chGood.l0 f xs k) (pairsFrom xs d k) := by
  intro d
  induction d with
  | zero =>
    intro i h0 hd
    refine ev_shift ?_
    simp only [spec_chGood.l0, if_neg (show ¬ i < (xs.length : Int) by omega), pairsFrom]
    exact Ev.now _
  | succ d ih =>
    intro i h0 hd
    have hn := ih (i + 1) (by omega) (by omega)
    refine ev_shift ?_
    simp only [spec_chGood.l0, if_pos (show i < (xs.length : Int) by omega), w64 (show -9223372036854775808 ≤ i + 1 by omega) (by omega)]
    refine ev_bind (chPairs_ev xs i h0 (by omega) hl) ?_
    unfold pairsFrom
    by_cases c : (sumsOf xs i).length = 0
    · simp only [if_pos c, if_pos (show ((sumsOf xs i).length : Int) = 0 by omega)]; exact Ev.now _
    · simp only [if_neg c, if_neg (show ¬ ((sumsOf xs i).length : Int) = 0 by omega)]; exact hn

theorem implFrom_ev (xs : List Int) (hl : xs.length ≤ 100000) : ∀ (d : Nat) (k : Int), 1 ≤ k → k + d = xs.length → Ev (fun f => impl_IsChain.l0 f xs k) (implFrom xs d k) := by
  intro d
  induction d with
  | zero =>
    intro i h0 hd
    refine ev_shift ?_
    simp only [impl_IsChain.l0, if_neg (show ¬ i < (xs.length : Int) by omega), implFrom]
    exact Ev.now _
  | succ d ih =>
    intro i h0 hd
    have hn := ih (i + 1) (by omega) (by omega)
    refine ev_shift ?_
    simp only [impl_IsChain.l0, if_pos (show i < (xs.length : Int) by omega), if_pos (show 0 ≤ i by omega), w64 (show -9223372036854775808 ≤ i + 1 by omega) (by omega), w64 (show -9223372036854775808 ≤ i - 1 by omega) (by omega), if_pos (show 0 ≤ i - 1 by omega), if_pos (show i - 1 < (xs.length : Int) by omega)]
    unfold implFrom
    by_cases c1 : rd xs i ≤ rd xs (i - 1)
    · simp only [if_pos c1]; exact Ev.now _
    · simp only [if_neg c1]
      by_cases c2 : rd xs i > 1000000
      · simp only [if_pos c2]; exact Ev.now _
      · simp only [if_neg c2]
        refine ev_bind (sums_ev xs i (by omega) (by omega) hl) ?_
        by_cases c : (sumsOf xs i).length = 0
        · simp only [if_pos c, if_pos (show ((sumsOf xs i).length : Int) = 0 by omega)]; exact Ev.now _
        · simp only [if_neg c, if_neg (show ¬ ((sumsOf xs i).length : Int) = 0 by omega)]; exact hn
theorem isChain_ev (xs : List Int) (hl : xs.length ≤ 1048576) : Ev (fun f => impl_IsChain.f f xs) (chain xs) := by
  unfold impl_IsChain.f chain
  simp only [in_eq, Option.bind_some]
  by_cases c : 1 ≤ xs.length ∧ xs.length ≤ 41
  · simp only [if_pos c, decide_eq_true (show (1 : Int) ≤ xs.length by omega), decide_eq_true (show (xs.length : Int) ≤ 41 by omega), Bool.and_self, if_true, if_pos (show (0 : Int) < xs.length by omega)]
    by_cases c1 : rd xs 0 = 1
    · simp only [if_pos c1]
      refine ev_shift ?_
      simp only [impl_IsChain.j0, c1, bne_self_eq_false, Bool.false_eq_true, if_false]
      exact implFrom_ev xs (by omega) (xs.length - 1) 1 (by omega) (by omega)
    · simp only [if_neg c1]
      refine ev_shift ?_
      simp only [impl_IsChain.j0, bne_iff_ne.mpr c1, if_true]
      exact Ev.now _
  · rw [if_neg c]
    have e : (decide ((1 : Int) ≤ xs.length) && decide ((xs.length : Int) ≤ 41)) = false := by
      rw [Bool.and_eq_false_iff, decide_eq_false_iff_not, decide_eq_false_iff_not]; omega
    simp only [e, Bool.false_eq_true, if_false]
    refine ev_shift ?_
    simp only [impl_IsChain.j0, if_true]
    exact Ev.now _
theorem chGood_ev (xs : List Int) (hl : xs.length ≤ 1048576) : Ev (fun f => spec_chGood.f f xs) (chain xs) := by
  unfold spec_chGood.f chain
  simp only [l1In_eq, Option.bind_some]
  by_cases c : 1 ≤ xs.length ∧ xs.length ≤ 41
  · simp only [if_pos c, decide_eq_true (show (1 : Int) ≤ xs.length by omega), decide_eq_true (show (xs.length : Int) ≤ 41 by omega), Bool.and_self, if_true, if_pos (show (0 : Int) < xs.length by omega)]
    by_cases c1 : rd xs 0 = 1
    · simp only [if_pos c1]
      unfold spec_l1Rising.f
      refine ev_bind (rising_ev xs (by omega) xs.length 0 (by omega) (by omega)) ?_
      obtain ⟨n, hn⟩ : ∃ n, xs.length = n + 1 := ⟨xs.length - 1, by omega⟩
      have e1 : risingFrom xs xs.length 0 = risingFrom xs n 1 := by
        rw [hn, risingFrom, c1, if_pos (by decide), if_pos (by decide), if_neg (by decide)]
        rfl
      have e2 : xs.length - 1 = n := by omega
      rw [e1, e2, ← from_same xs n 1 (by omega) (by rw [show (1 : Int) - 1 = 0 from rfl, c1]; omega)]
      refine ev_shift ?_
      simp only [spec_chGood.j0]
      cases hr : risingFrom xs n 1 with
      | false =>
        simp only [Bool.not_false, if_true, Bool.false_and]
        exact Ev.now _
      | true =>
        simp only [Bool.not_true, Bool.false_eq_true, if_false, Bool.true_and]
        exact pairs_ev xs (by omega) n 1 (by omega) (by omega)
    · simp only [if_neg c1]
      refine ev_shift ?_
      simp only [spec_chGood.j0, if_true]
      exact Ev.now _
  · rw [if_neg c]
    have e : (decide ((1 : Int) ≤ xs.length) && decide ((xs.length : Int) ≤ 41)) = false := by
      rw [Bool.and_eq_false_iff, decide_eq_false_iff_not, decide_eq_false_iff_not]; omega
    simp only [e, Bool.false_eq_true, if_false]
    refine ev_shift ?_
    simp only [spec_chGood.j0, if_true]
    exact Ev.now _

theorem implFrom_head (xs : List Int) (d : Nat) (k : Int) (h : implFrom xs (d + 1) k = true) : (sumsOf xs k).length ≠ 0 ∧ implFrom xs d (k + 1) = true ∧ rd xs (k - 1) < rd xs k ∧ rd xs k ≤ 1000000 := by
  unfold implFrom at h
  split at h
  · cases h
  · split at h
    · cases h
    · split at h
      · cases h
      · rename_i a b c
        exact ⟨c, h, by omega, by omega⟩
theorem chain_from (xs : List Int) (h : chain xs = true) : 1 ≤ xs.length ∧ xs.length ≤ 41 ∧ rd xs 0 = 1 ∧ implFrom xs (xs.length - 1) 1 = true := by
  unfold chain at h
  split at h
  · rename_i c
    split at h
    · rename_i c1
      exact ⟨c.1, c.2, c1, h⟩
    · cases h
  · cases h

theorem chain_each (xs : List Int) : ∀ (d : Nat) (i : Int), 1 ≤ i → 1 ≤ rd xs (i - 1) → implFrom xs d i = true → ∀ j : Int, i ≤ j → j < i + d → 1 ≤ rd xs j ∧ rd xs j ≤ 1000000
  | 0, _, _, _, _ => fun j h1 h2 => by omega
  | d + 1, i, h0, h1, h => fun j h2 h3 => by
    obtain ⟨_, h', h4, h5⟩ := implFrom_head xs d i h
    by_cases e : j = i
    · subst e; omega
    · exact chain_each xs d (i + 1) (by omega) (by rw [show i + 1 - 1 = i by omega]; omega) h' j (by omega) (by omega)
theorem chain_nums (xs : List Int) (h : chain xs = true) : ∀ x ∈ xs, 1 ≤ x ∧ x ≤ 1000000 := by
  obtain ⟨h1, h2, h3, h4⟩ := chain_from xs h
  intro x hx
  obtain ⟨j, hj, rfl⟩ := List.getElem_of_mem hx
  have e : rd xs (j : Int) = xs[j] := by simp [rd, List.getD, hj]
  rw [← e]
  by_cases e0 : j = 0
  · subst e0
    rw [show ((0 : Nat) : Int) = 0 from rfl, h3]; omega
  · exact chain_each xs _ 1 (by omega) (by rw [show (1 : Int) - 1 = 0 from rfl, h3]; omega) h4 j (by omega) (by omega)

theorem good_any (xs : List Int) (hl : xs.length ≤ 2000000) : Ev (fun f => spec_chGood.f f xs) (chain xs) := by
  by_cases h : xs.length ≤ 1048576
  · exact chGood_ev xs h
  · unfold spec_chGood.f chain
    simp only [l1In_eq, Option.bind_some]
    rw [if_neg (by omega)]
    have e : (decide ((1 : Int) ≤ xs.length) && decide ((xs.length : Int) ≤ 41)) = false := by
      rw [Bool.and_eq_false_iff, decide_eq_false_iff_not, decide_eq_false_iff_not]; omega
    simp only [e, Bool.false_eq_true, if_false]
    refine ev_shift ?_
    simp only [spec_chGood.j0, if_true]
    exact Ev.now _
def res (l : List Int) : List Int × Bool := if chain l = true then (l, true) else ([], false)
theorem chIf_any (xs : List Int) (hl : xs.length ≤ 2000000) : Ev (fun f => spec_chIf.f f xs) (res xs) := by
  unfold spec_chIf.f res
  refine ev_bind (good_any xs hl) ?_
  split
  · exact Ev.now _
  · exact Ev.now _

theorem at_byte (s : ByteArray) (i : Nat) (h : i < s.size) : ∃ b : UInt8, s.data.toList.drop i = b :: s.data.toList.drop (i + 1) ∧ bt s (i : Int) = (b.toNat : Int) := by
  have hl : i < s.data.toList.length := by rw [Array.length_toList]; exact h
  refine ⟨s.data.toList[i], List.drop_eq_getElem_cons hl, ?_⟩
  unfold bt
  rw [dif_pos (by rw [Int.toNat_natCast]; exact h)]
  simp only [Int.toNat_natCast, Array.getElem_toList]
  rfl
theorem mk_data (s : ByteArray) : mkBA s.data.toList = s := by cases s; simp
theorem size_len (s : ByteArray) : s.data.toList.length = s.size := by rw [Array.length_toList]; rfl
theorem ext_s (s : ByteArray) (a b : Nat) : s.extract a b = mkBA ((s.data.toList.drop a).take (b - a)) := by
  have := ext_take s.data.toList a b
  rw [mk_data] at this
  exact this

theorem split_loop (s : ByteArray) (hs : s.size ≤ 1048576) : ∀ (d i fr : Nat) (acc : List ByteArray), i + d = s.size → fr ≤ i → acc.length ≤ i →
    Ev (fun k => spec_l1Split.l0 k s 32 acc (fr : Int) (i : Int)) (acc ++ (cut ((s.data.toList.drop fr).take (i - fr)) (s.data.toList.drop i)).map mkBA) := by
  intro d
  induction d with
  | zero =>
    intro i fr acc hi hf ha
    refine ev_shift ?_
    obtain rfl : i = s.size := by omega
    simp only [spec_l1Split.l0, if_neg (show ¬ (s.size : Int) < (s.size : Int) by omega), if_pos (show (0 : Int) ≤ fr by omega), if_pos (show (fr : Int) ≤ s.size by omega), if_pos (show acc.length < 8796093022208 by omega), Int.toNat_natCast]
    rw [ext_s, List.drop_of_length_le (i := s.size) (by rw [size_len]; omega)]
    exact Ev.now _
  | succ d ih =>
    intro i fr acc hi hf ha
    obtain ⟨b, hd, hb⟩ := at_byte s i (by omega)
    refine ev_shift ?_
    have hw : wrap64 ((i : Int) + 1) = ((i + 1 : Nat) : Int) := by unfold wrap64; omega
    simp only [spec_l1Split.l0, if_pos (show (i : Int) < (s.size : Int) by omega), if_pos (show (0 : Int) ≤ i by omega), hb, hw]
    rw [hd]
    by_cases c : b = 32
    · subst c
      simp only [show (((32 : UInt8).toNat : Nat) : Int) = 32 from rfl, if_true, if_pos (show (0 : Int) ≤ fr by omega), if_pos (show (fr : Int) ≤ i by omega), if_pos (show (i : Int) ≤ s.size by omega), if_pos (show acc.length < 8796093022208 by omega), Int.toNat_natCast]
      have h := ih (i + 1) (i + 1) (acc ++ [s.extract fr i]) (by omega) (Nat.le_refl _) (by rw [List.length_append, List.length_singleton]; omega)
      rw [Nat.sub_self, List.take_zero, ext_s] at h
      rw [cut, if_pos rfl, List.map_cons]
      rw [ext_s]
      simpa using h
    · have hne : ¬ (b.toNat : Int) = 32 := fun e => c (UInt8.toNat_inj.1 (by show b.toNat = 32; omega))
      simp only [if_neg hne]
      have h := ih (i + 1) fr acc (by omega) (by omega) (by omega)
      have e : (s.data.toList.drop fr).take (i + 1 - fr) = (s.data.toList.drop fr).take (i - fr) ++ [b] := by
        rw [show i + 1 - fr = (i - fr) + 1 by omega, List.take_add_one]
        congr 1
        rw [List.getElem?_drop, show fr + (i - fr) = i by omega]
        have h2 : (s.data.toList.drop i)[0]? = some b := by rw [hd]; rfl
        rw [List.getElem?_drop, Nat.add_zero] at h2
        rw [h2]; rfl
      rw [e] at h
      rw [cut, if_neg c]
      exact h
def cuts (s : ByteArray) : List ByteArray := (cut [] s.data.toList).map mkBA
theorem split_ev (s : ByteArray) (hs : s.size ≤ 1048576) : Ev (fun k => spec_l1Split.f k s 32) (cuts s) := by
  have h := split_loop s hs s.size 0 0 [] (by omega) (Nat.le_refl _) (Nat.le_refl _)
  simpa [cuts, spec_l1Split.f] using h
theorem cut_len : ∀ (r cur : List UInt8), (cut cur r).length ≤ r.length + 1
  | [], cur => by simp [cut]
  | b :: r, cur => by
    unfold cut
    split
    · have := cut_len r []; simp only [List.length_cons]; omega
    · have := cut_len r (cur ++ [b]); simp only [List.length_cons]; omega

theorem pow_low : ∀ i : Nat, i ≤ 5 → 10 ^ i ≤ 100000
  | 0, _ => by decide
  | 1, _ => by decide
  | 2, _ => by decide
  | 3, _ => by decide
  | 4, _ => by decide
  | 5, _ => by decide
  | n + 6, h => by omega
theorem step_num (n c : Nat) (h1 : n < 100000) (h2 : 48 ≤ c) (h3 : c ≤ 57) : wrap64 (wrap64 (10 * (n : Int)) + (((c : Int) - 48) % 256)) = ((10 * n + (c - 48) : Nat) : Int) := by
  obtain ⟨d, rfl⟩ : ∃ d, c = 48 + d := ⟨c - 48, by omega⟩
  rw [show ((48 + d : Nat) : Int) - 48 = (d : Int) by omega, Int.emod_eq_of_lt (by omega) (by omega), w64 (show -9223372036854775808 ≤ 10 * (n : Int) by omega) (by omega), w64 (by omega) (by omega)]
  omega
theorem read_loop (p : ByteArray) (hp : p.size ≤ 6) : ∀ (d i n : Nat), i + d = p.size → n < 10 ^ i → Ev (fun k => spec_l1Read.l0 k p (n : Int) (i : Int)) (rdl n (p.data.toList.drop i)) := by
  intro d
  induction d with
  | zero =>
    intro i n hi hn
    refine ev_shift ?_
    simp only [spec_l1Read.l0, if_neg (show ¬ (i : Int) < (p.size : Int) by omega)]
    rw [List.drop_of_length_le (by rw [size_len]; omega)]
    exact Ev.now _
  | succ d ih =>
    intro i n hi hn
    obtain ⟨b, hd, hb⟩ := at_byte p i (by omega)
    refine ev_shift ?_
    have hw : wrap64 ((i : Int) + 1) = ((i + 1 : Nat) : Int) := by unfold wrap64; omega
    have hps : (10 : Nat) ^ (i + 1) = 10 ^ i * 10 := Nat.pow_succ ..
    have hpow : 10 ^ i ≤ 100000 := pow_low i (by omega)
    obtain ⟨P, hP⟩ : ∃ P, 10 ^ i = P := ⟨_, rfl⟩
    rw [hP] at hps hpow hn
    clear hP
    have hbr : b.toNat < 256 := b.toNat_lt
    simp only [spec_l1Read.l0, if_pos (show (i : Int) < (p.size : Int) by omega), if_pos (show (0 : Int) ≤ i by omega), hb, hw]
    rw [hd]
    simp only [rdl]
    by_cases c1 : (b.toNat : Int) < 48
    · simp only [if_pos c1]
      rw [if_neg (fun h => by unfold Dg at h; omega)]
      exact Ev.now _
    · simp only [if_neg c1]
      by_cases c2 : (b.toNat : Int) > 57
      · simp only [if_pos c2]
        rw [if_neg (fun h => by unfold Dg at h; omega)]
        exact Ev.now _
      · simp only [if_neg c2]
        rw [if_pos (show Dg b by unfold Dg; omega)]
        have es := stp_eq n b
        have e1 : wrap64 (wrap64 (10 * (n : Int)) + (((b.toNat : Int) - 48) % 256)) = ((stp n b : Nat) : Int) := by
          rw [es]; exact step_num n b.toNat (Nat.lt_of_lt_of_le hn hpow) (by omega) (by omega)
        rw [e1]
        refine ih (i + 1) (stp n b) (by omega) ?_
        rw [hps]
        clear ih hd hps e1
        omega
theorem read_ev (p : ByteArray) : Ev (fun k => spec_l1Read.f k p) (rdn p.data.toList) := by
  unfold spec_l1Read.f
  simp only [l1In_eq, Option.bind_some]
  unfold rdn
  rw [size_len]
  by_cases c : 1 ≤ p.size ∧ p.size ≤ 6
  · simp only [if_pos c, decide_eq_true (show (1 : Int) ≤ p.size by omega), decide_eq_true (show (p.size : Int) ≤ 6 by omega), Bool.and_self, if_true, if_pos (show (0 : Int) < p.size by omega)]
    obtain ⟨b, hd, hb⟩ := at_byte p 0 (by omega)
    rw [List.drop_zero] at hd
    have hloop := read_loop p c.2 p.size 0 0 (by omega) (by decide)
    rw [List.drop_zero] at hloop
    have hb' : bt p 0 = (b.toNat : Int) := hb
    have hh : p.data.toList.head? = some b := by rw [hd]; rfl
    rw [hh]
    by_cases c1 : b = 48
    · subst c1
      simp only [hb', show (((48 : UInt8).toNat : Nat) : Int) = 48 from rfl, if_true, true_and]
      by_cases c2 : 1 < p.size
      · simp only [if_pos c2, decide_eq_true (show (p.size : Int) > 1 by omega)]
        refine ev_shift ?_
        simp only [spec_l1Read.j0, if_true]
        exact Ev.now _
      · simp only [if_neg c2, decide_eq_false (show ¬ (p.size : Int) > 1 by omega)]
        refine ev_shift ?_
        simp only [spec_l1Read.j0, Bool.false_eq_true, if_false]
        exact hloop
    · have hne : ¬ bt p 0 = 48 := fun e => c1 (UInt8.toNat_inj.1 (by show b.toNat = 48; omega))
      simp only [if_neg hne, Option.some.injEq, c1, false_and, if_false]
      refine ev_shift ?_
      simp only [spec_l1Read.j0, Bool.false_eq_true, if_false]
      exact hloop
  · rw [if_neg c]
    have e : (decide ((1 : Int) ≤ p.size) && decide ((p.size : Int) ≤ 6)) = false := by
      rw [Bool.and_eq_false_iff, decide_eq_false_iff_not, decide_eq_false_iff_not]; omega
    simp only [e, Bool.false_eq_true, if_false]
    refine ev_shift ?_
    simp only [spec_l1Read.j0, if_true]
    exact Ev.now _
def rdB (p : ByteArray) : Int := rdc p.data.toList
theorem chRead_ev (p : ByteArray) : Ev (fun k => spec_chRead.f k p) (rdB p) := by
  unfold spec_chRead.f rdB rdc
  rw [Lib.toList_data]
  by_cases c : p.data.toList = mil
  · simp only [if_pos c, if_pos (show p.data.toList = [49, 48, 48, 48, 48, 48, 48] from c)]
    exact Ev.now _
  · simp only [if_neg c, if_neg (show ¬ p.data.toList = [49, 48, 48, 48, 48, 48, 48] from c)]
    exact ev_bind (read_ev p) (Ev.now _)
theorem parse_loop (ps : List ByteArray) (hl : ps.length ≤ 2000000) : ∀ (d i : Nat), i + d = ps.length → Ev (fun k => spec_ParseChain.l0 k ((ps.take i).map rdB) ps (ps.length : Int) (i : Int)) (res (ps.map rdB)) := by
  intro d
  induction d with
  | zero =>
    intro i hi
    refine ev_shift ?_
    obtain rfl : i = ps.length := by omega
    simp only [spec_ParseChain.l0, if_neg (show ¬ (ps.length : Int) < (ps.length : Int) by omega)]
    rw [List.take_length]
    exact ev_bind (chIf_any _ (by rw [List.length_map]; exact hl)) (Ev.now _)
  | succ d ih =>
    intro i hi
    refine ev_shift ?_
    have hw : wrap64 ((i : Int) + 1) = ((i + 1 : Nat) : Int) := by unfold wrap64; omega
    have hn := ih (i + 1) (by omega)
    have hlen : ((ps.take i).map rdB).length < 17592186044416 := by rw [List.length_map, List.length_take]; omega
    have e : (ps.take (i + 1)).map rdB = (ps.take i).map rdB ++ [rdB (rdOf ByteArray.empty ps (i : Int))] := by
      have e0 : rdOf ByteArray.empty ps (i : Int) = ps[i] := by simp [rdOf, List.getD, show i < ps.length by omega]
      rw [List.take_succ_eq_append_getElem (show i < ps.length by omega), List.map_append, e0]; rfl
    rw [e] at hn
    simp only [spec_ParseChain.l0, if_pos (show (i : Int) < (ps.length : Int) by omega), if_pos (show (0 : Int) ≤ i by omega), hw]
    refine ev_bind (chRead_ev _) ?_
    simp only [if_pos hlen]
    exact hn
def sl (s : ByteArray) : List Int := (cuts s).map rdB
theorem spec_ev (s : ByteArray) (hs : s.size ≤ 1048576) : Ev (fun k => spec_ParseChain.f k s) (res (sl s)) := by
  unfold spec_ParseChain.f
  refine ev_bind (split_ev s hs) ?_
  have := cut_len s.data.toList []
  rw [size_len] at this
  have h := parse_loop (cuts s) (by unfold cuts; rw [List.length_map]; omega) (cuts s).length 0 (by omega)
  unfold sl
  simpa using h

/-! the two ways meet -/
theorem sl_eq (s : ByteArray) : sl s = (cut [] s.data.toList).map rdc := by
  unfold sl cuts
  rw [List.map_map]
  exact List.map_congr_left fun p _ => by simp [rdB]
theorem text_sl (s : ByteArray) (h : chain (sl s) = true) : text (sl s) = s := by
  have hx := chain_nums _ h
  have e : (sl s).map Lib.itoa = cut [] s.data.toList := by
    have e2 : (cut [] s.data.toList).map (Lib.itoa ∘ rdc) = (cut [] s.data.toList).map id := List.map_congr_left fun p hp => itoa_rdc p (hx (rdc p) (by rw [sl_eq]; exact List.mem_map_of_mem hp)).1
    rw [sl_eq, List.map_map, e2, List.map_id]
  unfold text
  rw [e, join_cut, List.nil_append]
  first | done | exact mk_data s
theorem itoas_ne (l : List Int) (h : 0 < l.length) : l.map Lib.itoa ≠ [] := fun e => by
  have := congrArg List.length e
  rw [List.length_map, List.length_nil] at this
  omega
theorem sl_text (l : List Int) (h : chain l = true) : sl (text l) = l := by
  obtain ⟨h1, _, _, _⟩ := chain_from l h
  have hx := chain_nums l h
  rw [sl_eq]
  have e : (text l).data.toList = Lib.join (l.map Lib.itoa) [32] := by simp [text]
  rw [e, cut_join _ (itoas_ne l (by omega)) (fun p hp b hb => by
    obtain ⟨x, hm, rfl⟩ := List.mem_map.1 hp
    exact itoa_plain x (hx x hm).1 b hb), List.map_map]
  have e2 : l.map (rdc ∘ Lib.itoa) = l.map id := List.map_congr_left fun x hm => rdc_itoa x (hx x hm).1 (hx x hm).2
  rw [e2, List.map_id]
theorem lens_ge (l : List Int) : l.length ≤ (Lib.join (l.map Lib.itoa) [32]).length + 1 := by
  match l with
  | [] => simp
  | x :: r =>
    rw [List.map_cons, Lib.join_length]
    simp only [List.length_cons, List.length_map, List.length_nil]
    omega
theorem nums_text (l : List Int) (h : chain l = true) : nums (text l) = l := by
  obtain ⟨h1, h2, _, _⟩ := chain_from l h
  have hx := chain_nums l h
  have hg := lens_ge l
  unfold Go.Proofs.YtlefjgpkabijdaaDoor.PC.nums pieces
  have e : text l = mkBA (Lib.join (l.map Lib.itoa) [32]) := rfl
  rw [e, CP.mk_size, split_join _ _ (itoas_ne l (by omega)) (fun p hp b hb => by
    obtain ⟨x, hm, rfl⟩ := List.mem_map.1 hp
    exact itoa_plain x (hx x hm).1 b hb) (by rw [List.length_map]; omega), List.map_map, List.map_map]
  have e2 : l.map ((val ∘ mkBA) ∘ Lib.itoa) = l.map id := List.map_congr_left fun x hm => val_num x (hx x hm).1 (hx x hm).2
  rw [e2, List.map_id]
theorem res_of (s : ByteArray) : res (sl s) = if chain (nums s) = true ∧ text (nums s) = s then (nums s, true) else ([], false) := by
  unfold res
  by_cases c : chain (nums s) = true ∧ text (nums s) = s
  · rw [if_pos c]
    have e : sl s = nums s := by
      have := sl_text (nums s) c.1
      rw [c.2] at this; exact this
    rw [e, if_pos c.1]
  · rw [if_neg c, if_neg (fun h => c ?_)]
    have e1 := text_sl s h
    have e2 := nums_text (sl s) h
    rw [e1] at e2
    rw [e2]; exact ⟨h, e1⟩
theorem nums_len (s : ByteArray) : (nums s).length ≤ 42 := by
  unfold Go.Proofs.YtlefjgpkabijdaaDoor.PC.nums; rw [List.length_map]; have := pieces_len s; omega

/-- WHAT THE LAW NEEDS. -/
theorem answers (s : ByteArray) (hs : s.size ≤ 1048576) : ∃ (k : Nat) (r r2 : List Int) (m : Int) (b : Bool), spec_ParseChain.f k s = some (r, b) ∧ laws_eqIntS.f k r r = some true ∧ laws_markIntS.f k r 1 = some (m, r2) ∧ laws_heldIntS.f k r2 1 = some m ∧ r2.length = r.length ∧ 0 ≤ m ∧
    ((impl_IsChain.f k (nums s) = some false ∧ r = [] ∧ b = false) ∨
     (impl_IsChain.f k (nums s) = some true ∧ 0 < (nums s).length ∧ (nums s).length ≤ 1000 ∧ (∀ x ∈ nums s, 1 ≤ x ∧ x ≤ 1000000) ∧ (Lib.join ((nums s).map Lib.itoa) [32]).length ≤ 140737488355328 ∧
       (((((text (nums s)).toList == s.toList) = false) ∧ r = [] ∧ b = false) ∨ ((((text (nums s)).toList == s.toList) = true) ∧ r = nums s ∧ b = true)))) := by
  have hl := nums_len s
  obtain ⟨r, b, hr, hrl⟩ : ∃ r b, res (sl s) = (r, b) ∧ r.length ≤ 42 := by
    rw [res_of]
    split
    · exact ⟨_, _, rfl, hl⟩
    · exact ⟨_, _, rfl, by simp⟩
  have h1 := spec_ev s hs
  rw [hr] at h1
  obtain ⟨k1, h1⟩ := h1
  obtain ⟨k2, h2⟩ := eqIntS_same r (by omega)
  obtain ⟨k3, h3⟩ := markIntS_ev r 1 (by omega) (by omega)
  obtain ⟨k4, h4⟩ := heldIntS_ev r.length 1 (by omega) (by omega)
  obtain ⟨k5, h5⟩ := isChain_ev (nums s) (by omega)
  have h5 := h5 (k1 + k2 + k3 + k4 + k5) (by omega)
  refine ⟨k1 + k2 + k3 + k4 + k5, r, marked r.length 1, 1 + r.length, b, h1 _ (by omega), h2 _ (by omega), h3 _ (by omega), h4 _ (by omega), marked_length _ _, by omega, ?_⟩
  rw [res_of] at hr
  cases c : chain (nums s) with
  | false =>
    rw [c] at h5
    rw [if_neg (by rw [c]; simp)] at hr
    injection hr with e1 e2
    exact .inl ⟨h5, e1.symm, e2.symm⟩
  | true =>
    rw [c] at h5
    obtain ⟨c1, c2, _, _⟩ := chain_from _ c
    have hx := chain_nums _ c
    have hj := CP.join_le _ hx
    refine .inr ⟨h5, by omega, by omega, hx, by omega, ?_⟩
    by_cases ct : text (nums s) = s
    · rw [if_pos ⟨c, ct⟩] at hr
      injection hr with e1 e2
      exact .inr ⟨by rw [ct]; simp, e1.symm, e2.symm⟩
    · rw [if_neg (fun h => ct h.2)] at hr
      injection hr with e1 e2
      refine .inl ⟨beq_eq_false_iff_ne.2 (fun e => ct ?_), e1.symm, e2.symm⟩
      rw [Lib.toList_data, Lib.toList_data] at e
      rw [← mk_data (text (nums s)), e, mk_data]
end Go.Proofs.YtlefjgpkabijdaaDoor.PP
