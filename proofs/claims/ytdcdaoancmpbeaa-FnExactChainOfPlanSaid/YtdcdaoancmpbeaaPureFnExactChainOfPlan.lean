/- For every plan: ChainOfPlan of the program answers as the reference does, leaves the plan as it was, and shares no memory. -/
import Derived.Test.YtdcdaoancmpbeaaMFnExactChainOfPlanx10
namespace Go.Proofs.Ytdcdaoancmpbeaa.Pure
open Go.RowKit Go.Proofs.Ytdcdaoancmpbeaa.MFnExactChainOfPlan Go.Proofs.YtdcdaoancmpbeaaW.PrintWords Go.Proofs.YtdcdaoancmpbeaaW.PrintLast Go.Proofs.YtdcdaoancmpbeaaW.PrintMore
open Go.Proofs.YtdcdaoancmpbeaaH
set_option linter.unusedVariables false
set_option linter.unusedSimpArgs false

theorem w64 {x : Int} (h1 : -9223372036854775808 ≤ x) (h2 : x ≤ 9223372036854775807) : wrap64 x = x := by unfold wrap64; omega

theorem rd_nat (xs : List Int) (j : Nat) : rd xs (j : Int) = xs.getD j 0 := by unfold rd; rw [Int.toNat_natCast]

theorem ev_shift {α : Type} {g : Nat → Option α} {r : α} (h : Ev (fun k => g (k + 1)) r) : Ev g r := by
  obtain ⟨K, hK⟩ := h
  refine ⟨K + 1, fun k hk => ?_⟩
  obtain ⟨m, rfl⟩ : ∃ m, k = m + 1 := ⟨k - 1, by omega⟩
  exact hK m (by omega)

theorem ev_bind {α β : Type} {g : Nat → Option α} {F : Nat → α → Option β} {a : α} {r : β} (h : Ev g a) (k : Ev (fun n => F n a) r) : Ev (fun n => (g n).bind (fun x => F n x)) r := Ev.bind h k

theorem ev_some {α : Type} {g : Nat → Option α} {r : α} (h : ∀ k, g k = some r) : Ev g r := ⟨0, fun k _ => h k⟩

theorem eqIntS_same (xs : List Int) (hb : xs.length ≤ 4611686018427387904) : Ev (fun k => laws_eqIntS.f k xs xs) true := by
  have loop : ∀ (d k : Nat) (i : Int), 0 ≤ i → i ≤ xs.length → (xs.length : Int) - i = d → d < k → laws_eqIntS.l0 k xs xs i = some true := by
    intro d
    induction d with
    | zero =>
      intro k i h0 h1 hd hk
      obtain ⟨k, rfl⟩ : ∃ m, k = m + 1 := ⟨k - 1, by omega⟩
      rw [laws_eqIntS.l0, if_neg (by omega)]
    | succ d ih =>
      intro k i h0 h1 hd hk
      obtain ⟨k, rfl⟩ : ∃ m, k = m + 1 := ⟨k - 1, by omega⟩
      rw [laws_eqIntS.l0, if_pos (by omega), if_pos h0, if_pos (by omega), if_pos rfl, w64 (by omega) (by omega)]
      exact ih k (i + 1) (by omega) (by omega) (by omega) (by omega)
  refine ⟨xs.length + 1, fun k hk => ?_⟩
  show laws_eqIntS.f k xs xs = some true
  unfold laws_eqIntS.f
  rw [if_pos rfl]
  exact loop xs.length k 0 (by omega) (by omega) (by omega) (by omega)

theorem toIntS_step (xs : List Int) (i : Nat) (h : i < xs.length) : (xs.take i ++ List.replicate (xs.length - i) 0).set i (xs.getD i 0) = xs.take (i + 1) ++ List.replicate (xs.length - (i + 1)) 0 := by
  have hl : (xs.take i).length = i := by simp; omega
  rw [List.set_append_right _ _ (by omega), hl, Nat.sub_self]
  obtain ⟨m, hm⟩ : ∃ m, xs.length - i = m + 1 := ⟨xs.length - i - 1, by omega⟩
  have hm2 : xs.length - (i + 1) = m := by omega
  have e : xs.getD i 0 = xs[i] := by simp [List.getD, h]
  rw [hm, hm2, List.replicate_succ, List.set_cons_zero, e, List.take_succ_eq_append_getElem h, List.append_assoc]
  rfl

theorem toIntS_ev (xs : List Int) (hb : xs.length ≤ 35184372088832) : Ev (fun k => laws_toIntS.f k xs) xs := by
  have loop : ∀ (d k i : Nat), i ≤ xs.length → xs.length - i = d → d < k → laws_toIntS.l0 k xs (xs.take i ++ List.replicate (xs.length - i) 0) i = some xs := by
    intro d
    induction d with
    | zero =>
      intro k i h1 hd hk
      obtain ⟨k, rfl⟩ : ∃ m, k = m + 1 := ⟨k - 1, by omega⟩
      obtain rfl : i = xs.length := by omega
      rw [laws_toIntS.l0, if_neg (by omega)]
      simp
    | succ d ih =>
      intro k i h1 hd hk
      obtain ⟨k, rfl⟩ : ∃ m, k = m + 1 := ⟨k - 1, by omega⟩
      have hl : (xs.take i ++ List.replicate (xs.length - i) 0).length = xs.length := by simp; omega
      rw [laws_toIntS.l0, if_pos (by omega), if_pos (by omega), hl, if_pos (by omega), Int.toNat_natCast, rd_nat, toIntS_step xs i (by omega), w64 (by omega) (by omega)]
      exact ih k (i + 1) (by omega) (by omega) (by omega)
  refine ⟨xs.length + 1, fun k hk => ?_⟩
  have h := loop xs.length k 0 (by omega) (by omega) (by omega)
  show laws_toIntS.f k xs = some xs
  unfold laws_toIntS.f
  rw [if_pos (by omega), Int.toNat_natCast, if_pos hb]
  simpa using h

abbrev St := S73
def inner (xs : List Int) (k j : Int) : Nat → Int → List St
  | 0, _ => []
  | d + 1, i => if wrap64 (rd xs i + rd xs j) = rd xs k then ⟨i, j⟩ :: inner xs k j d (i + 1) else inner xs k j d (i + 1)
def outer (xs : List Int) (k : Int) : Nat → Int → List St
  | 0, _ => []
  | d + 1, j => inner xs k j (j + 1).toNat 0 ++ outer xs k d (j + 1)
def sumsOf (xs : List Int) (k : Int) : List St := outer xs k k.toNat 0

theorem inner_length (xs : List Int) (k j : Int) : ∀ (d : Nat) (i : Int), (inner xs k j d i).length ≤ d
  | 0, _ => Nat.le_refl _
  | d + 1, i => by
    have := inner_length xs k j d (i + 1)
    unfold inner
    split
    · simp only [List.length_cons]; omega
    · omega

theorem spec_inner (xs : List Int) (k j : Int) (r : List St) (hj : 0 ≤ j) (hjk : j < k) (hk : k < xs.length) (hl : xs.length ≤ 100000) : ∀ (d : Nat) (i : Int) (acc : List St), 0 ≤ i → i + d = j + 1 → acc.length + d ≤ 8000000000000 →
    Ev (fun f => spec_chPairs.l0 f xs k (acc ++ inner xs k j d i) (j + 1)) r → Ev (fun f => spec_chPairs.l1 f xs k acc j i) r := by
  intro d
  induction d with
  | zero =>
    intro i acc hi hd _ h
    refine ev_shift ?_
    simp only [spec_chPairs.l1, if_neg (show ¬ i ≤ j by omega), w64 (show -9223372036854775808 ≤ j + 1 by omega) (by omega)]
    simpa [inner] using h
  | succ d ih =>
    intro i acc hi hd hacc h
    refine ev_shift ?_
    simp only [spec_chPairs.l1, if_pos (show i ≤ j by omega), if_pos hi, if_pos (show i < (xs.length : Int) by omega), if_pos hj, if_pos (show j < (xs.length : Int) by omega), if_pos (show 0 ≤ k by omega), if_pos hk,
      w64 (show -9223372036854775808 ≤ i + 1 by omega) (by omega)]
    by_cases c : wrap64 (rd xs i + rd xs j) = rd xs k
    · simp only [if_pos c, if_pos (show acc.length < 8796093022208 by omega)]
      refine ih (i + 1) (acc ++ [⟨i, j⟩]) (by omega) (by omega) (by simp only [List.length_append, List.length_singleton]; omega) ?_
      simpa [inner, c] using h
    · simp only [if_neg c]
      refine ih (i + 1) acc (by omega) (by omega) (by omega) ?_
      simpa [inner, c] using h

theorem spec_outer (xs : List Int) (k : Int) (hk : k < xs.length) (hl : xs.length ≤ 100000) : ∀ (d : Nat) (j : Int) (acc : List St), 0 ≤ j → j + d = k → acc.length + d * 100001 ≤ 8000000000000 →
    Ev (fun f => spec_chPairs.l0 f xs k acc j) (acc ++ outer xs k d j) := by
  intro d
  induction d with
  | zero =>
    intro j acc hj hd _
    refine ev_shift ?_
    simp only [spec_chPairs.l0, if_neg (show ¬ j < k by omega), outer, List.append_nil]
    exact Ev.now _
  | succ d ih =>
    intro j acc hj hd hacc
    refine ev_shift ?_
    simp only [spec_chPairs.l0, if_pos (show j < k by omega)]
    have hi := inner_length xs k j (j + 1).toNat 0
    refine spec_inner xs k j _ hj (by omega) hk hl (j + 1).toNat 0 acc (by omega) (by omega) (by omega) ?_
    have h := ih (j + 1) (acc ++ inner xs k j (j + 1).toNat 0) (by omega) (by omega) (by rw [List.length_append]; omega)
    simpa [outer] using h

theorem chPairs_ev (xs : List Int) (k : Int) (h0 : 0 ≤ k) (hk : k < xs.length) (hl : xs.length ≤ 100000) : Ev (fun f => spec_chPairs.f f xs k) (sumsOf xs k) := by
  have h := spec_outer xs k hk hl k.toNat 0 [] (by omega) (by omega) (by simp only [List.length_nil]; omega)
  simpa [sumsOf, spec_chPairs.f] using h

def risingFrom (xs : List Int) : Nat → Int → Bool
  | 0, _ => true
  | d + 1, i => if rd xs i ≥ 1 then (if rd xs i ≤ 1000000 then (if i > 0 then (if rd xs (i - 1) ≥ rd xs i then false else risingFrom xs d (i + 1)) else risingFrom xs d (i + 1)) else false) else false
def pairsFrom (xs : List Int) : Nat → Int → Bool
  | 0, _ => true
  | d + 1, k => if (sumsOf xs k).length = 0 then false else pairsFrom xs d (k + 1)
def implFrom (xs : List Int) : Nat → Int → Bool
  | 0, _ => true
  | d + 1, k => if rd xs k ≤ rd xs (k - 1) then false else if rd xs k > 1000000 then false else if (sumsOf xs k).length = 0 then false else implFrom xs d (k + 1)
/-- Is it a chain? -/
def chain (xs : List Int) : Bool := if 1 ≤ xs.length ∧ xs.length ≤ 41 then (if rd xs 0 = 1 then implFrom xs (xs.length - 1) 1 else false) else false

theorem from_same (xs : List Int) : ∀ (d : Nat) (i : Int), 1 ≤ i → 1 ≤ rd xs (i - 1) → (risingFrom xs d i && pairsFrom xs d i) = implFrom xs d i
  | 0, _, _, _ => rfl
  | d + 1, i, h1, h2 => by
    unfold risingFrom pairsFrom implFrom
    rw [if_pos (show i > 0 by omega)]
    by_cases c1 : rd xs i ≤ rd xs (i - 1)
    · rw [if_pos c1, if_pos (show rd xs (i - 1) ≥ rd xs i from c1)]
      split
      · split <;> rfl
      · rfl
    · rw [if_neg c1, if_neg (show ¬ rd xs (i - 1) ≥ rd xs i from c1), if_pos (show rd xs i ≥ 1 by omega)]
      by_cases c2 : rd xs i > 1000000
      · rw [if_pos c2, if_neg (by omega)]; rfl
      · rw [if_neg c2, if_pos (by omega)]
        by_cases c3 : (sumsOf xs i).length = 0
        · rw [if_pos c3, if_pos c3, Bool.and_false]
        · rw [if_neg c3, if_neg c3]
          have e : i + 1 - 1 = i := by omega
          exact from_same xs d (i + 1) (by omega) (by rw [e]; omega)

theorem l1In_eq (a b c : Int) : spec_l1In.f a b c = some (decide (b ≤ a) && decide (a ≤ c)) := by
  unfold spec_l1In.f
  by_cases h : a ≥ b
  · rw [if_pos h]; simp [show b ≤ a from h]
  · rw [if_neg h]; simp [show ¬ b ≤ a from h]
theorem rising_ev (xs : List Int) (hl : xs.length ≤ 100000) : ∀ (d : Nat) (i : Int), 0 ≤ i → i + d = xs.length → Ev (fun f => spec_l1Rising.l0 f xs 1 1000000 xs xs.length i) (risingFrom xs d i) := by
  intro d
  induction d with
  | zero =>
    intro i h0 hd
    refine ev_shift ?_
    simp only [spec_l1Rising.l0, if_neg (show ¬ i < (xs.length : Int) by omega), risingFrom]
    exact Ev.now _
  | succ d ih =>
    intro i h0 hd
    have hn := ih (i + 1) (by omega) (by omega)
    refine ev_shift ?_
    simp only [spec_l1Rising.l0, if_pos (show i < (xs.length : Int) by omega), if_pos h0, w64 (show -9223372036854775808 ≤ i + 1 by omega) (by omega), w64 (show -9223372036854775808 ≤ i - 1 by omega) (by omega), l1In_eq, Option.bind_some]
    unfold risingFrom
    by_cases c1 : rd xs i ≥ 1
    · by_cases c2 : rd xs i ≤ 1000000
      · rw [if_pos c1, if_pos c2]
        simp only [decide_eq_true (show 1 ≤ rd xs i from c1), decide_eq_true c2, Bool.and_self, if_true]
        by_cases c3 : i > 0
        · simp only [if_pos c3, if_pos (show 0 ≤ i - 1 by omega), if_pos (show i - 1 < (xs.length : Int) by omega)]
          by_cases c4 : rd xs (i - 1) ≥ rd xs i
          · simp only [if_pos c4]; exact Ev.now _
          · simp only [if_neg c4]; exact hn
        · simp only [if_neg c3]; exact hn
      · rw [if_pos c1, if_neg c2]
        simp only [decide_eq_false c2, Bool.and_false, Bool.false_eq_true, if_false]
        exact Ev.now _
    · rw [if_neg c1]
      simp only [decide_eq_false (show ¬ 1 ≤ rd xs i from c1), Bool.false_and, Bool.false_eq_true, if_false]
      exact Ev.now _

theorem pairs_ev (xs : List Int) (hl : xs.length ≤ 100000) : ∀ (d : Nat) (k : Int), 0 ≤ k → k + d = xs.length → Ev (fun f => spec_chGood.l0 f xs k) (pairsFrom xs d k) := by
  intro d
  induction d with
  | zero =>
    intro i h0 hd
    refine ev_shift ?_
    simp only [spec_chGood.l0, if_neg (show ¬ i < (xs.length : Int) by omega), pairsFrom]
    exact Ev.now _
  | succ d ih =>
    intro i h0 hd
    have hn := ih (i + 1) (by omega) (by omega)
    refine ev_shift ?_
    simp only [spec_chGood.l0, if_pos (show i < (xs.length : Int) by omega), w64 (show -9223372036854775808 ≤ i + 1 by omega) (by omega)]
    refine ev_bind (chPairs_ev xs i h0 (by omega) hl) ?_
    unfold pairsFrom
    by_cases c : (sumsOf xs i).length = 0
    · simp only [if_pos c, if_pos (show ((sumsOf xs i).length : Int) = 0 by omega)]; exact Ev.now _
    · simp only [if_neg c, if_neg (show ¬ ((sumsOf xs i).length : Int) = 0 by omega)]; exact hn

theorem chGood_ev (xs : List Int) (hl : xs.length ≤ 1048576) : Ev (fun f => spec_chGood.f f xs) (chain xs) := by
  unfold spec_chGood.f chain
  simp only [l1In_eq, Option.bind_some]
  by_cases c : 1 ≤ xs.length ∧ xs.length ≤ 41
  · simp only [if_pos c, decide_eq_true (show (1 : Int) ≤ xs.length by omega), decide_eq_true (show (xs.length : Int) ≤ 41 by omega), Bool.and_self, if_true, if_pos (show (0 : Int) < xs.length by omega)]
    by_cases c1 : rd xs 0 = 1
    · simp only [if_pos c1]
      unfold spec_l1Rising.f
      refine ev_bind (rising_ev xs (by omega) xs.length 0 (by omega) (by omega)) ?_
      obtain ⟨n, hn⟩ : ∃ n, xs.length = n + 1 := ⟨xs.length - 1, by omega⟩
      have e1 : risingFrom xs xs.length 0 = risingFrom xs n 1 := by
        rw [hn, risingFrom, c1, if_pos (by decide), if_pos (by decide), if_neg (by decide)]
        rfl
      have e2 : xs.length - 1 = n := by omega
      rw [e1, e2, ← from_same xs n 1 (by omega) (by rw [show (1 : Int) - 1 = 0 from rfl, c1]; omega)]
      refine ev_shift ?_
      simp only [spec_chGood.j0]
      cases hr : risingFrom xs n 1 with
      | false =>
        simp only [Bool.not_false, if_true, Bool.false_and]
        exact Ev.now _
      | true =>
        simp only [Bool.not_true, Bool.false_eq_true, if_false, Bool.true_and]
        exact pairs_ev xs (by omega) n 1 (by omega) (by omega)
    · simp only [if_neg c1]
      refine ev_shift ?_
      simp only [spec_chGood.j0, if_true]
      exact Ev.now _
  · rw [if_neg c]
    have e : (decide ((1 : Int) ≤ xs.length) && decide ((xs.length : Int) ≤ 41)) = false := by
      rw [Bool.and_eq_false_iff, decide_eq_false_iff_not, decide_eq_false_iff_not]; omega
    simp only [e, Bool.false_eq_true, if_false]
    refine ev_shift ?_
    simp only [spec_chGood.j0, if_true]
    exact Ev.now _

abbrev rdS (ss : List St) (i : Int) : St := rd_T73 ss i
theorem implFrom_head (xs : List Int) (d : Nat) (k : Int) (h : implFrom xs (d + 1) k = true) : (sumsOf xs k).length ≠ 0 ∧ implFrom xs d (k + 1) = true ∧ rd xs (k - 1) < rd xs k ∧ rd xs k ≤ 1000000 := by
  unfold implFrom at h
  split at h
  · cases h
  · split at h
    · cases h
    · split at h
      · cases h
      · rename_i a b c
        exact ⟨c, h, by omega, by omega⟩
theorem chain_from (xs : List Int) (h : chain xs = true) : 1 ≤ xs.length ∧ xs.length ≤ 41 ∧ rd xs 0 = 1 ∧ implFrom xs (xs.length - 1) 1 = true := by
  unfold chain at h
  split at h
  · rename_i c
    split at h
    · rename_i c1
      exact ⟨c.1, c.2, c1, h⟩
    · cases h
  · cases h

def allFrom (xs : List Int) (a b : Int) : Nat → Int → Bool
  | 0, _ => true
  | d + 1, i => if a ≤ rd xs i ∧ rd xs i ≤ b then allFrom xs a b d (i + 1) else false
theorem l1All_ev (xs : List Int) (a b : Int) (hl : xs.length ≤ 100000000) : Ev (fun f => spec_l1All.f f xs a b) (allFrom xs a b xs.length 0) := by
  have loop : ∀ (d : Nat) (i : Int), 0 ≤ i → i + d = xs.length → Ev (fun f => spec_l1All.l0 f a b xs xs.length i) (allFrom xs a b d i) := by
    intro d
    induction d with
    | zero =>
      intro i h0 hd
      refine ev_shift ?_
      simp only [spec_l1All.l0, if_neg (show ¬ i < (xs.length : Int) by omega), allFrom]
      exact Ev.now _
    | succ d ih =>
      intro i h0 hd
      have hn := ih (i + 1) (by omega) (by omega)
      refine ev_shift ?_
      simp only [spec_l1All.l0, if_pos (show i < (xs.length : Int) by omega), if_pos h0, w64 (show -9223372036854775808 ≤ i + 1 by omega) (by omega), l1In_eq, Option.bind_some]
      unfold allFrom
      by_cases c : a ≤ rd xs i ∧ rd xs i ≤ b
      · rw [if_pos c]; simp only [decide_eq_true c.1, decide_eq_true c.2, Bool.and_self, if_true]; exact hn
      · rw [if_neg c]
        have e : (decide (a ≤ rd xs i) && decide (rd xs i ≤ b)) = false := by rw [Bool.and_eq_false_iff, decide_eq_false_iff_not, decide_eq_false_iff_not]; omega
        simp only [e, Bool.false_eq_true, if_false]; exact Ev.now _
  exact loop xs.length 0 (by omega) (by omega)

/-- A step of the laws, as one of the program. -/
def cv (s : S93) : S73 := ⟨s.f0, s.f1⟩
theorem take_set {α : Type} (ys : List α) (z : α) (i : Nat) (h : i < ys.length) : (ys.take i ++ List.replicate (ys.length - i) z).set i (ys.getD i z) = ys.take (i + 1) ++ List.replicate (ys.length - (i + 1)) z := by
  have hl : (ys.take i).length = i := by simp; omega
  rw [List.set_append_right _ _ (by omega), hl, Nat.sub_self]
  obtain ⟨m, hm⟩ : ∃ m, ys.length - i = m + 1 := ⟨ys.length - i - 1, by omega⟩
  have hm2 : ys.length - (i + 1) = m := by omega
  have e : ys.getD i z = ys[i] := by simp [List.getD, h]
  rw [hm, hm2, List.replicate_succ, List.set_cons_zero, e, List.take_succ_eq_append_getElem h, List.append_assoc]
  rfl
theorem rd_cv (xs : List (S93)) (i : Nat) : (⟨(rd_T93 xs (i : Int)).f0, (rd_T93 xs (i : Int)).f1⟩ : S73) = (xs.map cv).getD i z73 := by
  unfold rd_T93
  rw [Int.toNat_natCast]
  simp only [List.getD_eq_getElem?_getD, List.getElem?_map]
  cases xs[i]? <;> rfl
theorem toStepS_ev (xs : List (S93)) (hb : xs.length ≤ 1048576) : Ev (fun k => laws_toStepS.f k xs) (xs.map cv) := by
  obtain ⟨ys, hy⟩ : ∃ ys, ys = xs.map cv := ⟨_, rfl⟩
  have hyl : ys.length = xs.length := by rw [hy, List.length_map]
  have loop : ∀ (d i : Nat), i + d = xs.length → Ev (fun k => laws_toStepS.l0 k xs (ys.take i ++ List.replicate (ys.length - i) z73) i) ys := by
    intro d
    induction d with
    | zero =>
      intro i hd
      refine ev_shift ?_
      simp only [laws_toStepS.l0, if_neg (show ¬ (i : Int) < (xs.length : Int) by omega)]
      have e : ys.take i ++ List.replicate (ys.length - i) z73 = ys := by
        rw [List.take_of_length_le (by omega), Nat.sub_eq_zero_of_le (by omega)]; simp
      rw [e]
      exact Ev.now _
    | succ d ih =>
      intro i hd
      have hl : (ys.take i ++ List.replicate (ys.length - i) z73).length = ys.length := by simp; omega
      refine ev_shift ?_
      simp only [laws_toStepS.l0, laws_toStep.f, Option.bind_some, hl, if_pos (show (i : Int) < (xs.length : Int) by omega), if_pos (show (i : Int) < (ys.length : Int) by omega), if_pos (show (0 : Int) ≤ (i : Int) by omega), Int.toNat_natCast, rd_cv, ← hy, w64 (show -9223372036854775808 ≤ (i : Int) + 1 by omega) (by omega)]
      rw [take_set ys _ i (by omega)]
      exact ih (i + 1) (by omega)
  have h := loop xs.length 0 (by omega)
  unfold laws_toStepS.f
  simp only [if_pos (show (0 : Int) ≤ (xs.length : Int) by omega), Int.toNat_natCast, if_pos (show xs.length ≤ 17592186044416 by omega)]
  rw [← hy]
  simpa [hyl] using h
theorem toPlan_ev (n : Int) (l1 : List (S93)) (l2 : List Int) (h1 : l1.length ≤ 1048576) (h2 : l2.length ≤ 1048576) : Ev (fun k => laws_toPlan.f k n l1 l2) (n, l1.map cv, l2) := by
  unfold laws_toPlan.f
  exact ev_bind (toStepS_ev l1 h1) (ev_bind (toIntS_ev l2 (by omega)) (Ev.now _))
theorem eqStepS_same (xs : List (S73)) (hb : xs.length ≤ 1048576) : Ev (fun k => laws_eqStepS.f k xs xs) true := by
  have loop : ∀ (d i : Nat), i + d = xs.length → Ev (fun k => laws_eqStepS.l0 k xs xs i) true := by
    intro d
    induction d with
    | zero =>
      intro i hd
      refine ev_shift ?_
      simp only [laws_eqStepS.l0, if_neg (show ¬ (i : Int) < (xs.length : Int) by omega)]
      exact Ev.now _
    | succ d ih =>
      intro i hd
      refine ev_shift ?_
      simp only [laws_eqStepS.l0, laws_eqStep.f, Option.bind_some, if_true, if_pos (show (i : Int) < (xs.length : Int) by omega), if_pos (show (0 : Int) ≤ (i : Int) by omega), w64 (show -9223372036854775808 ≤ (i : Int) + 1 by omega) (by omega)]
      exact ih (i + 1) (by omega)
  unfold laws_eqStepS.f
  simp only [if_true]
  exact loop xs.length 0 (by omega)
theorem sz_ok (n : Int) (l1 : List (S93)) (l2 : List Int) (h : l1.length + l2.length ≤ 1048576) : laws_szPlan.f n l1 l2 1048576 = some (1048576 - (l1.length : Int) - (l2.length : Int)) := by
  unfold laws_szPlan.f laws_szStepS.f laws_szIntS.f
  rw [w64 (show -9223372036854775808 ≤ (1048576 : Int) - (l1.length : Int) by omega) (by omega), if_neg (by omega), Option.bind_some, if_neg (by omega), w64 (by omega) (by omega), if_neg (by omega), Option.bind_some, if_neg (by omega)]
theorem sz_big (n : Int) (l1 : List (S93)) (l2 : List Int) (m1 : l1.length ≤ maxLen) (m2 : l2.length ≤ maxLen) (h : ¬ l1.length + l2.length ≤ 1048576) : laws_szPlan.f n l1 l2 1048576 = some (-1) := by
  unfold maxLen at m1 m2
  unfold laws_szPlan.f laws_szStepS.f laws_szIntS.f
  rw [w64 (show -9223372036854775808 ≤ (1048576 : Int) - (l1.length : Int) by omega) (by omega)]
  by_cases c : (1048576 : Int) - (l1.length : Int) < 0
  · rw [if_pos c, Option.bind_some, if_pos (by omega)]
  · rw [if_neg c, Option.bind_some, if_neg c, w64 (by omega) (by omega), if_pos (by omega), Option.bind_some, if_pos (by omega)]

theorem eqPlan_same (n : Int) (ss : List (S73)) (os : List Int) (h1 : ss.length ≤ 1048576) (h2 : os.length ≤ 1048576) : Ev (fun k => laws_eqPlan.f k n ss os n ss os) true := by
  unfold laws_eqPlan.f
  simp only [if_true]
  refine ev_bind (eqStepS_same ss (by omega)) ?_
  simp only [if_true]
  refine ev_bind (eqIntS_same os (by omega)) ?_
  simp only [if_true]
  exact Ev.now _
/-! exponents -/
/-- Is each step from i on in order. -/
def InOrder (n : Nat) (ss : List (S73)) : Prop := ∀ i : Nat, i < ss.length → 0 ≤ (rd_T73 ss i).f0 ∧ (rd_T73 ss i).f0 ≤ (rd_T73 ss i).f1 ∧ (rd_T73 ss i).f1 < n + i
def cap2 (x : Int) : Int := if x < 1000001 then x else 1000001
def sumFrom (a b : List Int) : Nat → Int → List Int
  | 0, _ => []
  | d + 1, k => cap2 (wrap64 (rd a k + rd b k)) :: sumFrom a b d (k + 1)
theorem sumFrom_length (a b : List Int) : ∀ d k, (sumFrom a b d k).length = d
  | 0, _ => rfl
  | d + 1, k => by rw [sumFrom, List.length_cons, sumFrom_length a b d (k + 1)]
def addRow (a b : List Int) : List Int := sumFrom a b a.length 0
def row0 (n i : Nat) : List Int := (List.replicate n 0).set i 1
def base0 (n m : Nat) : List (List Int) := (List.range m).map (row0 n)
theorem base0_succ (n m : Nat) : base0 n (m + 1) = base0 n m ++ [row0 n m] := by unfold base0; rw [List.range_succ, List.map_append]; rfl
theorem base0_length (n m : Nat) : (base0 n m).length = m := by unfold base0; simp
def grow (ss : List (S73)) : Nat → Int → List (List Int) → List (List Int)
  | 0, _, rows => rows
  | d + 1, i, rows => grow ss d (i + 1) (rows ++ [addRow (rd_L3 rows (rd_T73 ss i).f0) (rd_L3 rows (rd_T73 ss i).f1)])
/-- The exponents of all values. -/
def exps (n : Nat) (ss : List (S73)) : List (List Int) := grow ss ss.length 0 (base0 n n)
def RowOk (n : Nat) (r : List Int) : Prop := r.length = n ∧ ∀ e ∈ r, 0 ≤ e ∧ e ≤ 1000001
def RowsOk (n m : Nat) (rows : List (List Int)) : Prop := rows.length = m ∧ ∀ r ∈ rows, RowOk n r
theorem rd_mem (rows : List (List Int)) (a : Int) (h0 : 0 ≤ a) (h1 : a < rows.length) : rd_L3 rows a ∈ rows := by
  unfold rd_L3
  have h : a.toNat < rows.length := by omega
  rw [show rows.getD a.toNat [] = rows[a.toNat] by simp [List.getD, h]]
  exact List.getElem_mem h
theorem rd_in (r : List Int) (n : Nat) (hr : RowOk n r) (i : Int) : 0 ≤ rd r i ∧ rd r i ≤ 1000001 := by
  unfold rd
  rw [List.getD_eq_getElem?_getD]
  cases h : r[i.toNat]? with
  | none => simp
  | some e => exact hr.2 e (List.mem_of_getElem? h)
theorem sumFrom_ok (n : Nat) (a b : List Int) (ha : RowOk n a) (hb : RowOk n b) : ∀ d k, ∀ e ∈ sumFrom a b d k, 0 ≤ e ∧ e ≤ 1000001
  | 0, _, e, h => by cases h
  | d + 1, k, e, h => by
    rw [sumFrom] at h
    rcases List.mem_cons.1 h with rfl | h
    · have := rd_in a n ha k
      have := rd_in b n hb k
      rw [w64 (by omega) (by omega)]
      unfold cap2
      split <;> omega
    · exact sumFrom_ok n a b ha hb d (k + 1) e h
theorem addRow_ok (n : Nat) (a b : List Int) (ha : RowOk n a) (hb : RowOk n b) : RowOk n (addRow a b) := ⟨by unfold addRow; rw [sumFrom_length]; exact ha.1, sumFrom_ok n a b ha hb _ _⟩
theorem base0_ok (n m : Nat) : RowsOk n m (base0 n m) := by
  refine ⟨base0_length n m, fun r hr => ?_⟩
  unfold base0 at hr
  obtain ⟨i, _, rfl⟩ := List.mem_map.1 hr
  refine ⟨by unfold row0; simp, fun e he => ?_⟩
  unfold row0 at he
  rcases List.mem_or_eq_of_mem_set he with h | rfl
  · have := (List.mem_replicate.1 h).2
    omega
  · omega
theorem RowsOk.snoc {n m : Nat} {rows : List (List Int)} {r : List Int} (h : RowsOk n m rows) (hr : RowOk n r) : RowsOk n (m + 1) (rows ++ [r]) := ⟨by rw [List.length_append, h.1]; rfl, fun q hq => by
  rcases List.mem_append.1 hq with h1 | h1
  · exact h.2 q h1
  · rw [List.mem_singleton.1 h1]; exact hr⟩
theorem grow_ok (n : Nat) (ss : List (S73)) (ho : InOrder n ss) : ∀ (d i : Nat) (rows : List (List Int)), i + d = ss.length → RowsOk n (n + i) rows → RowsOk n (n + ss.length) (grow ss d i rows) := by
  intro d
  induction d with
  | zero =>
    intro i rows hd h
    obtain rfl : i = ss.length := by omega
    exact h
  | succ d ih =>
    intro i rows hd h
    obtain ⟨h1, h2, h3⟩ := ho i (by omega)
    have hl := h.1
    rw [grow]
    exact ih (i + 1) _ (by omega) (h.snoc (addRow_ok n _ _ (h.2 _ (rd_mem rows _ h1 (by omega))) (h.2 _ (rd_mem rows _ (by omega) (by omega)))))
theorem exps_ok (n : Nat) (ss : List (S73)) (ho : InOrder n ss) : RowsOk n (n + ss.length) (exps n ss) := grow_ok n ss ho ss.length 0 _ (by omega) (base0_ok n n)

theorem plSum_ev (a b : List Int) (hl : b.length = a.length) (ha : a.length ≤ 1000) : Ev (fun k => spec_plSum.f k a b) (addRow a b) := by
  have loop : ∀ (d : Nat) (i : Int) (acc : List Int), 0 ≤ i → i + d = a.length → acc.length + d ≤ 1000000 → Ev (fun k => spec_plSum.l0 k a b acc a.length i) (acc ++ sumFrom a b d i) := by
    intro d
    induction d with
    | zero =>
      intro i acc h0 hd _
      refine ev_shift ?_
      simp only [spec_plSum.l0, if_neg (show ¬ i < (a.length : Int) by omega), sumFrom, List.append_nil]
      exact Ev.now _
    | succ d ih =>
      intro i acc h0 hd hacc
      have e : ∀ x : Int, spec_l1Least.f x 1000001 = some (cap2 x) := fun x => by
        unfold spec_l1Least.f cap2
        split <;> rfl
      refine ev_shift ?_
      simp only [spec_plSum.l0, if_pos (show i < (a.length : Int) by omega), if_pos h0, if_pos (show i < (b.length : Int) by omega), if_pos (show acc.length < 17592186044416 by omega), e, Option.bind_some, w64 (show -9223372036854775808 ≤ i + 1 by omega) (by omega), sumFrom]
      have := ih (i + 1) (acc ++ [cap2 (wrap64 (rd a i + rd b i))]) (by omega) (by omega) (by simp only [List.length_append, List.length_singleton]; omega)
      rwa [List.append_assoc, List.singleton_append] at this
  unfold spec_plSum.f addRow
  have := loop a.length 0 [] (by omega) (by omega) (by simp; omega)
  rwa [List.nil_append] at this
theorem plExponents_ev (n : Nat) (ss : List (S73)) (os : List Int) (hn : n ≤ 6) (hs : ss.length ≤ 40) (ho : InOrder n ss) : Ev (fun k => spec_plExponents.f k n ss os) (exps n ss) := by
  have second : ∀ (d i : Nat) (rows : List (List Int)), i + d = ss.length → RowsOk n (n + i) rows → Ev (fun k => spec_plExponents.l1 k rows ss ss.length i) (grow ss d i rows) := by
    intro d
    induction d with
    | zero =>
      intro i rows hd _
      refine ev_shift ?_
      simp only [spec_plExponents.l1, if_neg (show ¬ (i : Int) < (ss.length : Int) by omega), grow]
      exact Ev.now _
    | succ d ih =>
      intro i rows hd h
      obtain ⟨h1, h2, h3⟩ := ho i (by omega)
      have hl := h.1
      have ra := h.2 _ (rd_mem rows (rd_T73 ss i).f0 h1 (by omega))
      have rb := h.2 _ (rd_mem rows (rd_T73 ss i).f1 (by omega) (by omega))
      refine ev_shift ?_
      simp only [spec_plExponents.l1, if_pos (show (i : Int) < (ss.length : Int) by omega), if_pos (show (0 : Int) ≤ (i : Int) by omega), if_pos h1, if_pos (show (rd_T73 ss i).f0 < (rows.length : Int) by omega), if_pos (show 0 ≤ (rd_T73 ss i).f1 by omega), if_pos (show (rd_T73 ss i).f1 < (rows.length : Int) by omega), if_pos (show rows.length < 5864062014805 by omega), w64 (show -9223372036854775808 ≤ (i : Int) + 1 by omega) (by omega), grow]
      refine ev_bind (plSum_ev _ _ (by rw [ra.1, rb.1]) (by rw [ra.1]; omega)) ?_
      exact ih (i + 1) _ (by omega) (h.snoc (addRow_ok n _ _ ra rb))
  have first_ : ∀ (d i : Nat), i + d = n → Ev (fun k => spec_plExponents.l0 k (base0 n i) i n ss os) (exps n ss) := by
    intro d
    induction d with
    | zero =>
      intro i hd
      obtain rfl : i = n := by omega
      refine ev_shift ?_
      simp only [spec_plExponents.l0, if_neg (show ¬ (i : Int) < (i : Int) by omega)]
      exact second ss.length 0 _ (by omega) (base0_ok i i)
    | succ d ih =>
      intro i hd
      refine ev_shift ?_
      simp only [spec_plExponents.l0, if_pos (show (i : Int) < (n : Int) by omega), if_pos (show (0 : Int) ≤ (n : Int) by omega), Int.toNat_natCast, if_pos (show n ≤ 35184372088832 by omega), Option.bind_some, if_pos (show (0 : Int) ≤ (i : Int) by omega), List.length_replicate, base0_length, if_pos (show i < 5864062014805 by omega), w64 (show -9223372036854775808 ≤ (i : Int) + 1 by omega) (by omega)]
      have := ih (i + 1) (by omega)
      rw [base0_succ] at this
      exact this
  exact first_ n 0 (by omega)
theorem exponents_ev (n : Nat) (ss : List (S73)) (os : List Int) (hn : n ≤ 6) (hs : ss.length ≤ 40) (ho : InOrder n ss) : Ev (fun k => impl_Plan_exponents.f k n ss os) (exps n ss) := by
  have inner : ∀ (rows : List (List Int)) (i : Nat) (A B : Int) (r : List (List Int)), rows.length ≤ 100 → RowOk n (rd_L3 rows A) → RowOk n (rd_L3 rows B) → 0 ≤ B → B < rows.length → Ev (fun k => impl_Plan_exponents.l1 k (rows ++ [addRow (rd_L3 rows A) (rd_L3 rows B)]) ss ss.length (wrap64 ((i : Int) + 1))) r → ∀ (d : Nat) (j : Int) (acc : List Int), 0 ≤ j → j + d = (rd_L3 rows A).length → acc.length + d ≤ 1000000 → acc ++ sumFrom (rd_L3 rows A) (rd_L3 rows B) d j = addRow (rd_L3 rows A) (rd_L3 rows B) → Ev (fun k => impl_Plan_exponents.l2 k rows acc ss ss.length i (rd_L3 rows A) (rd_L3 rows A).length j A B) r := by
    intro rows i A B r hl ra rb hb0 hb1 hr d
    induction d with
    | zero =>
      intro j acc h0 hd _ he
      rw [sumFrom, List.append_nil] at he
      refine ev_shift ?_
      simp only [impl_Plan_exponents.l2, if_neg (show ¬ j < ((rd_L3 rows A).length : Int) by omega), if_pos (show rows.length < 5864062014805 by omega)]
      rw [he]
      exact hr
    | succ d ih =>
      intro j acc h0 hd hacc he
      have hlen : (rd_L3 rows B).length = (rd_L3 rows A).length := by rw [ra.1, rb.1]
      have e : ∀ x : Int, mn x 1000001 = cap2 x := fun x => by
        unfold mn cap2
        split <;> split <;> omega
      refine ev_shift ?_
      simp only [impl_Plan_exponents.l2, if_pos (show j < ((rd_L3 rows A).length : Int) by omega), if_pos h0, if_pos hb0, if_pos hb1, if_pos (show j < ((rd_L3 rows B).length : Int) by omega), if_pos (show acc.length < 17592186044416 by omega), e, w64 (show -9223372036854775808 ≤ j + 1 by omega) (by have := ra.1; omega)]
      rw [sumFrom] at he
      exact ih (j + 1) _ (by omega) (by omega) (by simp only [List.length_append, List.length_singleton]; omega) (by rw [List.append_assoc, List.singleton_append]; exact he)
  have second : ∀ (d i : Nat) (rows : List (List Int)), i + d = ss.length → RowsOk n (n + i) rows → Ev (fun k => impl_Plan_exponents.l1 k rows ss ss.length i) (grow ss d i rows) := by
    intro d
    induction d with
    | zero =>
      intro i rows hd _
      refine ev_shift ?_
      simp only [impl_Plan_exponents.l1, if_neg (show ¬ (i : Int) < (ss.length : Int) by omega), grow]
      exact Ev.now _
    | succ d ih =>
      intro i rows hd h
      obtain ⟨h1, h2, h3⟩ := ho i (by omega)
      have hl := h.1
      have ra := h.2 _ (rd_mem rows (rd_T73 ss i).f0 h1 (by omega))
      have rb := h.2 _ (rd_mem rows (rd_T73 ss i).f1 (by omega) (by omega))
      refine ev_shift ?_
      simp only [impl_Plan_exponents.l1, if_pos (show (i : Int) < (ss.length : Int) by omega), if_pos (show (0 : Int) ≤ (i : Int) by omega), if_pos h1, if_pos (show (rd_T73 ss i).f0 < (rows.length : Int) by omega), grow]
      refine inner rows i _ _ _ (by omega) ra rb (by omega) (by omega) ?_ (rd_L3 rows (rd_T73 ss i).f0).length 0 [] (by omega) (by omega) (by have := ra.1; simp; omega) (by rw [List.nil_append]; rfl)
      rw [w64 (by omega) (by omega)]
      exact ih (i + 1) _ (by omega) (h.snoc (addRow_ok n _ _ ra rb))
  have first_ : ∀ (d i : Nat), i + d = n → Ev (fun k => impl_Plan_exponents.l0 k (base0 n i) n i n ss os) (exps n ss) := by
    intro d
    induction d with
    | zero =>
      intro i hd
      obtain rfl : i = n := by omega
      refine ev_shift ?_
      simp only [impl_Plan_exponents.l0, if_neg (show ¬ (i : Int) < (i : Int) by omega)]
      exact second ss.length 0 _ (by omega) (base0_ok i i)
    | succ d ih =>
      intro i hd
      refine ev_shift ?_
      simp only [impl_Plan_exponents.l0, if_pos (show (i : Int) < (n : Int) by omega), if_pos (show (0 : Int) ≤ (n : Int) by omega), Int.toNat_natCast, if_pos (show n ≤ 35184372088832 by omega), Option.bind_some, if_pos (show (0 : Int) ≤ (i : Int) by omega), List.length_replicate, base0_length, if_pos (show i < 5864062014805 by omega), w64 (show -9223372036854775808 ≤ (i : Int) + 1 by omega) (by omega)]
      have := ih (i + 1) (by omega)
      rw [base0_succ] at this
      exact this
  exact first_ n 0 (by omega)
/-! IsPlan -/
def goodFrom (rows : List (List Int)) : Nat → Int → Bool
  | 0, _ => true
  | d + 1, i => if allFrom (rd_L3 rows i) 0 1000000 (rd_L3 rows i).length 0 = true then goodFrom rows d (i + 1) else false
def planOk (n : Int) (ss : List (S73)) (os : List Int) : Bool := impl_IsPlan.formed n ss os && goodFrom (exps n.toNat ss) (exps n.toNat ss).length 0
theorem goodFrom_all (rows : List (List Int)) : ∀ (xs pre : List (List Int)), rows = pre ++ xs → goodFrom rows xs.length (pre.length : Int) = xs.all (fun r => allFrom r 0 1000000 r.length 0)
  | [], pre, _ => rfl
  | x :: xs, pre, h => by
    have e : rd_L3 rows (pre.length : Int) = x := by
      unfold rd_L3
      rw [Int.toNat_natCast, h]
      simp [List.getD_eq_getElem?_getD]
    have := goodFrom_all rows xs (pre ++ [x]) (by rw [h, List.append_assoc]; rfl)
    rw [List.length_append] at this
    rw [List.length_cons, goodFrom, e, List.all_cons]
    cases allFrom x 0 1000000 x.length 0 with
    | true => rw [if_pos rfl, Bool.true_and, ← this]; rfl
    | false => rw [if_neg (by decide), Bool.false_and]
theorem goodFrom_eq (rows : List (List Int)) : goodFrom rows rows.length 0 = rows.all (fun r => allFrom r 0 1000000 r.length 0) := goodFrom_all rows rows [] rfl
theorem steps_order (n : Nat) (ss : List (S73)) : ∀ (d i : Nat), impl_IsPlan.steps n ss d i = true → ∀ j, i ≤ j → j < i + d → 0 ≤ (rd_T73 ss j).f0 ∧ (rd_T73 ss j).f0 ≤ (rd_T73 ss j).f1 ∧ (rd_T73 ss j).f1 < n + j := by
  intro d
  induction d with
  | zero => intro i _ j h1 h2; omega
  | succ d ih =>
    intro i h j h1 h2
    rw [impl_IsPlan.steps] at h
    by_cases k1 : (rd_T73 ss i).f0 < 0
    · rw [if_pos k1] at h; cases h
    · rw [if_neg k1] at h
      by_cases k2 : (rd_T73 ss i).f0 > (rd_T73 ss i).f1
      · rw [if_pos k2] at h; cases h
      · rw [if_neg k2] at h
        by_cases k3 : (rd_T73 ss i).f1 ≥ (n : Int) + i
        · rw [if_pos k3] at h; cases h
        · rw [if_neg k3] at h
          by_cases e : j = i
          · subst e; omega
          · exact ih (i + 1) h j (by omega) (by omega)
theorem order_of (n : Nat) (ss : List (S73)) (h : impl_IsPlan.steps n ss ss.length 0 = true) : InOrder n ss := fun i hi => steps_order n ss ss.length 0 h i (by omega) (by omega)
theorem formed_of {n : Int} {ss : List (S73)} {os : List Int} (h : impl_IsPlan.formed n ss os = true) : (1 ≤ n ∧ n ≤ 6) ∧ ss.length ≤ 40 ∧ os.length ≤ 6 ∧ impl_IsPlan.steps n ss ss.length 0 = true ∧ anyIx (impl_IsPlan.outs n ss os) os.length 0 = false := by
  unfold impl_IsPlan.formed at h
  by_cases c1 : 1 ≤ n ∧ n ≤ 6
  · rw [if_pos c1] at h
    by_cases c2 : ss.length ≤ 40
    · rw [if_pos c2] at h
      by_cases c3 : os.length ≤ 6
      · rw [if_pos c3] at h
        by_cases c4 : impl_IsPlan.steps n ss ss.length 0 = true
        · rw [if_pos c4] at h
          exact ⟨c1, c2, c3, c4, by simpa using h⟩
        · rw [if_neg c4] at h; cases h
      · rw [if_neg c3] at h; cases h
    · rw [if_neg c2] at h; cases h
  · rw [if_neg c1] at h; cases h
def maxFrom (xs : List Int) : Nat → Int → Int → Int
  | 0, _, m => m
  | d + 1, i, m => maxFrom xs d (i + 1) (mx m (rd xs i))
theorem max_ev (xs : List Int) (h0 : 0 < xs.length) (hl : xs.length ≤ 1000000) : Ev (fun k => slices_Max_int_int.f k xs) (maxFrom xs (xs.length - 1) 1 (rd xs 0)) := by
  have loop : ∀ (d : Nat) (i m : Int), 0 ≤ i → i + d = xs.length → Ev (fun k => slices_Max_int_int.l0 k xs m i) (maxFrom xs d i m) := by
    intro d
    induction d with
    | zero =>
      intro i m _ hd
      refine ev_shift ?_
      simp only [slices_Max_int_int.l0, if_neg (show ¬ i < (xs.length : Int) by omega), maxFrom]
      exact Ev.now _
    | succ d ih =>
      intro i m h0 hd
      refine ev_shift ?_
      simp only [slices_Max_int_int.l0, if_pos (show i < (xs.length : Int) by omega), if_pos h0, w64 (show -9223372036854775808 ≤ i + 1 by omega) (by omega), maxFrom]
      exact ih (i + 1) _ (by omega) (by omega)
  unfold slices_Max_int_int.f
  simp only [if_neg (show ¬ (xs.length : Int) < 1 by omega), if_pos (show (0 : Int) < (xs.length : Int) by omega)]
  exact loop (xs.length - 1) 1 _ (by omega) (by omega)
theorem max_all (n : Nat) (xs : List Int) (hx : RowOk n xs) : ∀ (d : Nat) (i m : Int), decide (maxFrom xs d i m > 1000000) = !(decide (m ≤ 1000000) && allFrom xs 0 1000000 d i)
  | 0, i, m => by
    rw [maxFrom, allFrom, Bool.and_true]
    by_cases c : m ≤ 1000000
    · rw [decide_eq_true c, decide_eq_false (by omega)]; rfl
    · rw [decide_eq_false c, decide_eq_true (by omega)]; rfl
  | d + 1, i, m => by
    have hr := rd_in xs n hx i
    rw [maxFrom, max_all n xs hx d (i + 1), allFrom]
    by_cases c : m ≤ 1000000
    · rw [decide_eq_true c]
      by_cases c2 : rd xs i ≤ 1000000
      · rw [if_pos ⟨hr.1, c2⟩, decide_eq_true (by unfold mx; split <;> omega)]
      · rw [if_neg (by omega), decide_eq_false (by unfold mx; split <;> omega)]; rfl
    · rw [decide_eq_false c, decide_eq_false (by unfold mx; split <;> omega)]; rfl
theorem top_ev (n : Nat) (hn : 1 ≤ n) (hn6 : n ≤ 6) : ∀ (rows : List (List Int)), (∀ r ∈ rows, RowOk n r) → Ev (fun k => impl_IsPlan.top k rows) (!(rows.all (fun r => allFrom r 0 1000000 r.length 0)))
  | [], _ => Ev.now _
  | x :: xs, h => by
    have hx := h x (List.mem_cons_self ..)
    have hxl := hx.1
    refine ev_bind (max_ev x (by omega) (by omega)) ?_
    refine ev_bind (top_ev n hn hn6 xs (fun r hr => h r (List.mem_cons_of_mem _ hr))) ?_
    have e : decide (maxFrom x (x.length - 1) 1 (rd x 0) > 1000000) = !(allFrom x 0 1000000 x.length 0) := by
      obtain ⟨m, hm⟩ : ∃ m, x.length = m + 1 := ⟨x.length - 1, by omega⟩
      have hr := rd_in x n hx 0
      rw [hm, Nat.add_sub_cancel, max_all n x hx, allFrom]
      by_cases c : rd x 0 ≤ 1000000
      · rw [decide_eq_true c, if_pos ⟨hr.1, c⟩, Bool.true_and]; rfl
      · rw [decide_eq_false c, if_neg (by omega)]; rfl
    have e2 : (decide (maxFrom x (x.length - 1) 1 (rd x 0) > 1000000) || !(xs.all fun r => allFrom r 0 1000000 r.length 0)) = !((x :: xs).all fun r => allFrom r 0 1000000 r.length 0) := by
      rw [e, List.all_cons, Bool.not_and]
    simp only [e2]
    exact Ev.now _
theorem isPlan_ev (n : Int) (ss : List (S73)) (os : List Int) : Ev (fun k => impl_IsPlan.f k n ss os) (planOk n ss os) := by
  unfold impl_IsPlan.f planOk
  by_cases c : impl_IsPlan.formed n ss os = true
  · obtain ⟨h1, h2, h3, h4, h5⟩ := formed_of c
    obtain ⟨m, rfl⟩ := Int.eq_ofNat_of_zero_le (show 0 ≤ n by omega)
    have ho := order_of m ss h4
    have hok := exps_ok m ss ho
    simp only [c, if_true, Bool.true_and, Int.toNat_natCast]
    refine ev_bind (exponents_ev m ss os (by omega) h2 ho) ?_
    refine ev_bind (top_ev m (by omega) (by omega) _ hok.2) ?_
    rw [goodFrom_eq, Bool.not_not]
    exact Ev.now _
  · simp only [Bool.eq_false_iff.mpr c, Bool.false_and]
    exact Ev.now _
theorem outs_all (n : Int) (ss : List (S73)) (os : List Int) : ∀ (d i : Nat), anyIx (impl_IsPlan.outs n ss os) d i = !(allFrom os 0 (n + ss.length - 1) d i)
  | 0, _ => rfl
  | d + 1, i => by
    have ih := outs_all n ss os d (i + 1)
    rw [anyIx, allFrom, ih]
    unfold impl_IsPlan.outs
    by_cases c : 0 ≤ rd os i ∧ rd os i ≤ n + ss.length - 1
    · rw [if_pos c, decide_eq_true c.1, decide_eq_true c.2]; rfl
    · rw [if_neg c]
      have e : (decide (0 ≤ rd os (i : Int)) && decide (rd os (i : Int) ≤ n + ss.length - 1)) = false := by rw [Bool.and_eq_false_iff, decide_eq_false_iff_not, decide_eq_false_iff_not]; omega
      rw [e]; rfl
theorem plGood_ev (n : Int) (ss : List (S73)) (os : List Int) : Ev (fun k => spec_plGood.f k n ss os) (planOk n ss os) := by
  have no : ∀ b : Bool, planOk n ss os = false → b = true → Ev (fun k => spec_plGood.j0 k b n ss os) (planOk n ss os) := by
    intro b h hb
    subst hb
    refine ev_shift ?_
    simp only [spec_plGood.j0, if_true, h]
    exact Ev.now _
  unfold spec_plGood.f
  simp only [l1In_eq, Option.bind_some]
  by_cases c1 : 1 ≤ n ∧ n ≤ 6
  · simp only [decide_eq_true c1.1, decide_eq_true c1.2, Bool.and_self, if_true]
    by_cases c2 : ss.length ≤ 40
    · simp only [if_neg (show ¬ (ss.length : Int) > 40 by omega)]
      by_cases c3 : os.length ≤ 6
      · have e3 : decide ((os.length : Int) > 6) = false := decide_eq_false (by omega)
        simp only [e3]
        obtain ⟨m, rfl⟩ := Int.eq_ofNat_of_zero_le (show 0 ≤ n by omega)
        refine ev_shift ?_
        simp only [spec_plGood.j0, Bool.false_eq_true, if_false]
        have rows : ∀ (rs : List (List Int)), rs.length ≤ 1000 → (∀ r ∈ rs, RowOk m r) → ∀ (d : Nat) (i : Int), 0 ≤ i → i + d = rs.length → Ev (fun k => spec_plGood.l1 k rs rs.length i m ss os) (goodFrom rs d i && allFrom os 0 ((m : Int) + ss.length - 1) os.length 0) := by
          intro rs hl hok d
          induction d with
          | zero =>
            intro i h0 hd
            refine ev_shift ?_
            simp only [spec_plGood.l1, if_neg (show ¬ i < (rs.length : Int) by omega), goodFrom, Bool.true_and]
            rw [w64 (show -9223372036854775808 ≤ (m : Int) + (ss.length : Int) by omega) (by omega), w64 (by omega) (by omega)]
            exact ev_bind (l1All_ev os 0 _ (by omega)) (Ev.now _)
          | succ d ih =>
            intro i h0 hd
            have hr := (hok _ (rd_mem rs i h0 (by omega))).1
            refine ev_shift ?_
            simp only [spec_plGood.l1, if_pos (show i < (rs.length : Int) by omega), if_pos h0, w64 (show -9223372036854775808 ≤ i + 1 by omega) (by omega), goodFrom]
            refine ev_bind (l1All_ev _ 0 1000000 (by omega)) ?_
            by_cases c : allFrom (rd_L3 rs i) 0 1000000 (rd_L3 rs i).length 0 = true
            · simp only [c, if_true]
              exact ih (i + 1) (by omega) (by omega)
            · simp only [if_neg c, Bool.false_and]
              exact Ev.now _
        have steps : ∀ (r : Bool) (d i : Nat), i + d = ss.length → (impl_IsPlan.steps m ss d i = true → Ev (fun k => (spec_plExponents.f k m ss os).bind fun t => spec_plGood.l1 k t t.length 0 m ss os) r) → (impl_IsPlan.steps m ss d i = false → r = false) → Ev (fun k => spec_plGood.l0 k ss ss.length i m ss os) r := by
          intro r d
          induction d with
          | zero =>
            intro i hd h1 _
            refine ev_shift ?_
            simp only [spec_plGood.l0, if_neg (show ¬ (i : Int) < (ss.length : Int) by omega)]
            exact h1 rfl
          | succ d ih =>
            intro i hd h1 h2
            rw [impl_IsPlan.steps] at h1 h2
            refine ev_shift ?_
            simp only [spec_plGood.l0, if_pos (show (i : Int) < (ss.length : Int) by omega), if_pos (show (0 : Int) ≤ (i : Int) by omega), l1In_eq, Option.bind_some, w64 (show -9223372036854775808 ≤ (m : Int) + (i : Int) by omega) (by omega), w64 (show -9223372036854775808 ≤ (i : Int) + 1 by omega) (by omega)]
            by_cases k1 : (rd_T73 ss i).f0 < 0
            · rw [if_pos k1] at h2
              rw [h2 rfl]
              simp only [decide_eq_false (show ¬ 0 ≤ (rd_T73 ss i).f0 by omega), Bool.false_and, Bool.false_eq_true, if_false]
              exact Ev.now _
            · rw [if_neg k1] at h1 h2
              by_cases k2 : (rd_T73 ss i).f0 > (rd_T73 ss i).f1
              · rw [if_pos k2] at h2
                rw [h2 rfl]
                simp only [decide_eq_false (show ¬ (rd_T73 ss i).f0 ≤ (rd_T73 ss i).f1 by omega), Bool.and_false, Bool.false_eq_true, if_false]
                exact Ev.now _
              · rw [if_neg k2] at h1 h2
                simp only [decide_eq_true (show 0 ≤ (rd_T73 ss i).f0 by omega), decide_eq_true (show (rd_T73 ss i).f0 ≤ (rd_T73 ss i).f1 by omega), Bool.and_self, if_true]
                by_cases k3 : (rd_T73 ss i).f1 ≥ (m : Int) + i
                · rw [if_pos k3] at h2
                  rw [h2 rfl]
                  simp only [if_pos k3]
                  exact Ev.now _
                · rw [if_neg k3] at h1 h2
                  simp only [if_neg k3]
                  exact ih (i + 1) (by omega) h1 h2
        refine steps _ ss.length 0 (by omega) (fun hs => ?_) (fun hs => ?_)
        · have ho := order_of m ss hs
          have hok := exps_ok m ss ho
          have hlen := hok.1
          refine ev_bind (plExponents_ev m ss os (by omega) c2 ho) ?_
          have := rows (exps m ss) (by omega) hok.2 (exps m ss).length 0 (by omega) (by omega)
          have e : planOk m ss os = (goodFrom (exps m ss) (exps m ss).length 0 && allFrom os 0 ((m : Int) + ss.length - 1) os.length 0) := by
            unfold planOk impl_IsPlan.formed
            rw [if_pos c1, if_pos c2, if_pos c3, if_pos hs, outs_all, Bool.not_not, Bool.and_comm, Int.toNat_natCast]
            rfl
          rw [e]
          exact this
        · unfold planOk impl_IsPlan.formed
          rw [if_pos c1, if_pos c2, if_pos c3, if_neg (by rw [hs]; decide), Bool.false_and]
      · exact no _ (by unfold planOk impl_IsPlan.formed; rw [if_pos c1, if_pos c2, if_neg c3, Bool.false_and]) (decide_eq_true (by omega))
    · simp only [if_pos (show (ss.length : Int) > 40 by omega)]
      exact no _ (by unfold planOk impl_IsPlan.formed; rw [if_pos c1, if_neg c2, Bool.false_and]) rfl
  · have e : (decide (1 ≤ n) && decide (n ≤ 6)) = false := by rw [Bool.and_eq_false_iff, decide_eq_false_iff_not, decide_eq_false_iff_not]; omega
    simp only [e, Bool.false_eq_true, if_false]
    exact no _ (by unfold planOk impl_IsPlan.formed; rw [if_neg c1, Bool.false_and]) rfl
theorem planOk_of {n : Int} {ss : List (S73)} {os : List Int} (h : planOk n ss os = true) : ∃ m : Nat, n = m ∧ 1 ≤ m ∧ m ≤ 6 ∧ ss.length ≤ 40 ∧ os.length ≤ 6 ∧ InOrder m ss ∧ (∀ j : Nat, j < os.length → 0 ≤ rd os j ∧ rd os j ≤ (m : Int) + ss.length - 1) ∧ ∀ r ∈ exps m ss, ∀ e ∈ r, 0 ≤ e ∧ e ≤ 1000000 := by
  unfold planOk at h
  rw [Bool.and_eq_true] at h
  obtain ⟨h1, h2, h3, h4, h5⟩ := formed_of h.1
  obtain ⟨m, rfl⟩ := Int.eq_ofNat_of_zero_le (show 0 ≤ n by omega)
  have all_rd : ∀ (xs : List Int) (a b : Int) (d i : Nat), allFrom xs a b d i = true → ∀ j : Nat, i ≤ j → j < i + d → a ≤ rd xs j ∧ rd xs j ≤ b := by
    intro xs a b d
    induction d with
    | zero => intro i _ j h1 h2; omega
    | succ d ih =>
      intro i h j h1 h2
      rw [allFrom] at h
      by_cases c : a ≤ rd xs i ∧ rd xs i ≤ b
      · rw [if_pos c] at h
        by_cases e : j = i
        · subst e; exact c
        · exact ih (i + 1) h j (by omega) (by omega)
      · rw [if_neg c] at h; cases h
  refine ⟨m, rfl, by omega, by omega, h2, h3, order_of m ss h4, fun j hj => ?_, fun r hr e he => ?_⟩
  · rw [outs_all, Bool.not_eq_false'] at h5
    exact all_rd os _ _ os.length 0 h5 j (by omega) (by omega)
  · have h6 := h.2
    rw [Int.toNat_natCast, goodFrom_eq] at h6
    have h7 := List.all_eq_true.1 h6 r hr
    obtain ⟨j, hj, rfl⟩ := List.mem_iff_getElem.1 he
    have := all_rd r 0 1000000 r.length 0 h7 j (by omega) (by omega)
    rw [rd_nat] at this
    simpa [List.getD_eq_getElem?_getD, hj] using this
def marked (n : Nat) (a : Int) : List Int := (List.range n).map (fun j : Nat => a + (j : Int))
theorem marked_length (n : Nat) (a : Int) : (marked n a).length = n := by simp [marked]
theorem marked_succ (n : Nat) (a : Int) : marked (n + 1) a = marked n a ++ [a + n] := by simp [marked, List.range_succ]
theorem marked_get (n : Nat) (a : Int) (j : Nat) (h : j < n) : (marked n a).getD j 0 = a + j := by simp [marked, List.getD, h]

theorem marked_step (xs : List Int) (a : Int) (i : Nat) (h : i < xs.length) : (marked i a ++ xs.drop i).set i (a + i) = marked (i + 1) a ++ xs.drop (i + 1) := by
  rw [List.set_append_right _ _ (by rw [marked_length]; exact Nat.le_refl _), marked_length, Nat.sub_self, List.drop_eq_getElem_cons h, List.set_cons_zero, marked_succ]
  simp

theorem markIntS_ev (xs : List Int) (a : Int) (h0 : 0 ≤ a) (ha : a + xs.length ≤ 4611686018427387904) : Ev (fun k => laws_markIntS.f k xs a) (a + xs.length, marked xs.length a) := by
  have loop : ∀ (d k i : Nat), i ≤ xs.length → xs.length - i = d → d < k → laws_markIntS.l0 k (marked i a ++ xs.drop i) (a + i) i = some (a + xs.length, marked xs.length a) := by
    intro d
    induction d with
    | zero =>
      intro k i h1 hd hk
      obtain ⟨k, rfl⟩ : ∃ m, k = m + 1 := ⟨k - 1, by omega⟩
      obtain rfl : i = xs.length := by omega
      have hl : (marked xs.length a ++ xs.drop xs.length).length = xs.length := by simp [marked_length]
      rw [laws_markIntS.l0, hl, if_neg (by omega)]
      simp
    | succ d ih =>
      intro k i h1 hd hk
      obtain ⟨k, rfl⟩ : ∃ m, k = m + 1 := ⟨k - 1, by omega⟩
      have hl : (marked i a ++ xs.drop i).length = xs.length := by simp [marked_length]; omega
      rw [laws_markIntS.l0, hl, if_pos (by omega), if_pos (by omega), Int.toNat_natCast, marked_step xs a i (by omega), w64 (by omega) (by omega), w64 (by omega) (by omega)]
      have e : a + (i : Int) + 1 = a + ((i + 1 : Nat) : Int) := by omega
      rw [e]
      exact ih k (i + 1) (by omega) (by omega) (by omega)
  refine ⟨xs.length + 1, fun k hk => ?_⟩
  have h := loop xs.length k 0 (by omega) (by omega) (by omega)
  simpa [marked, laws_markIntS.f] using h

theorem heldIntS_ev (n : Nat) (a : Int) (h0 : 0 ≤ a) (ha : a + n ≤ 4611686018427387904) : Ev (fun k => laws_heldIntS.f k (marked n a) a) (a + n) := by
  have loop : ∀ (d k i : Nat), i ≤ n → n - i = d → d < k → laws_heldIntS.l0 k (marked n a) (a + i) i = some (a + n) := by
    intro d
    induction d with
    | zero =>
      intro k i h1 hd hk
      obtain ⟨k, rfl⟩ : ∃ m, k = m + 1 := ⟨k - 1, by omega⟩
      obtain rfl : i = n := by omega
      rw [laws_heldIntS.l0, marked_length, if_neg (by omega)]
    | succ d ih =>
      intro k i h1 hd hk
      obtain ⟨k, rfl⟩ : ∃ m, k = m + 1 := ⟨k - 1, by omega⟩
      rw [laws_heldIntS.l0, marked_length, if_pos (by omega), if_pos (by omega), rd_nat, marked_get n a i (by omega), if_pos rfl, w64 (by omega) (by omega), w64 (by omega) (by omega)]
      have e : a + (i : Int) + 1 = a + ((i + 1 : Nat) : Int) := by omega
      rw [e]
      exact ih k (i + 1) (by omega) (by omega) (by omega)
  refine ⟨n + 1, fun k hk => ?_⟩
  have h := loop n k 0 (by omega) (by omega) (by omega)
  simpa [laws_heldIntS.f] using h

def markedS (n : Nat) (a : Int) : List St := (List.range n).map (fun j : Nat => (⟨a + 2 * (j : Int), a + 2 * (j : Int) + 1⟩ : St))
theorem markedS_length (n : Nat) (a : Int) : (markedS n a).length = n := by simp [markedS]
theorem markedS_succ (n : Nat) (a : Int) : markedS (n + 1) a = markedS n a ++ [⟨a + 2 * (n : Int), a + 2 * (n : Int) + 1⟩] := by simp [markedS, List.range_succ]
theorem rdS_nat (ss : List St) (j : Nat) : rdS ss (j : Int) = ss.getD j z73 := by unfold rdS rd_T73; rw [Int.toNat_natCast]
theorem markedS_get (n : Nat) (a : Int) (j : Nat) (h : j < n) : rdS (markedS n a) (j : Int) = ⟨a + 2 * (j : Int), a + 2 * (j : Int) + 1⟩ := by rw [rdS_nat]; simp [markedS, List.getD, h]

theorem setS (l : List St) (x : St) (y : St) (t : List St) : (l ++ x :: t).set l.length y = l ++ y :: t := by
  rw [List.set_append_right _ _ (Nat.le_refl _), Nat.sub_self, List.set_cons_zero]
theorem getS (l : List St) (x : St) (t : List St) : rdS (l ++ x :: t) (l.length : Int) = x := by
  rw [rdS_nat]; simp [List.getD]

theorem markStepS_ev (xs : List St) (a : Int) (h0 : 0 ≤ a) (ha : a + 2 * xs.length ≤ 4611686018427387904) : Ev (fun k => laws_markStepS.f k xs a) (a + 2 * xs.length, markedS xs.length a) := by
  have loop : ∀ (d k i : Nat), i ≤ xs.length → xs.length - i = d → d < k → laws_markStepS.l0 k (markedS i a ++ xs.drop i) (a + 2 * i) i = some (a + 2 * xs.length, markedS xs.length a) := by
    intro d
    induction d with
    | zero =>
      intro k i h1 hd hk
      obtain ⟨k, rfl⟩ : ∃ m, k = m + 1 := ⟨k - 1, by omega⟩
      obtain rfl : i = xs.length := by omega
      have hl : (markedS xs.length a ++ xs.drop xs.length).length = xs.length := by simp [markedS_length]
      rw [laws_markStepS.l0, hl, if_neg (by omega)]
      simp
    | succ d ih =>
      intro k i h1 hd hk
      obtain ⟨k, rfl⟩ : ∃ m, k = m + 1 := ⟨k - 1, by omega⟩
      have hlt : i < xs.length := by omega
      have hl : (markedS i a ++ xs.drop i).length = xs.length := by simp [markedS_length]; omega
      have hm := markedS_length i a
      rw [laws_markStepS.l0, hl, if_pos (by omega), if_pos (by omega), Int.toNat_natCast, List.drop_eq_getElem_cons hlt]
      have e1 := setS (markedS i a) xs[i] ⟨a + 2 * (i : Int), (rdS (markedS i a ++ xs[i] :: xs.drop (i + 1)) (i : Int)).f1⟩ (xs.drop (i + 1))
      rw [hm] at e1
      unfold rdS at e1
      rw [e1]
      simp only [Option.bind_some]
      have e2 := getS (markedS i a) ⟨a + 2 * (i : Int), (rdS (markedS i a ++ xs[i] :: xs.drop (i + 1)) (i : Int)).f1⟩ (xs.drop (i + 1))
      rw [hm] at e2
      unfold rdS at e2
      rw [e2]
      have e3 := setS (markedS i a) ⟨a + 2 * (i : Int), (rdS (markedS i a ++ xs[i] :: xs.drop (i + 1)) (i : Int)).f1⟩ ⟨a + 2 * (i : Int), a + 2 * (i : Int) + 1⟩ (xs.drop (i + 1))
      rw [hm] at e3
      unfold rdS at e3
      rw [w64 (show -9223372036854775808 ≤ a + 2 * (i : Int) + 1 by omega) (by omega), e3, w64 (show -9223372036854775808 ≤ a + 2 * (i : Int) + 1 + 1 by omega) (by omega), w64 (show -9223372036854775808 ≤ (i : Int) + 1 by omega) (by omega)]
      have h := ih k (i + 1) (by omega) (by omega) (by omega)
      rw [markedS_succ, List.append_assoc, List.singleton_append] at h
      have e4 : a + 2 * ((i + 1 : Nat) : Int) = a + 2 * (i : Int) + 1 + 1 := by omega
      rw [e4] at h
      exact h
  refine ⟨xs.length + 1, fun k hk => ?_⟩
  have h := loop xs.length k 0 (by omega) (by omega) (by omega)
  simpa [markedS, laws_markStepS.f] using h

theorem markPlan_ev (n : Int) (ss : List St) (os : List Int) (h1 : ss.length ≤ 2000000) (h2 : os.length ≤ 2000000) : Ev (fun k => laws_markPlan.f k n ss os 1) (1 + 2 * ss.length + os.length, markedS ss.length 1, marked os.length (1 + 2 * ss.length)) := by
  unfold laws_markPlan.f
  refine ev_bind (markStepS_ev ss 1 (by omega) (by omega)) ?_
  refine ev_bind (markIntS_ev os (1 + 2 * ss.length) (by omega) (by omega)) ?_
  exact Ev.now _
/-- The law's tail where a plan comes in and numbers go out: both sides answer (w, b): the law holds. -/
theorem tail_ (n : Int) (l1 : List (S93)) (l2 : List Int) (hl : l1.length + l2.length ≤ 1048576) (w : List Int) (b : Bool) (hw : w.length ≤ 1000000) (hs : Ev (fun k => spec_ChainOfPlan.f k n (l1.map cv) l2) (w, b)) (hi : Ev (fun k => impl_ChainOfPlan.f k n (l1.map cv) l2) (w, b)) : Ev (fun k => laws_FnExactChainOfPlan.f k n l1 l2) true := by
  have hp := toPlan_ev n l1 l2 (by omega) (by omega)
  have hcl : (l1.map cv).length ≤ 1048576 := by rw [List.length_map]; omega
  have hep := eqPlan_same n (l1.map cv) l2 hcl (by omega)
  have hmp := markPlan_ev n (l1.map cv) l2 (by omega) (by omega)
  have hm := markIntS_ev w 1 (by omega) (by omega)
  have hh := heldIntS_ev w.length 1 (by omega) (by omega)
  have he := eqIntS_same w (by omega)
  have e0 : (b != b) = false := by cases b <;> rfl
  have n0 : ¬ (1 + (w.length : Int) < 0) := by omega
  have np : ¬ (1 + 2 * ((l1.map cv).length : Int) + (l2.length : Int) < 0) := by omega
  have j2 : Ev (fun k => laws_FnExactChainOfPlan.j2 k (marked w.length 1) (1 + w.length) false) true := by
    refine ev_shift ?_
    simp only [laws_FnExactChainOfPlan.j2, Bool.false_eq_true, if_false]
    refine ev_bind hh ?_
    simp only [if_neg n0, if_true]
    exact Ev.now _
  have j1 : Ev (fun k => laws_FnExactChainOfPlan.j1 k w b w false n l1 l2) true := by
    refine ev_shift ?_
    simp only [laws_FnExactChainOfPlan.j1, Bool.false_eq_true, if_false]
    refine ev_bind hm ?_
    refine ev_bind hh ?_
    simp only [if_neg n0, if_true]
    refine ev_bind hp ?_
    refine ev_bind hi ?_
    refine ev_bind he ?_
    simp only [if_true, e0]
    exact j2
  have j0 : Ev (fun k => laws_FnExactChainOfPlan.j0 k w b w b false n l1 l2 n (l1.map cv) l2) true := by
    refine ev_shift ?_
    simp only [laws_FnExactChainOfPlan.j0, Bool.false_eq_true, if_false]
    refine ev_bind hp ?_
    refine ev_bind hep ?_
    simp only [if_true]
    refine ev_bind hmp ?_
    simp only [if_neg np]
    refine ev_bind he ?_
    simp only [if_true, e0]
    exact j1
  unfold laws_FnExactChainOfPlan.f
  simp only [sz_ok n l1 l2 hl, Option.bind_some, if_neg (show ¬ (1048576 - (l1.length : Int) - (l2.length : Int)) < 0 by omega)]
  refine ev_bind hp ?_
  refine ev_bind hs ?_
  refine ev_bind hp ?_
  refine ev_bind hi ?_
  refine ev_bind he ?_
  simp only [if_true, e0]
  exact j0
/-- What is too large: the law answers true at once. -/
theorem over_ (n : Int) (l1 : List (S93)) (l2 : List Int) (m1 : l1.length ≤ maxLen) (m2 : l2.length ≤ maxLen) (hl : ¬ l1.length + l2.length ≤ 1048576) : ∃ k, laws_FnExactChainOfPlan.f k n l1 l2 = some true := by
  refine ⟨0, ?_⟩
  unfold laws_FnExactChainOfPlan.f
  rw [sz_big n l1 l2 m1 m2 hl, Option.bind_some, if_pos (by decide)]
def hasFrom (ys : List Int) (x : Int) : Nat → Int → Bool
  | 0, _ => false
  | d + 1, i => if rd ys i = x then true else hasFrom ys x d (i + 1)
/-- Is x among them? -/
def has (ys : List Int) (x : Int) : Bool := hasFrom ys x ys.length 0
theorem hasFrom_at (ys : List Int) (x : Int) : ∀ (d : Nat) (i : Int), hasFrom ys x d i = true → ∃ j, i ≤ j ∧ j < i + d ∧ rd ys j = x
  | 0, _, h => by cases h
  | d + 1, i, h => by
    unfold hasFrom at h
    split at h
    · rename_i c; exact ⟨i, by omega, by omega, c⟩
    · obtain ⟨j, h1, h2, h3⟩ := hasFrom_at ys x d (i + 1) h
      exact ⟨j, by omega, by omega, h3⟩
theorem hasFrom_mk (ys : List Int) (x : Int) : ∀ (d : Nat) (i j : Int), i ≤ j → j < i + d → rd ys j = x → hasFrom ys x d i = true
  | 0, _, _, _, _, _ => by omega
  | d + 1, i, j, h1, h2, h3 => by
    unfold hasFrom
    split
    · rfl
    · rename_i c
      by_cases e : i = j
      · subst e; exact absurd h3 c
      · exact hasFrom_mk ys x d (i + 1) j (by omega) (by omega) h3
theorem has_iff (ys : List Int) (x : Int) : has ys x = true ↔ ∃ j : Int, 0 ≤ j ∧ j < ys.length ∧ rd ys j = x := by
  constructor
  · intro h
    obtain ⟨j, h1, h2, h3⟩ := hasFrom_at ys x ys.length 0 h
    exact ⟨j, h1, by omega, h3⟩
  · rintro ⟨j, h1, h2, h3⟩
    exact hasFrom_mk ys x ys.length 0 j h1 (by omega) h3
theorem rd_take (xs : List Int) (k j : Int) (h0 : 0 ≤ j) (h1 : j < k) : rd (xs.take k.toNat) j = rd xs j := by
  unfold rd
  simp only [List.getD_eq_getElem?_getD]
  rw [List.getElem?_take_of_lt (by omega)]

theorem rd_ne (xs : List Int) (i : Nat) (h : i < xs.length) : rd xs (i : Int) = xs[i] := by rw [rd_nat]; simp [List.getD, h]
theorem has_mem (ys : List Int) (x : Int) : has ys x = decide (x ∈ ys) := by
  rw [Bool.eq_iff_iff, decide_eq_true_iff, has_iff]
  constructor
  · rintro ⟨j, h0, h1, h2⟩
    obtain ⟨j, rfl⟩ := Int.eq_ofNat_of_zero_le h0
    rw [rd_ne ys j (by omega)] at h2
    exact List.mem_iff_getElem.2 ⟨j, by omega, h2⟩
  · intro h
    obtain ⟨j, h1, h2⟩ := List.mem_iff_getElem.1 h
    exact ⟨j, by omega, by omega, by rw [rd_ne ys j h1]; exact h2⟩
theorem drop_cons (xs : List Int) (i : Nat) (h : i < xs.length) : xs.drop i = rd xs (i : Int) :: xs.drop (i + 1) := by rw [rd_ne xs i h]; exact List.drop_eq_getElem_cons h
/-! the place of a number in a list -/
def place (xs : List Int) (x : Int) : Nat → Nat → Nat
  | 0, i => i
  | d + 1, i => if rd xs (i : Int) < x then place xs x d (i + 1) else i
def putAt (xs : List Int) (x : Int) (k : Nat) : List Int := if k < xs.length ∧ rd xs (k : Int) = x then xs else xs.take k ++ x :: xs.drop k
/-- l1Put. -/
def put (xs : List Int) (x : Int) : List Int := putAt xs x (place xs x xs.length 0)
theorem place_le (xs : List Int) (x : Int) : ∀ (d i : Nat), place xs x d i ≤ i + d
  | 0, i => Nat.le_refl _
  | d + 1, i => by
    unfold place
    split
    · have := place_le xs x d (i + 1); omega
    · omega
theorem place_low (xs : List Int) (x : Int) : ∀ (d i m : Nat), i ≤ m → m < place xs x d i → rd xs (m : Int) < x
  | 0, i, m, h1, h2 => by unfold place at h2; omega
  | d + 1, i, m, h1, h2 => by
    unfold place at h2
    split at h2
    · rename_i c
      by_cases e : i = m
      · subst e; exact c
      · exact place_low xs x d (i + 1) m (by omega) h2
    · omega
theorem place_high (xs : List Int) (x : Int) : ∀ (d i : Nat), place xs x d i < i + d → ¬ rd xs (place xs x d i : Int) < x
  | 0, i, h => by unfold place at h; omega
  | d + 1, i, h => by
    unfold place at h ⊢
    split
    · rename_i c
      rw [if_pos c] at h
      exact place_high xs x d (i + 1) (by omega)
    · assumption
theorem place_eq (xs : List Int) (x : Int) (k : Nat) (hk : k ≤ xs.length) (h1 : ∀ m : Nat, m < k → rd xs (m : Int) < x) (h2 : k < xs.length → ¬ rd xs (k : Int) < x) : place xs x xs.length 0 = k := by
  have a := place_le xs x xs.length 0
  rcases Nat.lt_trichotomy (place xs x xs.length 0) k with c | c | c
  · exact absurd (h1 _ c) (place_high xs x xs.length 0 (by omega))
  · exact c
  · exact absurd (place_low xs x xs.length 0 k (by omega) c) (h2 (by omega))
theorem l1Put_ev (xs : List Int) (x : Int) (hl : xs.length ≤ 100000000) : Ev (fun f => spec_l1Put.f f xs x) (put xs x) := by
  have loop : ∀ (d i : Nat), i + d = xs.length → Ev (fun f => spec_l1Put.l0 f xs x i) (putAt xs x (place xs x d i)) := by
    intro d
    induction d with
    | zero =>
      intro i hd
      refine ev_shift ?_
      have l1 : ([] ++ xs.take i : List Int).length ≤ 100000000 := by simp only [List.nil_append, List.length_take]; omega
      have l2 : (([] ++ xs.take i : List Int) ++ [x]).length ≤ 100000001 := by rw [List.length_append, List.length_singleton]; omega
      simp only [spec_l1Put.l0, if_neg (show ¬ (i : Int) < (xs.length : Int) by omega), Option.bind_some, if_pos (show (0 : Int) ≤ (i : Int) by omega), if_pos (show (i : Int) ≤ (xs.length : Int) by omega), Int.toNat_natCast, if_pos (show ([] : List Int).length + (xs.take i).length < 17592186044416 by rw [List.length_take]; simp only [List.length_nil]; omega), if_pos (show ([] ++ xs.take i : List Int).length < 17592186044416 by omega), if_pos (show (([] ++ xs.take i : List Int) ++ [x]).length + (xs.drop i).length < 17592186044416 by rw [List.length_drop]; omega)]
      unfold place putAt
      rw [if_neg (by omega), List.nil_append, List.append_assoc]
      exact Ev.now _
    | succ d ih =>
      intro i hd
      have ih1 := ih (i + 1) (by omega)
      unfold place
      by_cases c : rd xs (i : Int) < x
      · rw [if_pos c]
        refine ev_shift ?_
        simp only [spec_l1Put.l0, if_pos (show (i : Int) < (xs.length : Int) by omega), if_pos (show (0 : Int) ≤ (i : Int) by omega), if_pos c, w64 (show -9223372036854775808 ≤ (i : Int) + 1 by omega) (by omega)]
        exact ih1
      · rw [if_neg c]
        by_cases e : rd xs (i : Int) = x
        · refine ev_shift ?_
          simp only [spec_l1Put.l0, if_pos (show (i : Int) < (xs.length : Int) by omega), if_pos (show (0 : Int) ≤ (i : Int) by omega), if_neg c, if_pos e]
          unfold putAt
          rw [if_pos ⟨by omega, e⟩]
          exact Ev.now _
        · refine ev_shift ?_
          have l1 : ([] ++ xs.take i : List Int).length ≤ 100000000 := by simp only [List.nil_append, List.length_take]; omega
          have l2 : (([] ++ xs.take i : List Int) ++ [x]).length ≤ 100000001 := by rw [List.length_append, List.length_singleton]; omega
          simp only [spec_l1Put.l0, if_pos (show (i : Int) < (xs.length : Int) by omega), if_neg c, if_neg e, Option.bind_some, if_pos (show (0 : Int) ≤ (i : Int) by omega), if_pos (show (i : Int) ≤ (xs.length : Int) by omega), Int.toNat_natCast, if_pos (show ([] : List Int).length + (xs.take i).length < 17592186044416 by rw [List.length_take]; simp only [List.length_nil]; omega), if_pos (show ([] ++ xs.take i : List Int).length < 17592186044416 by omega), if_pos (show (([] ++ xs.take i : List Int) ++ [x]).length + (xs.drop i).length < 17592186044416 by rw [List.length_drop]; omega)]
          unfold putAt
          rw [if_neg (fun h => e h.2), List.nil_append, List.append_assoc]
          exact Ev.now _
  exact loop xs.length 0 (by omega)
theorem put_length (xs : List Int) (x : Int) : (put xs x).length ≤ xs.length + 1 := by
  unfold put putAt
  split
  · omega
  · rw [List.length_append, List.length_cons, List.length_take, List.length_drop]; omega
/-! lists that rise, and what slices.Sort and slices.Compact make of a list -/
theorem strict_eq : ∀ l1 l2 : List Int, l1.Pairwise (· < ·) → l2.Pairwise (· < ·) → (∀ x, x ∈ l1 ↔ x ∈ l2) → l1 = l2
  | [], [], _, _, _ => rfl
  | [], b :: l2, _, _, h => absurd ((h b).2 (List.mem_cons_self ..)) (by simp)
  | a :: l1, [], _, _, h => absurd ((h a).1 (List.mem_cons_self ..)) (by simp)
  | a :: l1, b :: l2, h1, h2, h => by
    obtain ⟨p1, q1⟩ := List.pairwise_cons.1 h1
    obtain ⟨p2, q2⟩ := List.pairwise_cons.1 h2
    have e : a = b := by
      rcases List.mem_cons.1 ((h a).1 (List.mem_cons_self ..)) with c | c
      · exact c
      · rcases List.mem_cons.1 ((h b).2 (List.mem_cons_self ..)) with d | d
        · exact d.symm
        · have := p1 b d; have := p2 a c; omega
    subst e
    rw [strict_eq l1 l2 q1 q2 (fun x => ?_)]
    constructor
    · intro hx
      rcases List.mem_cons.1 ((h x).1 (List.mem_cons_of_mem _ hx)) with c | c
      · have := p1 x hx; omega
      · exact c
    · intro hx
      rcases List.mem_cons.1 ((h x).2 (List.mem_cons_of_mem _ hx)) with c | c
      · have := p2 x hx; omega
      · exact c
theorem comp_fact (d : Array Int) (hs : ∀ i j, i ≤ j → j < d.size → d[i]! ≤ d[j]!) : ∀ m, m ≤ d.size → (Go.Lib.compactUpTo d m).Pairwise (· < ·) ∧ (∀ x, x ∈ Go.Lib.compactUpTo d m ↔ ∃ j, j < m ∧ d[j]! = x)
  | 0, _ => ⟨by simp [Go.Lib.compactUpTo], fun x => by simp [Go.Lib.compactUpTo]⟩
  | m + 1, hm => by
    obtain ⟨h1, h2⟩ := comp_fact d hs m (by omega)
    rw [Go.Lib.compactUpTo_succ]
    by_cases c : Go.Lib.keeps d m = true
    · rw [if_pos c]
      refine ⟨List.pairwise_append.2 ⟨h1, by simp, fun x hx y hy => ?_⟩, fun x => ?_⟩
      · rw [List.mem_singleton.1 hy]
        obtain ⟨j, hj, rfl⟩ := (h2 x).1 hx
        have a1 := hs j (m - 1) (by omega) (by omega)
        have a2 := hs (m - 1) m (by omega) (by omega)
        have a3 : d[m]! ≠ d[m - 1]! := by
          unfold Go.Lib.keeps at c
          rcases of_decide_eq_true c with q | q
          · omega
          · exact q
        omega
      · rw [List.mem_append, h2, List.mem_singleton]
        constructor
        · rintro (⟨j, hj, e⟩ | e)
          · exact ⟨j, by omega, e⟩
          · exact ⟨m, by omega, e.symm⟩
        · rintro ⟨j, hj, e⟩
          by_cases q : j = m
          · subst q; exact .inr e.symm
          · exact .inl ⟨j, by omega, e⟩
    · rw [if_neg c, List.append_nil]
      refine ⟨h1, fun x => ?_⟩
      rw [h2]
      constructor
      · rintro ⟨j, hj, e⟩; exact ⟨j, by omega, e⟩
      · rintro ⟨j, hj, e⟩
        by_cases q : j = m
        · subst q
          have hj0 : j ≠ 0 := fun h => c (by unfold Go.Lib.keeps; exact decide_eq_true (.inl h))
          have he : d[j]! = d[j - 1]! := by
            by_cases r : d[j]! = d[j - 1]!
            · exact r
            · exact absurd (Go.Lib.keeps_pos r) c
          exact ⟨j - 1, by omega, by rw [← he]; exact e⟩
        · exact ⟨j, by omega, e⟩
theorem inc_fact (l : List Int) : (Go.Lib.compact (l.mergeSort fun x y => decide (x ≤ y))).Pairwise (· < ·) ∧ ∀ x, x ∈ Go.Lib.compact (l.mergeSort fun x y => decide (x ≤ y)) ↔ x ∈ l := by
  have hp : (l.mergeSort fun x y => decide (x ≤ y)).Pairwise (fun a b => decide (a ≤ b) = true) := List.pairwise_mergeSort (le := fun x y : Int => decide (x ≤ y)) (fun a b c h1 h2 => decide_eq_true (Int.le_trans (of_decide_eq_true h1) (of_decide_eq_true h2))) (fun a b => by rcases Int.le_total a b with h | h <;> simp [h]) l
  have hm : ∀ x, x ∈ (l.mergeSort fun x y => decide (x ≤ y)) ↔ x ∈ l := fun x => List.mem_mergeSort
  generalize (l.mergeSort fun x y => decide (x ≤ y)) = z at hp hm ⊢
  have hs : ∀ i j, i ≤ j → j < z.toArray.size → z.toArray[i]! ≤ z.toArray[j]! := fun i j hij hj => by
    have hj' : j < z.length := by simpa using hj
    rw [getElem!_pos _ i (by simp; omega), getElem!_pos _ j hj]
    simp only [List.getElem_toArray]
    by_cases e : i = j
    · subst e; exact Int.le_refl _
    · exact of_decide_eq_true (List.pairwise_iff_getElem.1 hp i j (by omega) hj' (by omega))
  obtain ⟨a, b⟩ := comp_fact z.toArray hs z.length (by simp)
  refine ⟨a, fun x => ?_⟩
  rw [show Go.Lib.compact z = Go.Lib.compactUpTo z.toArray z.length from rfl, b, ← hm]
  constructor
  · rintro ⟨j, hj, e⟩
    rw [getElem!_pos _ j (by simpa using hj)] at e
    exact List.mem_iff_getElem.2 ⟨j, hj, by simpa using e⟩
  · intro h
    obtain ⟨j, hj, e⟩ := List.mem_iff_getElem.1 h
    exact ⟨j, hj, by rw [getElem!_pos _ j (by simpa using hj)]; simpa using e⟩
theorem put_fact (xs : List Int) (n : Int) (h : xs.Pairwise (· < ·)) : (put xs n).Pairwise (· < ·) ∧ ∀ x, x ∈ put xs n ↔ x ∈ xs ∨ x = n := by
  unfold put putAt
  obtain ⟨k, hk⟩ : ∃ k, place xs n xs.length 0 = k := ⟨_, rfl⟩
  have k0 := place_le xs n xs.length 0
  have k1 : ∀ m : Nat, m < k → rd xs (m : Int) < n := fun m hm => place_low xs n xs.length 0 m (Nat.zero_le _) (by omega)
  have k2 : k < xs.length → ¬ rd xs (k : Int) < n := fun hl => by have := place_high xs n xs.length 0 (by omega); rwa [hk] at this
  rw [hk] at k0 ⊢
  have ht : ∀ a ∈ xs.take k, a < n := fun a ha => by
    obtain ⟨j, hj, rfl⟩ := List.mem_iff_getElem.1 ha
    rw [List.length_take] at hj
    rw [List.getElem_take, ← rd_ne xs j (by omega)]
    exact k1 j (by omega)
  split
  · rename_i c
    refine ⟨h, fun x => ⟨.inl, fun q => q.elim id (fun e => ?_)⟩⟩
    rw [e, ← c.2, rd_ne xs k c.1]
    exact List.getElem_mem _
  · rename_i c
    have hd : ∀ b ∈ xs.drop k, n < b := fun b hb => by
      obtain ⟨j, hj, rfl⟩ := List.mem_iff_getElem.1 hb
      rw [List.length_drop] at hj
      rw [List.getElem_drop]
      have a1 := k2 (by omega)
      rw [rd_ne xs k (by omega)] at a1
      have a2 : ¬ xs[k]'(by omega) = n := fun e => c ⟨by omega, by rw [rd_ne xs k (by omega)]; exact e⟩
      by_cases e : j = 0
      · subst e; simp only [Nat.add_zero]; omega
      · have := List.pairwise_iff_getElem.1 h k (k + j) (by omega) (by omega) (by omega)
        omega
    have hsp := List.take_append_drop k xs
    refine ⟨List.pairwise_append.2 ⟨h.sublist (List.take_sublist ..), List.pairwise_cons.2 ⟨hd, h.sublist (List.drop_sublist ..)⟩, fun a ha b hb => ?_⟩, fun x => ?_⟩
    · rcases List.mem_cons.1 hb with e | e
      · rw [e]; exact ht a ha
      · have := ht a ha; have := hd b e; omega
    · have hm : x ∈ xs ↔ x ∈ xs.take k ∨ x ∈ xs.drop k := by rw [← List.mem_append, hsp]
      rw [List.mem_append, List.mem_cons, hm]
      constructor
      · rintro (q | q | q)
        · exact .inl (.inl q)
        · exact .inr q
        · exact .inl (.inr q)
      · rintro ((q | q) | q)
        · exact .inl q
        · exact .inr (.inr q)
        · exact .inr (.inl q)
theorem puts_fact : ∀ (ys xs : List Int), xs.Pairwise (· < ·) → (ys.foldl put xs).Pairwise (· < ·) ∧ ∀ x, x ∈ ys.foldl put xs ↔ x ∈ xs ∨ x ∈ ys
  | [], xs, h => ⟨h, fun x => by simp⟩
  | y :: ys, xs, h => by
    obtain ⟨a, b⟩ := put_fact xs y h
    obtain ⟨c, d⟩ := puts_fact ys (put xs y) a
    refine ⟨c, fun x => ?_⟩
    rw [List.foldl_cons, d, b, List.mem_cons]
    constructor
    · rintro ((q | q) | q)
      · exact .inl q
      · exact .inr (.inl q)
      · exact .inr (.inr q)
    · rintro (q | q | q)
      · exact .inl (.inl q)
      · exact .inl (.inr q)
      · exact .inr q
theorem puts_length : ∀ (ys xs : List Int), (ys.foldl put xs).length ≤ xs.length + ys.length
  | [], _ => Nat.le_refl _
  | y :: ys, xs => by
    have := puts_length ys (put xs y)
    have := put_length xs y
    rw [List.foldl_cons, List.length_cons]
    omega
/-! what makes a chain -/
theorem inner_has (xs : List Int) (k j : Int) : ∀ (d i : Nat) (a : Nat), i ≤ a → a < i + d → wrap64 (rd xs a + rd xs j) = rd xs k → inner xs k j d i ≠ []
  | 0, i, a, h1, h2, _ => by omega
  | d + 1, i, a, h1, h2, h => by
    unfold inner
    by_cases c : wrap64 (rd xs (i : Int) + rd xs j) = rd xs k
    · rw [if_pos c]; simp
    · rw [if_neg c, show ((i : Int) + 1) = ((i + 1 : Nat) : Int) by omega]
      have : i ≠ a := fun e => c (by rw [e]; exact h)
      exact inner_has xs k j d (i + 1) a (by omega) (by omega) h
theorem outer_has (xs : List Int) (k : Int) : ∀ (d j0 j : Nat), j0 ≤ j → j < j0 + d → inner xs k j (j + 1) 0 ≠ [] → outer xs k d j0 ≠ []
  | 0, j0, j, h1, h2, _ => by omega
  | d + 1, j0, j, h1, h2, h => by
    unfold outer
    by_cases e : j0 = j
    · subst e
      rw [show ((j0 : Int) + 1).toNat = j0 + 1 by omega]
      intro q
      exact h (List.append_eq_nil_iff.1 q).1
    · have := outer_has xs k d (j0 + 1) j (by omega) (by omega) h
      rw [show ((j0 : Int) + 1) = ((j0 + 1 : Nat) : Int) by omega]
      intro q
      exact this (List.append_eq_nil_iff.1 q).2
theorem chain_mk (xs : List Int) (h1 : 1 ≤ xs.length) (h2 : xs.length ≤ 41) (h0 : rd xs 0 = 1) (hs : ∀ a b : Nat, a < b → b < xs.length → rd xs (a : Int) < rd xs (b : Int)) (hm : ∀ a : Nat, a < xs.length → 0 ≤ rd xs (a : Int) ∧ rd xs (a : Int) ≤ 1000000)
    (hx : ∀ k : Nat, 1 ≤ k → k < xs.length → ∃ i j : Nat, i ≤ j ∧ j < k ∧ rd xs (i : Int) + rd xs (j : Int) = rd xs (k : Int)) : chain xs = true := by
  have loop : ∀ (d k : Nat), 1 ≤ k → k + d = xs.length → implFrom xs d k = true := by
    intro d
    induction d with
    | zero => intro k _ _; rfl
    | succ d ih =>
      intro k hk hd
      obtain ⟨i, j, hij, hjk, e⟩ := hx k hk (by omega)
      have a1 := hs (k - 1) k (by omega) (by omega)
      have a2 := hm k (by omega)
      have a3 := hm i (by omega)
      have a4 := hm j (by omega)
      rw [show ((k - 1 : Nat) : Int) = (k : Int) - 1 by omega] at a1
      have hw : wrap64 (rd xs (i : Int) + rd xs (j : Int)) = rd xs (k : Int) := by rw [w64 (by omega) (by omega)]; exact e
      have hn : sumsOf xs (k : Int) ≠ [] := by
        unfold sumsOf
        rw [Int.toNat_natCast]
        exact outer_has xs k k 0 j (Nat.zero_le _) (by omega) (inner_has xs k j (j + 1) 0 i (Nat.zero_le _) (by omega) hw)
      unfold implFrom
      rw [if_neg (by omega), if_neg (by omega), if_neg (fun h => hn (List.eq_nil_of_length_eq_zero h)), show ((k : Int) + 1) = ((k + 1 : Nat) : Int) by omega]
      exact ih (k + 1) (by omega) (by omega)
  unfold chain
  rw [if_pos ⟨h1, h2⟩, if_pos h0]
  exact loop (xs.length - 1) 1 (Nat.le_refl _) (by omega)
def ifChain (xs : List Int) : List Int × Bool := if chain xs = true then (xs, true) else ([], false)
theorem chIf_ev (xs : List Int) (hl : xs.length ≤ 1048576) : Ev (fun f => spec_chIf.f f xs) (ifChain xs) := by
  unfold spec_chIf.f ifChain
  refine ev_bind (chGood_ev xs hl) ?_
  by_cases c : chain xs = true
  · simp only [c, if_true]; exact Ev.now _
  · simp only [if_neg c]; exact Ev.now _
/-- Rows of one exponent each: 1, too great, or the sum of two. -/
def G (rows : List (List Int)) : Prop := [1] ∈ rows ∧ ∀ r ∈ rows, ∃ e : Int, r = [e] ∧ 1 ≤ e ∧ e ≤ 1000001 ∧ (e = 1 ∨ e = 1000001 ∨ ∃ a b : Int, [a] ∈ rows ∧ [b] ∈ rows ∧ 1 ≤ a ∧ 1 ≤ b ∧ e = a + b)
theorem grow_G (ss : List St) (ho : InOrder 1 ss) : ∀ (d i : Nat) (rows : List (List Int)), i + d = ss.length → rows.length = 1 + i → G rows → G (grow ss d i rows)
  | 0, i, rows, _, _, h => h
  | d + 1, i, rows, hd, hr, h => by
    obtain ⟨f0, f1, f2⟩ := ho i (by omega)
    have m0 := rd_mem rows _ f0 (by omega)
    have m1 := rd_mem rows _ (Int.le_trans f0 f1) (by omega)
    obtain ⟨a, ea, a1, a2, _⟩ := h.2 _ m0
    obtain ⟨b, eb, b1, b2, _⟩ := h.2 _ m1
    rw [grow, ea, eb, show ((i : Int) + 1) = ((i + 1 : Nat) : Int) by omega]
    rw [ea] at m0
    rw [eb] at m1
    have en : addRow [a] [b] = [cap2 (wrap64 (a + b))] := rfl
    rw [en, w64 (by omega) (by omega)]
    refine grow_G ss ho d (i + 1) _ (by omega) (by rw [List.length_append, List.length_singleton]; omega) ⟨List.mem_append_left _ h.1, fun r hr' => ?_⟩
    rcases List.mem_append.1 hr' with q | q
    · obtain ⟨e, e1, e2, e3, e4⟩ := h.2 r q
      refine ⟨e, e1, e2, e3, ?_⟩
      rcases e4 with e4 | e4 | ⟨x, y, hx, hy, hh⟩
      · exact .inl e4
      · exact .inr (.inl e4)
      · exact .inr (.inr ⟨x, y, List.mem_append_left _ hx, List.mem_append_left _ hy, hh⟩)
    · rw [List.mem_singleton.1 q]
      unfold cap2
      by_cases c : a + b < 1000001
      · rw [if_pos c]
        exact ⟨a + b, rfl, by omega, by omega, .inr (.inr ⟨a, b, List.mem_append_left _ m0, List.mem_append_left _ m1, a1, b1, rfl⟩)⟩
      · rw [if_neg c]
        exact ⟨1000001, rfl, by omega, by omega, .inr (.inl rfl)⟩
theorem exps_G (ss : List St) (ho : InOrder 1 ss) : G (exps 1 ss) := by
  refine grow_G ss ho ss.length 0 (base0 1 1) (by omega) (by rw [base0_length]) ⟨by decide, fun r hr => ?_⟩
  have : r = [1] := by
    have e : base0 1 1 = [[1]] := by decide
    rw [e] at hr
    exact List.mem_singleton.1 hr
  exact ⟨1, this, by omega, by omega, .inl rfl⟩
/-- The exponents of the values of a plan of one input. -/
def es (ss : List St) : List Int := (exps 1 ss).map (fun r => rd r 0)
theorem mem_es (ss : List St) (ho : InOrder 1 ss) (x : Int) : x ∈ es ss ↔ [x] ∈ exps 1 ss := by
  unfold es
  rw [List.mem_map]
  constructor
  · rintro ⟨r, hr, e⟩
    obtain ⟨y, rfl, _⟩ := (exps_G ss ho).2 r hr
    rw [← e]; exact hr
  · intro h; exact ⟨_, h, rfl⟩
theorem flat_es (rows : List (List Int)) (h : ∀ r ∈ rows, ∃ e : Int, r = [e]) : rows.flatten = rows.map (fun r => rd r 0) := by
  induction rows with
  | nil => rfl
  | cons r rows ih =>
    obtain ⟨e, rfl⟩ := h r (List.mem_cons_self ..)
    rw [List.flatten_cons, List.map_cons, ih (fun r hr => h r (List.mem_cons_of_mem _ hr))]
    rfl
def inc (l : List Int) : List Int := Go.Lib.compact (l.mergeSort fun x y => decide (x ≤ y))
theorem inc_chain (ss : List St) (ho : InOrder 1 ss) (hs : ss.length ≤ 40) (hb : ∀ r ∈ exps 1 ss, ∀ e ∈ r, 0 ≤ e ∧ e ≤ 1000000) : chain (inc (es ss)) = true := by
  have hp : (inc (es ss)).Pairwise (· < ·) := (inc_fact (es ss)).1
  have g := exps_G ss ho
  have hl : (inc (es ss)).length ≤ 41 := by
    unfold inc
    refine Nat.le_trans (Go.Lib.compact_length_le _) ?_
    rw [List.length_mergeSort]
    unfold es
    rw [List.length_map, (exps_ok 1 ss ho).1]
    omega
  have hmem : ∀ x, x ∈ inc (es ss) ↔ [x] ∈ exps 1 ss := fun x => by rw [← mem_es ss ho]; exact (inc_fact (es ss)).2 x
  generalize inc (es ss) = xs at hp hl hmem ⊢
  have hat : ∀ x : Int, x ∈ xs → ∃ i : Nat, i < xs.length ∧ rd xs (i : Int) = x := fun x hx => by
    obtain ⟨i, hi, e⟩ := List.mem_iff_getElem.1 hx
    exact ⟨i, hi, by rw [rd_ne xs i hi]; exact e⟩
  have hst : ∀ a b : Nat, a < b → b < xs.length → rd xs (a : Int) < rd xs (b : Int) := fun a b hab hb' => by
    rw [rd_ne xs a (by omega), rd_ne xs b hb']
    exact List.pairwise_iff_getElem.1 hp a b (by omega) hb' hab
  have hin : ∀ a : Nat, a < xs.length → [rd xs (a : Int)] ∈ exps 1 ss := fun a ha => (hmem _).1 (by rw [rd_ne xs a ha]; exact List.getElem_mem _)
  have hge : ∀ a : Nat, a < xs.length → 1 ≤ rd xs (a : Int) ∧ rd xs (a : Int) ≤ 1000000 := fun a ha => by
    have h1 := hin a ha
    obtain ⟨e, e1, e2, _⟩ := g.2 _ h1
    have e3 : rd xs (a : Int) = e := by injection e1
    have h2 := hb _ h1 _ (List.mem_singleton.2 rfl)
    omega
  obtain ⟨i1, hi1, e1⟩ := hat 1 ((hmem 1).2 g.1)
  have h0 : rd xs 0 = 1 := by
    by_cases c : i1 = 0
    · subst c; exact e1
    · have a1 := hst 0 i1 (by omega) hi1
      have a2 := hge 0 (by omega)
      rw [show ((0 : Nat) : Int) = 0 from rfl] at a1 a2
      omega
  refine chain_mk xs (by omega) hl h0 hst (fun a ha => by have := hge a ha; omega) (fun k h1 hk => ?_)
  obtain ⟨e, q1, q2, q3, q4⟩ := g.2 _ (hin k hk)
  have q5 : rd xs (k : Int) = e := by injection q1
  have hk1 := hst 0 k (by omega) hk
  have hk2 := hge k hk
  rw [show ((0 : Nat) : Int) = 0 from rfl, h0] at hk1
  rcases q4 with q | q | ⟨a, b, ha, hb', a1, b1, q⟩
  · omega
  · omega
  · obtain ⟨i, hi, ei⟩ := hat a ((hmem a).2 ha)
    obtain ⟨j, hj, ej⟩ := hat b ((hmem b).2 hb')
    have lt : ∀ m : Nat, m < xs.length → rd xs (m : Int) < rd xs (k : Int) → m < k := fun m hm hlt => by
      rcases Nat.lt_trichotomy m k with c | c | c
      · exact c
      · subst c; omega
      · have := hst k m c hm; omega
    have li := lt i hi (by omega)
    have lj := lt j hj (by omega)
    by_cases c : i ≤ j
    · exact ⟨i, j, c, lj, by omega⟩
    · exact ⟨j, i, by omega, li, by omega⟩
theorem ch_loop (rows : List (List Int)) (hr : ∀ r ∈ rows, ∃ e : Int, r = [e]) (hl : rows.length ≤ 1000) : ∀ (d i : Nat) (acc : List Int), i + d = rows.length → acc.length + d ≤ 100000 → Ev (fun f => spec_chOfPlan.l0 f acc rows rows.length i) (((rows.drop i).map (fun r => rd r 0)).foldl put acc) := by
  intro d
  induction d with
  | zero =>
    intro i acc hd ha
    refine ev_shift ?_
    rw [List.drop_of_length_le (by omega)]
    simp only [spec_chOfPlan.l0, if_neg (show ¬ (i : Int) < (rows.length : Int) by omega)]
    exact Ev.now _
  | succ d ih =>
    intro i acc hd ha
    have er : rd_L3 rows (i : Int) = rows[i]'(by omega) := by unfold rd_L3; rw [Int.toNat_natCast]; simp [List.getD, show i < rows.length by omega]
    obtain ⟨e, ee⟩ := hr (rows[i]'(by omega)) (List.getElem_mem _)
    rw [ee] at er
    have i1 := ih (i + 1) (put acc e) (by omega) (by have := put_length acc e; omega)
    have r0 : rd [e] 0 = e := rfl
    refine ev_shift ?_
    simp only [spec_chOfPlan.l0, if_pos (show (i : Int) < (rows.length : Int) by omega), if_pos (show (0 : Int) ≤ (i : Int) by omega), er, List.length_singleton, if_pos (show (0 : Int) < ((1 : Nat) : Int) by decide), r0, w64 (show -9223372036854775808 ≤ (i : Int) + 1 by omega) (by omega)]
    refine ev_bind (l1Put_ev acc e (by omega)) ?_
    rw [List.drop_eq_getElem_cons (show i < rows.length by omega), ee, List.map_cons, List.foldl_cons]
    exact i1
def answer (n : Int) (ss : List St) (os : List Int) : List Int × Bool := if planOk n ss os = true ∧ n = 1 then (inc (es ss), true) else ([], false)
theorem ne_false (n : Int) (h : n = 1) : (n != 1) = false := by subst h; rfl
theorem ne_true (n : Int) (h : ¬ n = 1) : (n != 1) = true := by simp [h]
theorem spec_ev (n : Int) (ss : List St) (os : List Int) : Ev (fun k => spec_ChainOfPlan.f k n ss os) (answer n ss os) := by
  unfold spec_ChainOfPlan.f answer
  refine ev_bind (plGood_ev n ss os) ?_
  have fin : Ev (fun k => spec_ChainOfPlan.j0 k true n ss os) (([], false) : List Int × Bool) := by
    refine ev_shift ?_
    simp only [spec_ChainOfPlan.j0, if_true]
    exact Ev.now _
  by_cases c : planOk n ss os = true
  · simp only [c, if_true]
    by_cases c1 : n = 1
    · rw [if_pos ⟨trivial, c1⟩, ne_false n c1]
      obtain ⟨m, em, h1, h2, h3, h4, ho, hos, hb⟩ := planOk_of c
      obtain rfl : m = 1 := by omega
      subst em
      have g := exps_G ss ho
      have hlr : (exps 1 ss).length = 1 + ss.length := (exps_ok 1 ss ho).1
      have hch := inc_chain ss ho h3 hb
      have e : (es ss).foldl put [] = inc (es ss) := by
        obtain ⟨p1, p2⟩ := puts_fact (es ss) [] (by simp)
        obtain ⟨q1, q2⟩ := inc_fact (es ss)
        exact strict_eq _ _ p1 q1 (fun x => by rw [p2]; rw [show (x ∈ inc (es ss)) = (x ∈ Go.Lib.compact ((es ss).mergeSort fun x y => decide (x ≤ y))) from rfl, q2]; simp)
      have hlen : (inc (es ss)).length ≤ 1048576 := by have := (chain_from _ hch).2.1; omega
      refine ev_shift ?_
      simp only [spec_ChainOfPlan.j0, Bool.false_eq_true, if_false, spec_chOfPlan.f, Option.bind_assoc]
      refine ev_bind (plExponents_ev 1 ss os (by omega) h3 ho) ?_
      have hlp := ch_loop (exps 1 ss) (fun r hr => by obtain ⟨e, e1, _⟩ := g.2 r hr; exact ⟨e, e1⟩) (by omega) (exps 1 ss).length 0 [] (by omega) (by simp; omega)
      rw [List.drop_zero, show (exps 1 ss).map (fun r => rd r 0) = es ss from rfl, e] at hlp
      refine ev_bind hlp ?_
      have := chIf_ev (inc (es ss)) hlen
      unfold ifChain at this
      rw [if_pos hch] at this
      exact ev_bind this (Ev.now _)
    · rw [if_neg (fun h => c1 h.2), ne_true n c1]
      exact fin
  · rw [if_neg (fun h => c h.1)]
    simp only [if_neg c]
    exact fin
theorem impl_ev (n : Int) (ss : List St) (os : List Int) : Ev (fun k => impl_ChainOfPlan.f k n ss os) (answer n ss os) := by
  unfold impl_ChainOfPlan.f answer
  refine ev_bind (isPlan_ev n ss os) ?_
  have fin : Ev (fun k => impl_ChainOfPlan.j0 k true n ss os) (([], false) : List Int × Bool) := by
    refine ev_shift ?_
    simp only [impl_ChainOfPlan.j0, if_true]
    exact Ev.now _
  by_cases c : planOk n ss os = true
  · simp only [c, if_true]
    by_cases c1 : n = 1
    · rw [if_pos ⟨trivial, c1⟩, ne_false n c1]
      obtain ⟨m, em, h1, h2, h3, h4, ho, hos, hb⟩ := planOk_of c
      obtain rfl : m = 1 := by omega
      subst em
      have g := exps_G ss ho
      have hlr : (exps 1 ss).length = 1 + ss.length := (exps_ok 1 ss ho).1
      have hf : (exps 1 ss).flatten = es ss := flat_es _ (fun r hr => by obtain ⟨e, e1, _⟩ := g.2 r hr; exact ⟨e, e1⟩)
      have hel : (es ss).length = 1 + ss.length := by unfold es; rw [List.length_map, hlr]
      have hcc : slices_Concat_int_int.f (exps 1 ss) = some (es ss) := by
        unfold slices_Concat_int_int.f
        rw [hf, if_pos ⟨by omega, by omega⟩]
      have hii : impl_increasing.f (es ss) = some (inc (es ss)) := by
        unfold impl_increasing.f inc
        rw [if_pos ⟨by omega, by omega⟩]
      refine ev_shift ?_
      simp only [impl_ChainOfPlan.j0, Bool.false_eq_true, if_false]
      refine ev_bind (exponents_ev 1 ss os (by omega) h3 ho) ?_
      simp only [hcc, hii, Option.bind_some]
      exact Ev.now _
    · rw [if_neg (fun h => c1 h.2), ne_true n c1]
      exact fin
  · rw [if_neg (fun h => c h.1)]
    simp only [if_neg c]
    exact fin
theorem answer_len (n : Int) (ss : List St) (os : List Int) : (answer n ss os).1.length ≤ 1000000 := by
  unfold answer
  by_cases c : planOk n ss os = true ∧ n = 1
  · rw [if_pos c]
    obtain ⟨m, em, h1, h2, h3, h4, ho, hos, hb⟩ := planOk_of c.1
    obtain rfl : m = 1 := by have := c.2; omega
    have := (chain_from _ (inc_chain ss ho h3 hb)).2.1
    show (inc (es ss)).length ≤ 1000000
    omega
  · rw [if_neg c]; exact Nat.zero_le _
theorem FnExactChainOfPlan : laws_FnExactChainOfPlan.Pure := by
  intro n l1 l2 _ _ m1 _ m2
  by_cases hl : l1.length + l2.length ≤ 1048576
  · exact (tail_ n l1 l2 hl _ _ (answer_len n (l1.map cv) l2) (spec_ev n _ l2) (impl_ev n _ l2)).rounds
  · exact over_ n l1 l2 m1 m2 hl
end Go.Proofs.Ytdcdaoancmpbeaa.Pure
