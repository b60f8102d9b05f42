/- For every row of digits and base: FromDigits of the program answers as the reference does, and leaves the row as it was. -/
import Derived.Test.YtkhlhhpkleaphaaMFnExactFromDigitsx2
namespace Go.Proofs.Ytkhlhhpkleaphaa.Pure
open Go.RowKit Go.Proofs.Ytkhlhhpkleaphaa.MFnExactFromDigits Go.Proofs.YtkhlhhpkleaphaaW.PrintWords Go.Proofs.YtkhlhhpkleaphaaW.PrintLast Go.Proofs.YtkhlhhpkleaphaaW.PrintMore
set_option linter.unusedVariables false
set_option linter.unusedSimpArgs false
theorem w64 {x : Int} (h1 : -9223372036854775808 ≤ x) (h2 : x ≤ 9223372036854775807) : wrap64 x = x := by unfold wrap64; omega

theorem rd_nat (xs : List Int) (j : Nat) : rd xs (j : Int) = xs.getD j 0 := by unfold rd; rw [Int.toNat_natCast]

theorem ev_shift {α : Type} {g : Nat → Option α} {r : α} (h : Ev (fun k => g (k + 1)) r) : Ev g r := by
  obtain ⟨K, hK⟩ := h
  refine ⟨K + 1, fun k hk => ?_⟩
  obtain ⟨m, rfl⟩ : ∃ m, k = m + 1 := ⟨k - 1, by omega⟩
  exact hK m (by omega)

theorem ev_bind {α β : Type} {g : Nat → Option α} {F : Nat → α → Option β} {a : α} {r : β} (h : Ev g a) (k : Ev (fun n => F n a) r) : Ev (fun n => (g n).bind (fun x => F n x)) r := Ev.bind h k

theorem ev_some {α : Type} {g : Nat → Option α} {r : α} (h : ∀ k, g k = some r) : Ev g r := ⟨0, fun k _ => h k⟩

theorem eqIntS_same (xs : List Int) (hb : xs.length ≤ 4611686018427387904) : Ev (fun k => laws_eqIntS.f k xs xs) true := by
  have loop : ∀ (d k : Nat) (i : Int), 0 ≤ i → i ≤ xs.length → (xs.length : Int) - i = d → d < k → laws_eqIntS.l0 k xs xs i = some true := by
    intro d
    induction d with
    | zero =>
      intro k i h0 h1 hd hk
      obtain ⟨k, rfl⟩ : ∃ m, k = m + 1 := ⟨k - 1, by omega⟩
      rw [laws_eqIntS.l0, if_neg (by omega)]
    | succ d ih =>
      intro k i h0 h1 hd hk
      obtain ⟨k, rfl⟩ : ∃ m, k = m + 1 := ⟨k - 1, by omega⟩
      rw [laws_eqIntS.l0, if_pos (by omega), if_pos h0, if_pos (by omega), if_pos rfl, w64 (by omega) (by omega)]
      exact ih k (i + 1) (by omega) (by omega) (by omega) (by omega)
  refine ⟨xs.length + 1, fun k hk => ?_⟩
  show laws_eqIntS.f k xs xs = some true
  unfold laws_eqIntS.f
  rw [if_pos rfl]
  exact loop xs.length k 0 (by omega) (by omega) (by omega) (by omega)

theorem toIntS_step (xs : List Int) (i : Nat) (h : i < xs.length) : (xs.take i ++ List.replicate (xs.length - i) 0).set i (xs.getD i 0) = xs.take (i + 1) ++ List.replicate (xs.length - (i + 1)) 0 := by
  have hl : (xs.take i).length = i := by simp; omega
  rw [List.set_append_right _ _ (by omega), hl, Nat.sub_self]
  obtain ⟨m, hm⟩ : ∃ m, xs.length - i = m + 1 := ⟨xs.length - i - 1, by omega⟩
  have hm2 : xs.length - (i + 1) = m := by omega
  have e : xs.getD i 0 = xs[i] := by simp [List.getD, h]
  rw [hm, hm2, List.replicate_succ, List.set_cons_zero, e, List.take_succ_eq_append_getElem h, List.append_assoc]
  rfl

theorem toIntS_ev (xs : List Int) (hb : xs.length ≤ 35184372088832) : Ev (fun k => laws_toIntS.f k xs) xs := by
  have loop : ∀ (d k i : Nat), i ≤ xs.length → xs.length - i = d → d < k → laws_toIntS.l0 k xs (xs.take i ++ List.replicate (xs.length - i) 0) i = some xs := by
    intro d
    induction d with
    | zero =>
      intro k i h1 hd hk
      obtain ⟨k, rfl⟩ : ∃ m, k = m + 1 := ⟨k - 1, by omega⟩
      obtain rfl : i = xs.length := by omega
      rw [laws_toIntS.l0, if_neg (by omega)]
      simp
    | succ d ih =>
      intro k i h1 hd hk
      obtain ⟨k, rfl⟩ : ∃ m, k = m + 1 := ⟨k - 1, by omega⟩
      have hl : (xs.take i ++ List.replicate (xs.length - i) 0).length = xs.length := by simp; omega
      rw [laws_toIntS.l0, if_pos (by omega), if_pos (by omega), hl, if_pos (by omega), Int.toNat_natCast, rd_nat, toIntS_step xs i (by omega), w64 (by omega) (by omega)]
      exact ih k (i + 1) (by omega) (by omega) (by omega)
  refine ⟨xs.length + 1, fun k hk => ?_⟩
  have h := loop xs.length k 0 (by omega) (by omega) (by omega)
  show laws_toIntS.f k xs = some xs
  unfold laws_toIntS.f
  rw [if_pos (by omega), Int.toNat_natCast, if_pos hb]
  simpa using h

theorem l1In_eq (a b c : Int) : spec_l1In.f a b c = some (decide (b ≤ a) && decide (a ≤ c)) := by
  unfold spec_l1In.f
  by_cases h : a ≥ b
  · rw [if_pos h]; simp [show b ≤ a from h]
  · rw [if_neg h]; simp [show ¬ b ≤ a from h]
def allFrom (xs : List Int) (a b : Int) : Nat → Int → Bool
  | 0, _ => true
  | d + 1, i => if a ≤ rd xs i ∧ rd xs i ≤ b then allFrom xs a b d (i + 1) else false
theorem l1All_ev (xs : List Int) (a b : Int) (hl : xs.length ≤ 100000000) : Ev (fun f => spec_l1All.f f xs a b) (allFrom xs a b xs.length 0) := by
  have loop : ∀ (d : Nat) (i : Int), 0 ≤ i → i + d = xs.length → Ev (fun f => spec_l1All.l0 f a b xs xs.length i) (allFrom xs a b d i) := by
    intro d
    induction d with
    | zero =>
      intro i h0 hd
      refine ev_shift ?_
      simp only [spec_l1All.l0, if_neg (show ¬ i < (xs.length : Int) by omega), allFrom]
      exact Ev.now _
    | succ d ih =>
      intro i h0 hd
      have hn := ih (i + 1) (by omega) (by omega)
      refine ev_shift ?_
      simp only [spec_l1All.l0, if_pos (show i < (xs.length : Int) by omega), if_pos h0, w64 (show -9223372036854775808 ≤ i + 1 by omega) (by omega), l1In_eq, Option.bind_some]
      unfold allFrom
      by_cases c : a ≤ rd xs i ∧ rd xs i ≤ b
      · rw [if_pos c]; simp only [decide_eq_true c.1, decide_eq_true c.2, Bool.and_self, if_true]; exact hn
      · rw [if_neg c]
        have e : (decide (a ≤ rd xs i) && decide (rd xs i ≤ b)) = false := by rw [Bool.and_eq_false_iff, decide_eq_false_iff_not, decide_eq_false_iff_not]; omega
        simp only [e, Bool.false_eq_true, if_false]; exact Ev.now _
  exact loop xs.length 0 (by omega) (by omega)

/-! FromDigits -/
open Go.Proofs.YtkhlhhpkleaphaaBI in
theorem down_cons (n : Nat) : down (n + 1) (n + 1) = n :: down n n := by
  unfold down
  rw [List.range_succ_eq_map, List.map_cons, List.map_map]
  have e : (fun j => n + 1 - 1 - j) ∘ Nat.succ = fun j => n - 1 - j := by
    funext j
    show n + 1 - 1 - (j + 1) = n - 1 - j
    omega
  rw [e]
  simp
theorem bad_all (base : Int) (xs : List Int) : ∀ (d i : Nat), Go.Proofs.YtkhlhhpkleaphaaH.anyIx (impl_FromDigits.bad base xs) d i = !(allFrom xs 0 (wrap64 (base - 1)) d i)
  | 0, _ => rfl
  | d + 1, i => by
    have ih := bad_all base xs d (i + 1)
    rw [Go.Proofs.YtkhlhhpkleaphaaH.anyIx, allFrom]
    rw [show ((i : Int) + 1) = ((i + 1 : Nat) : Int) by omega, ih]
    unfold impl_FromDigits.bad
    by_cases c : 0 ≤ rd xs i ∧ rd xs i ≤ wrap64 (base - 1)
    · rw [if_pos c, decide_eq_true c.1, decide_eq_true c.2]; rfl
    · rw [if_neg c]
      have e : (decide (0 ≤ rd xs (i : Int)) && decide (rd xs (i : Int) ≤ wrap64 (base - 1))) = false := by rw [Bool.and_eq_false_iff, decide_eq_false_iff_not, decide_eq_false_iff_not]; omega
      rw [e]; rfl
theorem all_rd : ∀ (xs : List Int) (a b : Int) (d i : Nat), allFrom xs a b d i = true → ∀ j : Nat, i ≤ j → j < i + d → a ≤ rd xs j ∧ rd xs j ≤ b := by
  intro xs a b d
  induction d with
  | zero => intro i _ j h1 h2; omega
  | succ d ih =>
    intro i h j h1 h2
    rw [allFrom] at h
    by_cases c : a ≤ rd xs i ∧ rd xs i ≤ b
    · rw [if_pos c] at h
      by_cases e : j = i
      · subst e; exact c
      · exact ih (i + 1) h j (by omega) (by omega)
    · rw [if_neg c] at h; cases h
def ansOf : Option Int → Int × Bool
  | some n => (n, true)
  | none => (0, false)
open Go.Proofs.YtkhlhhpkleaphaaBI in
theorem specRun_ev (xs : List Int) (a : Int) (hl : xs.length ≤ 1000000) : ∀ (d : Nat) (n : Int), d ≤ xs.length → Ev (fun k => spec_FromDigits.l0 k xs a n ((d : Int) - 1)) (ansOf ((down d d).foldl (impl_FromDigits.step a xs) (some n)))
  | 0, n, _ => by
    refine ev_shift ?_
    simp only [spec_FromDigits.l0, if_neg (show ¬ ((0 : Nat) : Int) - 1 ≥ 0 by omega)]
    exact Ev.now _
  | d + 1, n, h => by
    have ih := specRun_ev xs a hl d
    refine ev_shift ?_
    rw [down_cons, List.foldl_cons]
    simp only [spec_FromDigits.l0, show ((d + 1 : Nat) : Int) - 1 = (d : Int) by omega, if_pos (show (d : Int) ≥ 0 by omega), if_pos (show (0 : Int) ≤ (d : Int) by omega), if_pos (show (d : Int) < (xs.length : Int) by omega), w64 (show -9223372036854775808 ≤ (d : Int) - 1 by omega) (by omega)]
    by_cases c : wrap64 (wrap64 (n * a) + rd xs (d : Int)) > 1000000
    · have e : impl_FromDigits.step a xs (some n) d = none := by unfold impl_FromDigits.step; rw [Option.bind_some, if_pos c]
      simp only [if_pos c]
      rw [e, impl_FromDigits.run_none]
      exact Ev.now _
    · have e : impl_FromDigits.step a xs (some n) d = some (wrap64 (wrap64 (n * a) + rd xs d)) := by unfold impl_FromDigits.step; rw [Option.bind_some, if_neg c]
      simp only [if_neg c]
      rw [e]
      exact ih _ (by omega)
open Go.Proofs.YtkhlhhpkleaphaaBI in
/-- As long as the reading goes on, the number has at least as many bits as digits are read. -/
theorem run_big (xs : List Int) (a : Int) (h1 : 2 ≤ a) (h2 : a ≤ 64) (hn : xs.length ≠ 0) (hd : ∀ j : Nat, j < xs.length → 0 ≤ rd xs j ∧ rd xs j ≤ a - 1) (hz : rd xs ((xs.length : Int) - 1) ≠ 0) : ∀ (k : Nat), k + 1 ≤ xs.length → ∀ n, impl_FromDigits.run a xs (down xs.length (k + 1)) = some n → (2 : Int) ^ k ≤ n ∧ n ≤ 1000000
  | 0, hk, n, h => by
    obtain ⟨a1, a2⟩ := hd (xs.length - 1) (by omega)
    rw [show ((xs.length - 1 : Nat) : Int) = (xs.length : Int) - 1 by omega] at a1 a2
    have e : down xs.length 1 = [xs.length - 1] := rfl
    rw [e] at h
    have h' : impl_FromDigits.step a xs (some 0) (xs.length - 1) = some n := h
    unfold impl_FromDigits.step at h'
    rw [Option.bind_some, show ((xs.length - 1 : Nat) : Int) = (xs.length : Int) - 1 by omega, Int.zero_mul, show wrap64 0 = 0 from w64 (by omega) (by omega), Int.zero_add, w64 (by omega) (by omega)] at h'
    rw [if_neg (by omega)] at h'
    have := Option.some.inj h'
    rw [Int.pow_zero]
    omega
  | k + 1, hk, n, h => by
    rw [down_succ, impl_FromDigits.run_snoc] at h
    cases e : impl_FromDigits.run a xs (down xs.length (k + 1)) with
    | none => rw [e] at h; cases h
    | some m =>
      obtain ⟨i1, i2⟩ := run_big xs a h1 h2 hn hd hz k (by omega) m e
      rw [e] at h
      obtain ⟨d1, d2⟩ := hd (xs.length - 1 - (k + 1)) (by omega)
      unfold impl_FromDigits.step at h
      rw [Option.bind_some] at h
      generalize rd xs ((xs.length - 1 - (k + 1) : Nat) : Int) = v at h d1 d2
      have p0 : (0 : Int) ≤ 2 ^ k := Int.pow_nonneg (by decide)
      have q1 : m * 2 ≤ m * a := Int.mul_le_mul_of_nonneg_left h1 (by omega)
      have q2 : m * a ≤ m * 64 := Int.mul_le_mul_of_nonneg_left h2 (by omega)
      have ps : (2 : Int) ^ (k + 1) = 2 ^ k * 2 := Int.pow_succ 2 k
      generalize m * a = q at h q1 q2
      generalize (2 : Int) ^ k = p at *
      rw [w64 (show -9223372036854775808 ≤ q by omega) (by omega), w64 (show -9223372036854775808 ≤ q + v by omega) (by omega)] at h
      split at h
      · cases h
      · have := Option.some.inj h
        rw [ps]
        omega
open Go.Proofs.YtkhlhhpkleaphaaBI in
theorem run_long (xs : List Int) (a : Int) (h1 : 2 ≤ a) (h2 : a ≤ 64) (hn : 20 < xs.length) (hd : ∀ j : Nat, j < xs.length → 0 ≤ rd xs j ∧ rd xs j ≤ a - 1) (hz : rd xs ((xs.length : Int) - 1) ≠ 0) : impl_FromDigits.run a xs (down xs.length xs.length) = none := by
  cases e : impl_FromDigits.run a xs (down xs.length 21) with
  | some n =>
    obtain ⟨p, q⟩ := run_big xs a h1 h2 (by omega) hd hz 20 (by omega) n e
    have : (2 : Int) ^ 20 = 1048576 := by decide
    omega
  | none =>
    obtain ⟨ys, ey⟩ := impl_FromDigits.down_split xs.length 21 (by omega)
    rw [ey]
    exact impl_FromDigits.run_app a xs _ ys e
/-- What both sides answer. -/
def fdAns (xs : List Int) (a : Int) : Int × Bool := if impl_FromDigits.good xs a = true then ansOf (impl_FromDigits.run a xs (Go.Proofs.YtkhlhhpkleaphaaBI.down xs.length xs.length)) else (0, false)
theorem implFrom_eq (xs : List Int) (a : Int) (hl : xs.length ≤ 1048576) : impl_FromDigits.f xs a = some (fdAns xs a) := by
  unfold impl_FromDigits.f fdAns
  rw [if_pos (by omega)]
  split
  · cases impl_FromDigits.run a xs (Go.Proofs.YtkhlhhpkleaphaaBI.down xs.length xs.length) <;> rfl
  · rfl
theorem specFrom_ev (xs : List Int) (a : Int) (hl : xs.length ≤ 1048576) : Ev (fun k => spec_FromDigits.f k xs a) (fdAns xs a) := by
  have no : fdAns xs a = (0, false) → Ev (fun k => spec_FromDigits.j0 k xs a true) (fdAns xs a) := by
    intro h
    refine ev_shift ?_
    simp only [spec_FromDigits.j0, if_true, h]
    exact Ev.now _
  unfold spec_FromDigits.f
  simp only [l1In_eq, Option.bind_some]
  by_cases c1 : 2 ≤ a ∧ a ≤ 64
  · simp only [decide_eq_true c1.1, decide_eq_true c1.2, Bool.and_self, if_true]
    have w1 : wrap64 (a - 1) = a - 1 := w64 (by omega) (by omega)
    have hall := bad_all a xs xs.length 0
    by_cases c2 : (1 : Int) ≤ (xs.length : Int) ∧ (xs.length : Int) ≤ 20
    · simp only [decide_eq_true c2.1, decide_eq_true c2.2, Bool.and_self, if_true]
      refine ev_bind (l1All_ev xs 0 (wrap64 (a - 1)) (by omega)) ?_
      by_cases c3 : allFrom xs 0 (wrap64 (a - 1)) xs.length 0 = true
      · have w2 : wrap64 ((xs.length : Int) - 1) = (xs.length : Int) - 1 := w64 (by omega) (by omega)
        simp only [if_pos c3, w2, if_pos (show (0 : Int) ≤ (xs.length : Int) - 1 by omega), if_pos (show (xs.length : Int) - 1 < (xs.length : Int) by omega)]
        by_cases c4 : rd xs ((xs.length : Int) - 1) = 0
        · have e : (rd xs ((xs.length : Int) - 1) == 0) = true := by rw [beq_iff_eq]; exact c4
          simp only [e]
          refine no ?_
          unfold fdAns impl_FromDigits.good
          rw [if_neg]
          rw [decide_eq_true c4]
          simp
        · have e : (rd xs ((xs.length : Int) - 1) == 0) = false := by rw [beq_eq_false_iff_ne]; exact c4
          simp only [e]
          refine ev_shift ?_
          simp only [spec_FromDigits.j0, Bool.false_eq_true, if_false, w2]
          have hg : impl_FromDigits.good xs a = true := by
            unfold impl_FromDigits.good
            rw [hall, show (((0 : Nat) : Int)) = 0 from rfl, c3, decide_eq_true c1.1, decide_eq_true c1.2, decide_eq_false (show ¬ xs.length = 0 by omega), decide_eq_false c4]
            rfl
          unfold fdAns
          rw [if_pos hg]
          exact specRun_ev xs a (by omega) xs.length 0 (Nat.le_refl _)
      · simp only [if_neg c3]
        refine no ?_
        unfold fdAns impl_FromDigits.good
        rw [if_neg]
        rw [hall, show (((0 : Nat) : Int)) = 0 from rfl, show allFrom xs 0 (wrap64 (a - 1)) xs.length 0 = false by simpa using c3]
        simp
    · have e : (decide ((1 : Int) ≤ (xs.length : Int)) && decide ((xs.length : Int) ≤ 20)) = false := by rw [Bool.and_eq_false_iff, decide_eq_false_iff_not, decide_eq_false_iff_not]; omega
      simp only [e, Bool.false_eq_true, if_false]
      refine no ?_
      unfold fdAns
      by_cases hg : impl_FromDigits.good xs a = true
      · rw [if_pos hg]
        unfold impl_FromDigits.good at hg
        simp only [Bool.and_eq_true, Bool.not_eq_true', decide_eq_true_eq, decide_eq_false_iff_not] at hg
        obtain ⟨⟨⟨_, g2⟩, g3⟩, g4⟩ := hg
        rw [hall, Bool.not_eq_false'] at g2
        rw [run_long xs a c1.1 c1.2 (by omega) (fun j hj => by have := all_rd xs 0 (wrap64 (a - 1)) xs.length 0 g2 j (by omega) (by omega); rw [w1] at this; exact this) g4]
        rfl
      · rw [if_neg hg]
  · have e : (decide (2 ≤ a) && decide (a ≤ 64)) = false := by rw [Bool.and_eq_false_iff, decide_eq_false_iff_not, decide_eq_false_iff_not]; omega
    simp only [e, Bool.false_eq_true, if_false]
    refine no ?_
    unfold fdAns impl_FromDigits.good
    rw [if_neg]
    rw [e]
    simp
theorem FnExactFromDigits : laws_FnExactFromDigits.Pure := by
  intro xs a _ _ _ _
  by_cases hl : xs.length ≤ 1048576
  · refine Ev.rounds (r := true) ?_
    have ht := toIntS_ev xs (by omega)
    have he := eqIntS_same xs (by omega)
    have e : ∀ b : Bool, (b != b) = false := fun b => by cases b <;> rfl
    unfold laws_FnExactFromDigits.f
    simp only [if_neg (show ¬ (xs.length : Int) > 1048576 by omega)]
    refine ev_bind ht ?_
    refine ev_bind (specFrom_ev xs a hl) ?_
    refine ev_bind ht ?_
    simp only [implFrom_eq xs a hl, Option.bind_some, if_true, e]
    refine ev_shift ?_
    simp only [laws_FnExactFromDigits.j0, Bool.false_eq_true, if_false]
    refine ev_bind ht ?_
    refine ev_bind he ?_
    simp only [if_true]
    exact Ev.now _
  · refine ⟨0, ?_⟩
    unfold laws_FnExactFromDigits.f
    rw [if_pos (by omega)]
end Go.Proofs.Ytkhlhhpkleaphaa.Pure
