/- A number is read back from its digits to each base, and digits that are read are those of the number. -/
import Derived.Test.YtbjmnneaflmgaaaMFnDigitsMakeNumbersx4
namespace Go.Proofs.Ytbjmnneaflmgaaa.Pure
open Go.RowKit Go.Proofs.Ytbjmnneaflmgaaa.MFnDigitsMakeNumbers Go.Proofs.YtbjmnneaflmgaaaW.PrintWords Go.Proofs.YtbjmnneaflmgaaaW.PrintLast Go.Proofs.YtbjmnneaflmgaaaW.PrintMore
set_option linter.unusedVariables false
set_option linter.unusedSimpArgs false
theorem w64 {x : Int} (h1 : -9223372036854775808 ≤ x) (h2 : x ≤ 9223372036854775807) : wrap64 x = x := by unfold wrap64; omega

theorem rd_nat (xs : List Int) (j : Nat) : rd xs (j : Int) = xs.getD j 0 := by unfold rd; rw [Int.toNat_natCast]

theorem ev_shift {α : Type} {g : Nat → Option α} {r : α} (h : Ev (fun k => g (k + 1)) r) : Ev g r := by
  obtain ⟨K, hK⟩ := h
  refine ⟨K + 1, fun k hk => ?_⟩
  obtain ⟨m, rfl⟩ : ∃ m, k = m + 1 := ⟨k - 1, by omega⟩
  exact hK m (by omega)

theorem ev_bind {α β : Type} {g : Nat → Option α} {F : Nat → α → Option β} {a : α} {r : β} (h : Ev g a) (k : Ev (fun n => F n a) r) : Ev (fun n => (g n).bind (fun x => F n x)) r := Ev.bind h k

theorem ev_some {α : Type} {g : Nat → Option α} {r : α} (h : ∀ k, g k = some r) : Ev g r := ⟨0, fun k _ => h k⟩

theorem l1In_eq (a b c : Int) : spec_l1In.f a b c = some (decide (b ≤ a) && decide (a ≤ c)) := by
  unfold spec_l1In.f
  by_cases h : a ≥ b
  · rw [if_pos h]; simp [show b ≤ a from h]
  · rw [if_neg h]; simp [show ¬ b ≤ a from h]
def allFrom (xs : List Int) (a b : Int) : Nat → Int → Bool
  | 0, _ => true
  | d + 1, i => if a ≤ rd xs i ∧ rd xs i ≤ b then allFrom xs a b d (i + 1) else false
theorem l1All_ev (xs : List Int) (a b : Int) (hl : xs.length ≤ 100000000) : Ev (fun f => spec_l1All.f f xs a b) (allFrom xs a b xs.length 0) := by
  have loop : ∀ (d : Nat) (i : Int), 0 ≤ i → i + d = xs.length → Ev (fun f => spec_l1All.l0 f a b xs xs.length i) (allFrom xs a b d i) := by
    intro d
    induction d with
    | zero =>
      intro i h0 hd
      refine ev_shift ?_
      simp only [spec_l1All.l0, if_neg (show ¬ i < (xs.length : Int) by omega), allFrom]
      exact Ev.now _
    | succ d ih =>
      intro i h0 hd
      have hn := ih (i + 1) (by omega) (by omega)
      refine ev_shift ?_
      simp only [spec_l1All.l0, if_pos (show i < (xs.length : Int) by omega), if_pos h0, w64 (show -9223372036854775808 ≤ i + 1 by omega) (by omega), l1In_eq, Option.bind_some]
      unfold allFrom
      by_cases c : a ≤ rd xs i ∧ rd xs i ≤ b
      · rw [if_pos c]; simp only [decide_eq_true c.1, decide_eq_true c.2, Bool.and_self, if_true]; exact hn
      · rw [if_neg c]
        have e : (decide (a ≤ rd xs i) && decide (rd xs i ≤ b)) = false := by rw [Bool.and_eq_false_iff, decide_eq_false_iff_not, decide_eq_false_iff_not]; omega
        simp only [e, Bool.false_eq_true, if_false]; exact Ev.now _
  exact loop xs.length 0 (by omega) (by omega)

/-! FromDigits -/
open Go.Proofs.YtbjmnneaflmgaaaBI in
theorem down_cons (n : Nat) : down (n + 1) (n + 1) = n :: down n n := by
  unfold down
  rw [List.range_succ_eq_map, List.map_cons, List.map_map]
  have e : (fun j => n + 1 - 1 - j) ∘ Nat.succ = fun j => n - 1 - j := by
    funext j
    show n + 1 - 1 - (j + 1) = n - 1 - j
    omega
  rw [e]
  simp
theorem bad_all (base : Int) (xs : List Int) : ∀ (d i : Nat), Go.Proofs.YtbjmnneaflmgaaaH.anyIx (impl_FromDigits.bad base xs) d i = !(allFrom xs 0 (wrap64 (base - 1)) d i)
  | 0, _ => rfl
  | d + 1, i => by
    have ih := bad_all base xs d (i + 1)
    rw [Go.Proofs.YtbjmnneaflmgaaaH.anyIx, allFrom]
    rw [show ((i : Int) + 1) = ((i + 1 : Nat) : Int) by omega, ih]
    unfold impl_FromDigits.bad
    by_cases c : 0 ≤ rd xs i ∧ rd xs i ≤ wrap64 (base - 1)
    · rw [if_pos c, decide_eq_true c.1, decide_eq_true c.2]; rfl
    · rw [if_neg c]
      have e : (decide (0 ≤ rd xs (i : Int)) && decide (rd xs (i : Int) ≤ wrap64 (base - 1))) = false := by rw [Bool.and_eq_false_iff, decide_eq_false_iff_not, decide_eq_false_iff_not]; omega
      rw [e]; rfl
theorem all_rd : ∀ (xs : List Int) (a b : Int) (d i : Nat), allFrom xs a b d i = true → ∀ j : Nat, i ≤ j → j < i + d → a ≤ rd xs j ∧ rd xs j ≤ b := by
  intro xs a b d
  induction d with
  | zero => intro i _ j h1 h2; omega
  | succ d ih =>
    intro i h j h1 h2
    rw [allFrom] at h
    by_cases c : a ≤ rd xs i ∧ rd xs i ≤ b
    · rw [if_pos c] at h
      by_cases e : j = i
      · subst e; exact c
      · exact ih (i + 1) h j (by omega) (by omega)
    · rw [if_neg c] at h; cases h
def ansOf : Option Int → Int × Bool
  | some n => (n, true)
  | none => (0, false)
open Go.Proofs.YtbjmnneaflmgaaaBI in
theorem specRun_ev (xs : List Int) (a : Int) (hl : xs.length ≤ 1000000) : ∀ (d : Nat) (n : Int), d ≤ xs.length → Ev (fun k => spec_FromDigits.l0 k xs a n ((d : Int) - 1)) (ansOf ((down d d).foldl (impl_FromDigits.step a xs) (some n)))
  | 0, n, _ => by
    refine ev_shift ?_
    simp only [spec_FromDigits.l0, if_neg (show ¬ ((0 : Nat) : Int) - 1 ≥ 0 by omega)]
    exact Ev.now _
  | d + 1, n, h => by
    have ih := specRun_ev xs a hl d
    refine ev_shift ?_
    rw [down_cons, List.foldl_cons]
    simp only [spec_FromDigits.l0, show ((d + 1 : Nat) : Int) - 1 = (d : Int) by omega, if_pos (show (d : Int) ≥ 0 by omega), if_pos (show (0 : Int) ≤ (d : Int) by omega), if_pos (show (d : Int) < (xs.length : Int) by omega), w64 (show -9223372036854775808 ≤ (d : Int) - 1 by omega) (by omega)]
    by_cases c : wrap64 (wrap64 (n * a) + rd xs (d : Int)) > 1000000
    · have e : impl_FromDigits.step a xs (some n) d = none := by unfold impl_FromDigits.step; rw [Option.bind_some, if_pos c]
      simp only [if_pos c]
      rw [e, impl_FromDigits.run_none]
      exact Ev.now _
    · have e : impl_FromDigits.step a xs (some n) d = some (wrap64 (wrap64 (n * a) + rd xs d)) := by unfold impl_FromDigits.step; rw [Option.bind_some, if_neg c]
      simp only [if_neg c]
      rw [e]
      exact ih _ (by omega)
open Go.Proofs.YtbjmnneaflmgaaaBI in
/-- As long as the reading goes on, the number has at least as many bits as digits are read. -/
theorem run_big (xs : List Int) (a : Int) (h1 : 2 ≤ a) (h2 : a ≤ 64) (hn : xs.length ≠ 0) (hd : ∀ j : Nat, j < xs.length → 0 ≤ rd xs j ∧ rd xs j ≤ a - 1) (hz : rd xs ((xs.length : Int) - 1) ≠ 0) : ∀ (k : Nat), k + 1 ≤ xs.length → ∀ n, impl_FromDigits.run a xs (down xs.length (k + 1)) = some n → (2 : Int) ^ k ≤ n ∧ n ≤ 1000000
  | 0, hk, n, h => by
    obtain ⟨a1, a2⟩ := hd (xs.length - 1) (by omega)
    rw [show ((xs.length - 1 : Nat) : Int) = (xs.length : Int) - 1 by omega] at a1 a2
    have e : down xs.length 1 = [xs.length - 1] := rfl
    rw [e] at h
    have h' : impl_FromDigits.step a xs (some 0) (xs.length - 1) = some n := h
    unfold impl_FromDigits.step at h'
    rw [Option.bind_some, show ((xs.length - 1 : Nat) : Int) = (xs.length : Int) - 1 by omega, Int.zero_mul, show wrap64 0 = 0 from w64 (by omega) (by omega), Int.zero_add, w64 (by omega) (by omega)] at h'
    rw [if_neg (by omega)] at h'
    have := Option.some.inj h'
    rw [Int.pow_zero]
    omega
  | k + 1, hk, n, h => by
    rw [down_succ, impl_FromDigits.run_snoc] at h
    cases e : impl_FromDigits.run a xs (down xs.length (k + 1)) with
    | none => rw [e] at h; cases h
    | some m =>
      obtain ⟨i1, i2⟩ := run_big xs a h1 h2 hn hd hz k (by omega) m e
      rw [e] at h
      obtain ⟨d1, d2⟩ := hd (xs.length - 1 - (k + 1)) (by omega)
      unfold impl_FromDigits.step at h
      rw [Option.bind_some] at h
      generalize rd xs ((xs.length - 1 - (k + 1) : Nat) : Int) = v at h d1 d2
      have p0 : (0 : Int) ≤ 2 ^ k := Int.pow_nonneg (by decide)
      have q1 : m * 2 ≤ m * a := Int.mul_le_mul_of_nonneg_left h1 (by omega)
      have q2 : m * a ≤ m * 64 := Int.mul_le_mul_of_nonneg_left h2 (by omega)
      have ps : (2 : Int) ^ (k + 1) = 2 ^ k * 2 := Int.pow_succ 2 k
      generalize m * a = q at h q1 q2
      generalize (2 : Int) ^ k = p at *
      rw [w64 (show -9223372036854775808 ≤ q by omega) (by omega), w64 (show -9223372036854775808 ≤ q + v by omega) (by omega)] at h
      split at h
      · cases h
      · have := Option.some.inj h
        rw [ps]
        omega
open Go.Proofs.YtbjmnneaflmgaaaBI in
theorem run_long (xs : List Int) (a : Int) (h1 : 2 ≤ a) (h2 : a ≤ 64) (hn : 20 < xs.length) (hd : ∀ j : Nat, j < xs.length → 0 ≤ rd xs j ∧ rd xs j ≤ a - 1) (hz : rd xs ((xs.length : Int) - 1) ≠ 0) : impl_FromDigits.run a xs (down xs.length xs.length) = none := by
  cases e : impl_FromDigits.run a xs (down xs.length 21) with
  | some n =>
    obtain ⟨p, q⟩ := run_big xs a h1 h2 (by omega) hd hz 20 (by omega) n e
    have : (2 : Int) ^ 20 = 1048576 := by decide
    omega
  | none =>
    obtain ⟨ys, ey⟩ := impl_FromDigits.down_split xs.length 21 (by omega)
    rw [ey]
    exact impl_FromDigits.run_app a xs _ ys e
/-- What both sides answer. -/
def fdAns (xs : List Int) (a : Int) : Int × Bool := if impl_FromDigits.good xs a = true then ansOf (impl_FromDigits.run a xs (Go.Proofs.YtbjmnneaflmgaaaBI.down xs.length xs.length)) else (0, false)
theorem implFrom_eq (xs : List Int) (a : Int) (hl : xs.length ≤ 1048576) : impl_FromDigits.f xs a = some (fdAns xs a) := by
  unfold impl_FromDigits.f fdAns
  rw [if_pos (by omega)]
  split
  · cases impl_FromDigits.run a xs (Go.Proofs.YtbjmnneaflmgaaaBI.down xs.length xs.length) <;> rfl
  · rfl
theorem specFrom_ev (xs : List Int) (a : Int) (hl : xs.length ≤ 1048576) : Ev (fun k => spec_FromDigits.f k xs a) (fdAns xs a) := by
  have no : fdAns xs a = (0, false) → Ev (fun k => spec_FromDigits.j0 k xs a true) (fdAns xs a) := by
    intro h
    refine ev_shift ?_
    simp only [spec_FromDigits.j0, if_true, h]
    exact Ev.now _
  unfold spec_FromDigits.f
  simp only [l1In_eq, Option.bind_some]
  by_cases c1 : 2 ≤ a ∧ a ≤ 64
  · simp only [decide_eq_true c1.1, decide_eq_true c1.2, Bool.and_self, if_true]
    have w1 : wrap64 (a - 1) = a - 1 := w64 (by omega) (by omega)
    have hall := bad_all a xs xs.length 0
    by_cases c2 : (1 : Int) ≤ (xs.length : Int) ∧ (xs.length : Int) ≤ 20
    · simp only [decide_eq_true c2.1, decide_eq_true c2.2, Bool.and_self, if_true]
      refine ev_bind (l1All_ev xs 0 (wrap64 (a - 1)) (by omega)) ?_
      by_cases c3 : allFrom xs 0 (wrap64 (a - 1)) xs.length 0 = true
      · have w2 : wrap64 ((xs.length : Int) - 1) = (xs.length : Int) - 1 := w64 (by omega) (by omega)
        simp only [if_pos c3, w2, if_pos (show (0 : Int) ≤ (xs.length : Int) - 1 by omega), if_pos (show (xs.length : Int) - 1 < (xs.length : Int) by omega)]
        by_cases c4 : rd xs ((xs.length : Int) - 1) = 0
        · have e : (rd xs ((xs.length : Int) - 1) == 0) = true := by rw [beq_iff_eq]; exact c4
          simp only [e]
          refine no ?_
          unfold fdAns impl_FromDigits.good
          rw [if_neg]
          rw [decide_eq_true c4]
          simp
        · have e : (rd xs ((xs.length : Int) - 1) == 0) = false := by rw [beq_eq_false_iff_ne]; exact c4
          simp only [e]
          refine ev_shift ?_
          simp only [spec_FromDigits.j0, Bool.false_eq_true, if_false, w2]
          have hg : impl_FromDigits.good xs a = true := by
            unfold impl_FromDigits.good
            rw [hall, show (((0 : Nat) : Int)) = 0 from rfl, c3, decide_eq_true c1.1, decide_eq_true c1.2, decide_eq_false (show ¬ xs.length = 0 by omega), decide_eq_false c4]
            rfl
          unfold fdAns
          rw [if_pos hg]
          exact specRun_ev xs a (by omega) xs.length 0 (Nat.le_refl _)
      · simp only [if_neg c3]
        refine no ?_
        unfold fdAns impl_FromDigits.good
        rw [if_neg]
        rw [hall, show (((0 : Nat) : Int)) = 0 from rfl, show allFrom xs 0 (wrap64 (a - 1)) xs.length 0 = false by simpa using c3]
        simp
    · have e : (decide ((1 : Int) ≤ (xs.length : Int)) && decide ((xs.length : Int) ≤ 20)) = false := by rw [Bool.and_eq_false_iff, decide_eq_false_iff_not, decide_eq_false_iff_not]; omega
      simp only [e, Bool.false_eq_true, if_false]
      refine no ?_
      unfold fdAns
      by_cases hg : impl_FromDigits.good xs a = true
      · rw [if_pos hg]
        unfold impl_FromDigits.good at hg
        simp only [Bool.and_eq_true, Bool.not_eq_true', decide_eq_true_eq, decide_eq_false_iff_not] at hg
        obtain ⟨⟨⟨_, g2⟩, g3⟩, g4⟩ := hg
        rw [hall, Bool.not_eq_false'] at g2
        rw [run_long xs a c1.1 c1.2 (by omega) (fun j hj => by have := all_rd xs 0 (wrap64 (a - 1)) xs.length 0 g2 j (by omega) (by omega); rw [w1] at this; exact this) g4]
        rfl
      · rw [if_neg hg]
  · have e : (decide (2 ≤ a) && decide (a ≤ 64)) = false := by rw [Bool.and_eq_false_iff, decide_eq_false_iff_not, decide_eq_false_iff_not]; omega
    simp only [e, Bool.false_eq_true, if_false]
    refine no ?_
    unfold fdAns impl_FromDigits.good
    rw [if_neg]
    rw [e]
    simp
/-! digits -/
def val (b : Int) : List Int → Int
  | [] => 0
  | d :: ds => d + b * val b ds
def Valid (b : Int) (xs : List Int) : Prop := (∀ d ∈ xs, 0 ≤ d ∧ d < b) ∧ xs.getLast? ≠ some 0
theorem Valid.tail {b d : Int} {ds : List Int} (h : Valid b (d :: ds)) : Valid b ds := by
  refine ⟨fun x hx => h.1 x (List.mem_cons_of_mem _ hx), fun e => ?_⟩
  cases ds with
  | nil => cases e
  | cons x t => exact h.2 (by rw [List.getLast?_cons_cons]; exact e)
theorem val_pos (b : Int) (hb : 2 ≤ b) : ∀ xs : List Int, Valid b xs → 0 ≤ val b xs ∧ (xs ≠ [] → 0 < val b xs)
  | [], _ => ⟨Int.le_refl _, fun h => absurd rfl h⟩
  | d :: ds, h => by
    obtain ⟨i0, i1⟩ := val_pos b hb ds h.tail
    obtain ⟨d0, d1⟩ := h.1 d (List.mem_cons_self ..)
    have m := Int.mul_nonneg (show 0 ≤ b by omega) i0
    refine ⟨by show 0 ≤ d + b * val b ds; omega, fun _ => ?_⟩
    show 0 < d + b * val b ds
    by_cases c : ds = []
    · subst c
      have : d ≠ 0 := fun e => h.2 (by rw [e]; rfl)
      omega
    · have := Int.mul_pos (show 0 < b by omega) (i1 c)
      omega
theorem exists_digits (b : Int) (hb : 2 ≤ b) : ∀ n : Nat, ∃ xs, Valid b xs ∧ val b xs = n ∧ xs.length ≤ n := by
  intro n
  induction n using Nat.strongRecOn with
  | _ n ih =>
    by_cases h : n = 0
    · subst h; exact ⟨[], ⟨fun _ hx => (by cases hx), fun e => (by cases e)⟩, rfl, Nat.le_refl _⟩
    · obtain ⟨c, rfl⟩ := Int.eq_ofNat_of_zero_le (show 0 ≤ b by omega)
      have hc : 2 ≤ c := by omega
      have hlt : n / c < n := Nat.div_lt_self (by omega) (by omega)
      obtain ⟨xs, hv, hx, hl⟩ := ih (n / c) hlt
      have hm := Nat.mod_lt n (show 0 < c by omega)
      refine ⟨((n % c : Nat) : Int) :: xs, ⟨fun d hd => ?_, fun e => ?_⟩, ?_, by rw [List.length_cons]; omega⟩
      · rcases List.mem_cons.1 hd with rfl | hd
        · exact ⟨by omega, by omega⟩
        · exact hv.1 d hd
      · cases xs with
        | nil =>
          have hz : ((n / c : Nat) : Int) = 0 := hx.symm
          have e' : ((n % c : Nat) : Int) = 0 := by simpa using e
          have := Nat.div_add_mod n c
          have h1 : n / c = 0 := by omega
          have h2 : n % c = 0 := by omega
          rw [h1, h2] at this
          omega
        | cons x t => rw [List.getLast?_cons_cons] at e; exact hv.2 e
      · show ((n % c : Nat) : Int) + (c : Int) * val (c : Int) xs = n
        rw [hx]
        have := Nat.div_add_mod n c
        have q : ((c * (n / c) + n % c : Nat) : Int) = (n : Int) := by rw [this]
        rw [Int.natCast_add, Int.natCast_mul] at q
        omega
theorem digit_div (b d v : Int) (hb : 2 ≤ b) (d0 : 0 ≤ d) (d1 : d < b) (v0 : 0 ≤ v) : Int.tmod (d + b * v) b = d ∧ Int.tdiv (d + b * v) b = v := by
  have hp : 0 ≤ d + b * v := by have := Int.mul_nonneg (show 0 ≤ b by omega) v0; omega
  rw [Int.tmod_eq_emod_of_nonneg hp, Int.tdiv_eq_ediv_of_nonneg hp, Int.add_mul_emod_self_left, Int.add_mul_ediv_left _ _ (show b ≠ 0 by omega), Int.emod_eq_of_lt d0 d1, Int.ediv_eq_zero_of_lt d0 d1]
  exact ⟨rfl, by omega⟩
theorem digits_ev (b : Int) (hb : 2 ≤ b) : ∀ (xs acc : List Int), Valid b xs → val b xs ≤ 1000000 → acc.length + xs.length ≤ 100000000 → Ev (fun k => impl_digits.l0 k (val b xs) b acc) (acc ++ xs) ∧ Ev (fun k => spec_meDigits.l0 k (val b xs) b acc) (acc ++ xs)
  | [], acc, _, _, _ => by
    rw [List.append_nil]
    constructor
    · refine ev_shift ?_
      simp only [impl_digits.l0, val, if_neg (show ¬ (0 : Int) > 0 by omega)]
      exact Ev.now _
    · refine ev_shift ?_
      simp only [spec_meDigits.l0, val, if_neg (show ¬ (0 : Int) > 0 by omega)]
      exact Ev.now _
  | d :: ds, acc, h, hv, hl => by
    obtain ⟨d0, d1⟩ := h.1 d (List.mem_cons_self ..)
    obtain ⟨i0, _⟩ := val_pos b hb ds h.tail
    have p := (val_pos b hb _ h).2 (by simp)
    obtain ⟨e1, e2⟩ := digit_div b d (val b ds) hb d0 d1 i0
    have hle : val b ds ≤ val b (d :: ds) := by
      show val b ds ≤ d + b * val b ds
      have := Int.mul_le_mul_of_nonneg_right hb i0
      omega
    rw [List.length_cons] at hl
    obtain ⟨q1, q2⟩ := digits_ev b hb ds (acc ++ [d]) h.tail (by omega) (by rw [List.length_append, List.length_singleton]; omega)
    rw [List.append_assoc, List.singleton_append] at q1 q2
    have p' : d + b * val b ds > 0 := p
    constructor
    · refine ev_shift ?_
      simp only [impl_digits.l0, val, if_pos p', if_neg (show ¬ b = 0 by omega), if_pos (show acc.length < 17592186044416 by omega), e1, e2, w64 (show -9223372036854775808 ≤ val b ds by omega) (by omega)]
      exact q1
    · refine ev_shift ?_
      simp only [spec_meDigits.l0, val, if_pos p', if_neg (show ¬ b = 0 by omega), if_pos (show acc.length < 17592186044416 by omega), e1, e2, w64 (show -9223372036854775808 ≤ val b ds by omega) (by omega)]
      exact q2
theorem implIn_eq (a b c : Int) : impl_in.f a b c = some (decide (b ≤ a) && decide (a ≤ c)) := by
  unfold impl_in.f
  by_cases h : a ≥ b
  · rw [if_pos h]; simp [show b ≤ a from h]
  · rw [if_neg h]; simp [show ¬ b ≤ a from h]
/-- DigitsOf, both sides: a row of digits, or nothing. -/
theorem digitsOf_ev (n b : Int) : (∃ xs, (1 ≤ n ∧ n ≤ 1000000) ∧ (2 ≤ b ∧ b ≤ 64) ∧ Valid b xs ∧ val b xs = n ∧ xs.length ≤ 1000000 ∧ Ev (fun k => impl_DigitsOf.f k n b) (xs, true) ∧ Ev (fun k => spec_DigitsOf.f k n b) (xs, true)) ∨ (¬ ((1 ≤ n ∧ n ≤ 1000000) ∧ (2 ≤ b ∧ b ≤ 64)) ∧ Ev (fun k => impl_DigitsOf.f k n b) ([], false) ∧ Ev (fun k => spec_DigitsOf.f k n b) ([], false)) := by
  unfold impl_DigitsOf.f spec_DigitsOf.f impl_isNumber.f impl_baseOk.f spec_chNumber.f
  simp only [implIn_eq, l1In_eq, Option.bind_some]
  by_cases c1 : 1 ≤ n ∧ n ≤ 1000000
  · simp only [decide_eq_true c1.1, decide_eq_true c1.2, Bool.and_self, if_true]
    by_cases c2 : 2 ≤ b ∧ b ≤ 64
    · simp only [decide_eq_true c2.1, decide_eq_true c2.2, Bool.and_self, if_true]
      obtain ⟨m, rfl⟩ := Int.eq_ofNat_of_zero_le (show 0 ≤ n by omega)
      obtain ⟨xs, hv, hx, hl⟩ := exists_digits b c2.1 m
      obtain ⟨q1, q2⟩ := digits_ev b c2.1 xs [] hv (by omega) (by simp; omega)
      rw [List.nil_append, hx] at q1 q2
      refine .inl ⟨xs, c1, c2, hv, hx, by omega, ?_, ?_⟩
      · exact ev_bind (show Ev (fun k => impl_digits.f k m b) xs from q1) (Ev.now _)
      · exact ev_bind (show Ev (fun k => spec_meDigits.f k m b) xs from q2) (Ev.now _)
    · have e : (decide (2 ≤ b) && decide (b ≤ 64)) = false := by rw [Bool.and_eq_false_iff, decide_eq_false_iff_not, decide_eq_false_iff_not]; omega
      simp only [e, Bool.false_eq_true, if_false]
      exact .inr ⟨fun h => c2 h.2, Ev.now _, Ev.now _⟩
  · have e : (decide (1 ≤ n) && decide (n ≤ 1000000)) = false := by rw [Bool.and_eq_false_iff, decide_eq_false_iff_not, decide_eq_false_iff_not]; omega
    simp only [e, Bool.false_eq_true, if_false]
    exact .inr ⟨fun h => c1 h.1, Ev.now _, Ev.now _⟩
theorem digitsOf_of (b : Int) (xs : List Int) (h : Valid b xs) (hx : xs ≠ []) (h1 : 2 ≤ b) (h2 : b ≤ 64) (hv : val b xs ≤ 1000000) (hl : xs.length ≤ 1000000) : Ev (fun k => impl_DigitsOf.f k (val b xs) b) (xs, true) := by
  have p := (val_pos b h1 xs h).2 hx
  unfold impl_DigitsOf.f impl_isNumber.f impl_baseOk.f
  simp only [implIn_eq, Option.bind_some, decide_eq_true (show (1 : Int) ≤ val b xs by omega), decide_eq_true hv, decide_eq_true h1, decide_eq_true h2, Bool.and_self, if_true]
  exact ev_bind (show Ev (fun k => impl_digits.f k (val b xs) b) xs from (digits_ev b h1 xs [] h hv (by simp; omega)).1) (Ev.now _)
/-! .. read back -/
open Go.Proofs.YtbjmnneaflmgaaaBI in
theorem run_val (xs : List Int) (b : Int) (h1 : 2 ≤ b) (h2 : b ≤ 64) (hd : ∀ d ∈ xs, 0 ≤ d ∧ d < b) : ∀ k : Nat, k ≤ xs.length → impl_FromDigits.run b xs (down xs.length k) = (if val b (xs.drop (xs.length - k)) ≤ 1000000 then some (val b (xs.drop (xs.length - k))) else none) ∧ 0 ≤ val b (xs.drop (xs.length - k))
  | 0, _ => by
    rw [Nat.sub_zero, List.drop_length]
    exact ⟨rfl, Int.le_refl _⟩
  | k + 1, hk => by
    obtain ⟨ih, i0⟩ := run_val xs b h1 h2 hd k (by omega)
    have hi : xs.length - (k + 1) < xs.length := by omega
    obtain ⟨d0, d1⟩ := hd _ (List.getElem_mem hi)
    have e : xs.drop (xs.length - (k + 1)) = xs[xs.length - (k + 1)] :: xs.drop (xs.length - k) := by
      rw [List.drop_eq_getElem_cons hi, show xs.length - (k + 1) + 1 = xs.length - k by omega]
    have hr : rd xs ((xs.length - (k + 1) : Nat) : Int) = xs[xs.length - (k + 1)] := by rw [rd_nat]; simp [List.getD, hi]
    rw [e, down_succ, impl_FromDigits.run_snoc, ih]
    show _ = (if xs[xs.length - (k + 1)] + b * val b (xs.drop (xs.length - k)) ≤ 1000000 then some (xs[xs.length - (k + 1)] + b * val b (xs.drop (xs.length - k))) else none) ∧ 0 ≤ xs[xs.length - (k + 1)] + b * val b (xs.drop (xs.length - k))
    rw [show xs.length - 1 - k = xs.length - (k + 1) by omega]
    generalize xs[xs.length - (k + 1)] = d at d0 d1 hr ⊢
    generalize val b (xs.drop (xs.length - k)) = v at i0 ⊢
    have m0 := Int.mul_nonneg (show 0 ≤ b by omega) i0
    have m1 := Int.mul_le_mul_of_nonneg_right h1 i0
    have m2 := Int.mul_le_mul_of_nonneg_right h2 i0
    refine ⟨?_, by omega⟩
    by_cases c : v ≤ 1000000
    · rw [if_pos c]
      unfold impl_FromDigits.step
      rw [Option.bind_some, hr, Int.mul_comm v b, w64 (show -9223372036854775808 ≤ b * v by omega) (by omega), Int.add_comm (b * v) d, w64 (by omega) (by omega)]
      by_cases c2 : d + b * v ≤ 1000000
      · rw [if_neg (by omega), if_pos c2]
      · rw [if_pos (by omega), if_neg c2]
    · rw [if_neg c, if_neg (by omega)]
      rfl
theorem good_of (xs : List Int) (b : Int) : impl_FromDigits.good xs b = true ↔ (2 ≤ b ∧ b ≤ 64) ∧ Valid b xs ∧ xs ≠ [] := by
  unfold impl_FromDigits.good
  simp only [Bool.and_eq_true, Bool.not_eq_true', decide_eq_true_eq, decide_eq_false_iff_not, bad_all, Bool.not_eq_false']
  have last : ∀ hn : xs ≠ [], rd xs ((xs.length : Int) - 1) = xs.getLast hn := fun hn => by
    have := List.length_pos_iff.2 hn
    rw [show ((xs.length : Int) - 1) = ((xs.length - 1 : Nat) : Int) by omega, rd_nat, List.getLast_eq_getElem]
    simp [List.getD, show xs.length - 1 < xs.length by omega]
  constructor
  · rintro ⟨⟨⟨⟨h1, h2⟩, h3⟩, h4⟩, h5⟩
    have hn : xs ≠ [] := fun e => h4 (by rw [e]; rfl)
    have w1 : wrap64 (b - 1) = b - 1 := w64 (by omega) (by omega)
    refine ⟨⟨h1, h2⟩, ⟨fun d hd => ?_, ?_⟩, hn⟩
    · obtain ⟨j, hj, rfl⟩ := List.mem_iff_getElem.1 hd
      have := all_rd xs 0 (wrap64 (b - 1)) xs.length 0 h3 j (by omega) (by omega)
      rw [w1, rd_nat, show xs.getD j 0 = xs[j] by simp [List.getD, hj]] at this
      omega
    · rw [List.getLast?_eq_some_getLast hn]
      intro e
      exact h5 (by rw [last hn]; exact Option.some.inj e)
  · rintro ⟨⟨h1, h2⟩, hv, hn⟩
    have w1 : wrap64 (b - 1) = b - 1 := w64 (by omega) (by omega)
    refine ⟨⟨⟨⟨h1, h2⟩, ?_⟩, ?_⟩, ?_⟩
    · have all_ok : ∀ (ys : List Int) (a c : Int) (d i : Nat), (∀ j : Nat, i ≤ j → j < i + d → a ≤ rd ys j ∧ rd ys j ≤ c) → allFrom ys a c d i = true := by
        intro ys a c d
        induction d with
        | zero => intro i _; rfl
        | succ d ih =>
          intro i hh
          rw [allFrom, if_pos (hh i (by omega) (by omega))]
          exact ih (i + 1) (fun j a1 a2 => hh j (by omega) (by omega))
      refine all_ok xs _ _ xs.length 0 (fun j _ hj => ?_)
      have hj' : j < xs.length := by omega
      have := hv.1 _ (List.getElem_mem hj')
      rw [w1, rd_nat, show xs.getD j 0 = xs[j] by simp [List.getD, hj']]
      omega
    · exact fun e => hn (List.length_eq_zero_iff.1 e)
    · rw [last hn]
      intro e
      exact hv.2 (by rw [List.getLast?_eq_some_getLast hn, e])
theorem fdAns_of (xs : List Int) (b : Int) : fdAns xs b = if impl_FromDigits.good xs b = true ∧ val b xs ≤ 1000000 then (val b xs, true) else (0, false) := by
  unfold fdAns
  by_cases h : impl_FromDigits.good xs b = true
  · obtain ⟨⟨h1, h2⟩, hv, hn⟩ := (good_of xs b).1 h
    have := (run_val xs b h1 h2 hv.1 xs.length (Nat.le_refl _)).1
    rw [Nat.sub_self, List.drop_zero] at this
    rw [if_pos h, this]
    by_cases c : val b xs ≤ 1000000
    · rw [if_pos c, if_pos ⟨h, c⟩]; rfl
    · rw [if_neg c, if_neg (fun q => c q.2)]; rfl
  · rw [if_neg h, if_neg (fun q => h q.1)]
/-! what is drawn from bytes -/
theorem u8_of {x : Int} (h : (Lit.int .u8 x).wf = true) : 0 ≤ x ∧ x ≤ 255 := by
  simpa [Lit.wf, IntKind.min, IntKind.max, IntKind.signed, IntKind.bits] using h
theorem rd_u8 {code : List Int} (hc : ∀ x ∈ code, 0 ≤ x ∧ x ≤ 255) (i : Int) : 0 ≤ rd code i ∧ rd code i ≤ 255 := by
  unfold rd
  by_cases h : i.toNat < code.length
  · have := hc _ (List.getElem_mem h)
    simpa [List.getD, h] using this
  · simp [List.getD, h]
theorem u64_low (x : Int) : 0 ≤ wrap64 (Go.bits .and .u64 (IntKind.u64.wrap x / 1099511627776) 255) ∧ wrap64 (Go.bits .and .u64 (IntKind.u64.wrap x / 1099511627776) 255) ≤ 255 := by
  have h : 0 ≤ IntKind.u64.wrap x / 1099511627776 ∧ IntKind.u64.wrap x / 1099511627776 < 2 ^ 32 := by rw [IntKind.wrap_u64]; omega
  generalize IntKind.u64.wrap x / 1099511627776 = y at h ⊢
  have e : Go.bits .and .u64 y (2 ^ 8 - 1) = y % 2 ^ 8 := bits_mask .u64 32 (by decide) (fun n a b => by rw [IntKind.wrap_u64]; omega) 8 (by decide) y h.1 h.2
  rw [show (255 : Int) = 2 ^ 8 - 1 by decide, e, w64 (by omega) (by omega)]
  omega
theorem next_ok {code : List Int} (hc : ∀ x ∈ code, 0 ≤ x ∧ x ≤ 255) (at_ seed : Int) (h0 : 0 ≤ at_) (h1 : at_ ≤ 1000000000) : ∃ v s, spec_l1Cur_next.f code at_ seed = some (v, at_ + 1, s) ∧ 0 ≤ v ∧ v ≤ 255 := by
  unfold spec_l1Cur_next.f
  have w1 : wrap64 (at_ + 1) = at_ + 1 := w64 (by omega) (by omega)
  obtain ⟨r0, r1⟩ := rd_u8 hc at_
  rw [w1]
  by_cases c : at_ < (code.length : Int)
  · rw [if_pos c, if_pos h0]
    by_cases d : at_ + 1 ≤ (code.length : Int)
    · rw [if_pos d, w64 (by omega) (by omega)]
      exact ⟨_, _, rfl, r0, r1⟩
    · rw [if_neg d]
      exact ⟨_, _, rfl, u64_low _⟩
  · rw [if_neg c]
    by_cases d : at_ + 1 ≤ (code.length : Int)
    · rw [if_pos d]
      exact ⟨_, _, rfl, by omega, by omega⟩
    · rw [if_neg d]
      exact ⟨_, _, rfl, u64_low _⟩
theorem pick_ok {code : List Int} (hc : ∀ x ∈ code, 0 ≤ x ∧ x ≤ 255) (at_ seed n : Int) (h0 : 0 ≤ at_) (h1 : at_ ≤ 999999000) : ∃ v a s, spec_l1Cur_pick.f code at_ seed n = some (v, a, s) ∧ 0 ≤ v ∧ (v < n ∨ v = 0) ∧ at_ ≤ a ∧ a ≤ at_ + 2 := by
  unfold spec_l1Cur_pick.f
  by_cases c : n ≤ 1
  · rw [if_pos c]
    exact ⟨_, _, _, rfl, by omega, .inr rfl, by omega, by omega⟩
  · rw [if_neg c]
    obtain ⟨v, s, e, v0, v1⟩ := next_ok hc at_ seed h0 (by omega)
    rw [e, Option.bind_some]
    by_cases d : n > 200
    · rw [if_pos d]
      obtain ⟨v', s', e', v0', v1'⟩ := next_ok hc (at_ + 1) s (by omega) (by omega)
      show ∃ v a s, ((spec_l1Cur_next.f code (at_ + 1) _).bind _) = _ ∧ _
      rw [e', Option.bind_some, if_neg (show ¬ n = 0 by omega), w64 (show -9223372036854775808 ≤ v * 256 by omega) (by omega)]
      have hp : 0 ≤ v * 256 + v' := by omega
      rw [w64 (by omega) (by omega)]
      refine ⟨_, _, _, rfl, Int.tmod_nonneg _ hp, .inl ?_, by show at_ ≤ at_ + 1 + 1; omega, by show at_ + 1 + 1 ≤ _; omega⟩
      exact Int.tmod_lt_of_pos _ (by omega)
    · rw [if_neg d, if_neg (show ¬ n = 0 by omega)]
      refine ⟨_, _, _, rfl, Int.tmod_nonneg _ v0, .inl ?_, by show at_ ≤ at_ + 1; omega, by show at_ + 1 ≤ _; omega⟩
      exact Int.tmod_lt_of_pos _ (by omega)
theorem one_ok {code : List Int} (hc : ∀ x ∈ code, 0 ≤ x ∧ x ≤ 255) (at_ seed n : Int) (h0 : 0 ≤ at_) (h1 : at_ ≤ 999999000) : ∃ v a s, spec_l1Cur_one.f code at_ seed n = some (v, a, s) ∧ at_ ≤ a ∧ a ≤ at_ + 2 := by
  unfold spec_l1Cur_one.f
  obtain ⟨v, a, s, e, _, _, a1, a2⟩ := pick_ok hc at_ seed n h0 h1
  rw [e]
  exact ⟨_, _, _, rfl, a1, a2⟩
theorem among_ok {code : List Int} (hc : ∀ x ∈ code, 0 ≤ x ∧ x ≤ 255) (at_ seed : Int) (l : List Int) (hl : l.length ≠ 0) (h0 : 0 ≤ at_) (h1 : at_ ≤ 999999000) : ∃ v a s, spec_l1Cur_among.f code at_ seed l = some (v, a, s) ∧ at_ ≤ a ∧ a ≤ at_ + 2 := by
  unfold spec_l1Cur_among.f
  obtain ⟨v, a, s, e, v0, v1, a1, a2⟩ := pick_ok hc at_ seed l.length h0 h1
  rw [e, Option.bind_some, if_pos (show (0 : Int) ≤ v from v0), if_pos (show v < (l.length : Int) by omega)]
  exact ⟨_, _, _, rfl, a1, a2⟩
theorem number_ok {code : List Int} (hc : ∀ x ∈ code, 0 ≤ x ∧ x ≤ 255) (at_ seed : Int) (h0 : 0 ≤ at_) (h1 : at_ ≤ 900000000) : ∃ v a s, spec_l1Cur_number.f code at_ seed = some (v, a, s) ∧ at_ ≤ a ∧ a ≤ at_ + 10 := by
  unfold spec_l1Cur_number.f
  obtain ⟨v, a, s, e, v0, v1, a1, a2⟩ := pick_ok hc at_ seed 8 h0 (by omega)
  rw [e, Option.bind_some]
  dsimp only
  by_cases c : v = 0
  · rw [if_pos c]
    obtain ⟨v', a', s', e', b1, b2⟩ := among_ok hc a s [(-1), 0, 1, 2, 1000000, 1000001] (by decide) (by omega) (by omega)
    rw [e']
    exact ⟨_, _, _, rfl, by show at_ ≤ a'; omega, by show a' ≤ _; omega⟩
  · rw [if_neg c]
    by_cases d : v = 1
    · rw [if_pos d]
      obtain ⟨v', a', s', e', _, _, b1, b2⟩ := pick_ok hc a s 1000000 (by omega) (by omega)
      rw [e']
      exact ⟨_, _, _, rfl, by show at_ ≤ a'; omega, by show a' ≤ _; omega⟩
    · rw [if_neg d]
      obtain ⟨v', a', s', e', _, _, b1, b2⟩ := pick_ok hc a s 120 (by omega) (by omega)
      rw [e']
      exact ⟨_, _, _, rfl, by show at_ ≤ a'; omega, by show a' ≤ _; omega⟩
theorem baseOf_ok {code : List Int} (hc : ∀ x ∈ code, 0 ≤ x ∧ x ≤ 255) (at_ seed : Int) (h0 : 0 ≤ at_) (h1 : at_ ≤ 900000000) : ∃ v a s, spec_l1Cur_baseOf.f code at_ seed = some (v, a, s) ∧ at_ ≤ a ∧ a ≤ at_ + 10 := by
  unfold spec_l1Cur_baseOf.f
  obtain ⟨v, a, s, e, a1, a2⟩ := one_ok hc at_ seed 8 h0 (by omega)
  rw [e, Option.bind_some]
  dsimp only
  by_cases c : v = true
  · rw [if_pos c]
    obtain ⟨v', a', s', e', b1, b2⟩ := among_ok hc a s [(-1), 1, 2, 64, 65] (by decide) (by omega) (by omega)
    rw [e']
    exact ⟨_, _, _, rfl, by show at_ ≤ a'; omega, by show a' ≤ _; omega⟩
  · rw [if_neg c]
    obtain ⟨v', a', s', e', _, _, b1, b2⟩ := pick_ok hc a s 9 (by omega) (by omega)
    rw [e']
    exact ⟨_, _, _, rfl, by show at_ ≤ a'; omega, by show a' ≤ _; omega⟩
theorem drawDigits_ok {code : List Int} (hc : ∀ x ∈ code, 0 ≤ x ∧ x ≤ 255) : ∃ n b, spec_DrawDigitsOf.f code = some (n, b) := by
  unfold spec_DrawDigitsOf.f
  obtain ⟨v, a, s, e, a1, a2⟩ := number_ok hc 0 0 (by omega) (by omega)
  rw [e, Option.bind_some]
  dsimp only
  obtain ⟨v', a', s', e', _, _⟩ := baseOf_ok hc a s (by omega) (by omega)
  rw [e']
  exact ⟨_, _, rfl⟩
theorem drawEnd_ev {code : List Int} (hc : ∀ x ∈ code, 0 ≤ x ∧ x ≤ 255) (b : Int) (xs : List Int) (hl : xs.length ≤ 1000) (at_ seed : Int) (h0 : 0 ≤ at_) (h1 : at_ ≤ 800000000) : ∃ ys c, ys.length ≤ 1000 ∧ Ev (fun k => spec_DrawFromDigits.j1 k b xs code at_ seed) (ys, c) := by
  obtain ⟨v, a, s, e, a1, a2⟩ := one_ok hc at_ seed 20 h0 (by omega)
  cases v with
  | false =>
    refine ⟨xs, b, hl, ev_shift ?_⟩
    simp only [spec_DrawFromDigits.j1, e, Option.bind_some, Bool.false_eq_true, if_false]
    exact Ev.now _
  | true =>
    obtain ⟨v', a', s', e', v0, v1, _, _⟩ := pick_ok hc a s 3 (by omega) (by omega)
    have w1 : wrap64 (19 + v') = 19 + v' := w64 (by omega) (by omega)
    have hn : ((List.replicate (19 + v').toNat (0 : Int)).length : Int) = 19 + v' := by rw [List.length_replicate]; omega
    have w2 : wrap64 (19 + v' - 1) = 18 + v' := by rw [w64 (by omega) (by omega)]; omega
    refine ⟨((List.replicate (19 + v').toNat (0 : Int)).set (18 + v').toNat 1), 2, by rw [List.length_set, List.length_replicate]; omega, ev_shift ?_⟩
    simp only [spec_DrawFromDigits.j1, e, e', Option.bind_some, if_true, w1, if_pos (show (0 : Int) ≤ 19 + v' by omega), if_pos (show (19 + v').toNat ≤ 35184372088832 by omega), hn, w2, if_pos (show (0 : Int) ≤ 18 + v' by omega), if_pos (show 18 + v' < 19 + v' by omega)]
    exact Ev.now _
theorem drawFrom_ev {code : List Int} (hc : ∀ x ∈ code, 0 ≤ x ∧ x ≤ 255) : ∃ ys c, ys.length ≤ 1000 ∧ Ev (fun k => spec_DrawFromDigits.f k code) (ys, c) := by
  unfold spec_DrawFromDigits.f
  obtain ⟨b, a, s, e, a1, a2⟩ := baseOf_ok hc 0 0 (by omega) (by omega)
  obtain ⟨n, a', s', e', n0, n1, b1, b2⟩ := pick_ok hc a s 8 (by omega) (by omega)
  simp only [e, e', Option.bind_some]
  have loop : ∀ (d : Nat) (xs : List Int) (at_ seed : Int), d ≤ 8 → xs.length + d ≤ 100 → 0 ≤ at_ → at_ + 100 * (d : Int) ≤ 10000 → ∃ ys c, ys.length ≤ 1000 ∧ Ev (fun k => spec_DrawFromDigits.l0 k b xs d code at_ seed) (ys, c) := by
    intro d
    induction d with
    | zero =>
      intro xs at_ seed hd hl h0 h1
      obtain ⟨v, q, t, ev, q1, q2⟩ := one_ok hc at_ seed 6 h0 (by omega)
      cases v with
      | false =>
        obtain ⟨ys, c, hy, hev⟩ := drawEnd_ev hc b xs (by omega) q t (by omega) (by omega)
        refine ⟨ys, c, hy, ev_shift ?_⟩
        simp only [spec_DrawFromDigits.l0, if_neg (show ¬ ((0 : Nat) : Int) > 0 by omega), ev, Option.bind_some, Bool.false_eq_true, if_false]
        exact hev
      | true =>
        obtain ⟨v', q', t', ev', r1, r2⟩ := among_ok hc q t [(-1), 0, b] (by simp) (by omega) (by omega)
        obtain ⟨ys, c, hy, hev⟩ := drawEnd_ev hc b (xs ++ [v']) (by simp; omega) q' t' (by omega) (by omega)
        refine ⟨ys, c, hy, ev_shift ?_⟩
        simp only [spec_DrawFromDigits.l0, if_neg (show ¬ ((0 : Nat) : Int) > 0 by omega), ev, ev', Option.bind_some, if_true, if_pos (show xs.length < 17592186044416 by omega)]
        exact hev
    | succ d ih =>
      intro xs at_ seed hd hl h0 h1
      obtain ⟨m, hm⟩ : ∃ m, spec_l1Most.f b 2 = some m := by unfold spec_l1Most.f; split <;> exact ⟨_, rfl⟩
      obtain ⟨v', q', t', ev', _, _, r1, r2⟩ := pick_ok hc at_ seed m h0 (by omega)
      obtain ⟨ys, c, hy, hev⟩ := ih (xs ++ [v']) q' t' (by omega) (by simp; omega) (by omega) (by omega)
      refine ⟨ys, c, hy, ev_shift ?_⟩
      simp only [spec_DrawFromDigits.l0, if_pos (show ((d + 1 : Nat) : Int) > 0 by omega), hm, ev', Option.bind_some, if_pos (show xs.length < 17592186044416 by omega), show ((d + 1 : Nat) : Int) - 1 = (d : Int) by omega, w64 (show -9223372036854775808 ≤ (d : Int) by omega) (by omega)]
      exact hev
  obtain ⟨m, rfl⟩ := Int.eq_ofNat_of_zero_le n0
  exact loop m [] a' s' (by omega) (by simp; omega) (by omega) (by omega)
theorem same_ev (xs : List Int) (hl : xs.length ≤ 1000000) : Ev (fun k => laws_pSameInts.f k xs xs) true := by
  unfold laws_pSameInts.f
  simp only [if_true]
  have loop : ∀ (d i : Nat), i + d = xs.length → Ev (fun k => laws_pSameInts.l0 k xs xs xs.length i) true := by
    intro d
    induction d with
    | zero =>
      intro i hd
      refine ev_shift ?_
      simp only [laws_pSameInts.l0, if_neg (show ¬ (i : Int) < (xs.length : Int) by omega)]
      exact Ev.now _
    | succ d ih =>
      intro i hd
      refine ev_shift ?_
      simp only [laws_pSameInts.l0, if_pos (show (i : Int) < (xs.length : Int) by omega), if_pos (show (0 : Int) ≤ (i : Int) by omega), if_true, w64 (show -9223372036854775808 ≤ (i : Int) + 1 by omega) (by omega)]
      exact ih (i + 1) (by omega)
  exact loop xs.length 0 (by omega)
theorem second_ev {code : List Int} (hc : ∀ x ∈ code, 0 ≤ x ∧ x ≤ 255) : Ev (fun k => laws_FnDigitsMakeNumbers.j1 k code) true := by
  obtain ⟨xs, b, hl, hd⟩ := drawFrom_ev hc
  have hs := specFrom_ev xs b (by omega)
  have e0 : ∀ q : Bool, (q != q) = false := fun q => by cases q <;> rfl
  have e1 : ∀ q : Int, (q != q) = false := fun q => by simp
  refine ev_shift ?_
  simp only [laws_FnDigitsMakeNumbers.j1]
  refine ev_bind hd ?_
  simp only [implFrom_eq xs b (by omega), Option.bind_some]
  refine ev_bind hs ?_
  simp only [e0, e1, Bool.false_eq_true, if_false]
  refine ev_shift ?_
  rw [fdAns_of]
  by_cases h : impl_FromDigits.good xs b = true ∧ val b xs ≤ 1000000
  · obtain ⟨⟨h1, h2⟩, hv, hn⟩ := (good_of xs b).1 h.1
    simp only [if_pos h, laws_FnDigitsMakeNumbers.j2, Bool.false_eq_true, if_false, if_true]
    refine ev_bind (digitsOf_of b xs hv hn h1 h2 h.2 (by omega)) ?_
    simp only [if_true]
    exact ev_bind (same_ev xs (by omega)) (Ev.now _)
  · simp only [if_neg h, laws_FnDigitsMakeNumbers.j2, Bool.false_eq_true, if_false]
    exact Ev.now _
theorem FnDigitsMakeNumbers : laws_FnDigitsMakeNumbers.Pure := by
  intro code more _ _ hcode _ _ hmore
  have hc : ∀ x ∈ code, 0 ≤ x ∧ x ≤ 255 := fun x hx => u8_of (hcode x hx)
  have hm : ∀ x ∈ more, 0 ≤ x ∧ x ≤ 255 := fun x hx => u8_of (hmore x hx)
  refine Ev.rounds (r := true) ?_
  obtain ⟨g, hg⟩ : ∃ g, laws_big.f code more = some g := by unfold laws_big.f; split <;> exact ⟨_, rfl⟩
  obtain ⟨n, b, hd⟩ := drawDigits_ok hc
  have e0 : ∀ q : Bool, (q != q) = false := fun q => by cases q <;> rfl
  unfold laws_FnDigitsMakeNumbers.f
  simp only [hg, hd, Option.bind_some]
  cases g with
  | true => simp only [if_true]; exact Ev.now _
  | false =>
    simp only [Bool.false_eq_true, if_false]
    rcases digitsOf_ev n b with ⟨xs, c1, c2, hv, hx, hl, q1, q2⟩ | ⟨_, q1, q2⟩
    · have hn : xs ≠ [] := fun e => by rw [e] at hx; have : (0 : Int) = n := hx; omega
      have hp := List.length_pos_iff.2 hn
      have hgood : impl_FromDigits.good xs b = true := (good_of xs b).2 ⟨c2, hv, hn⟩
      have hlast : ¬ rd xs ((xs.length : Int) - 1) = 0 := fun e => by
        unfold impl_FromDigits.good at hgood
        rw [decide_eq_true e] at hgood
        simp at hgood
      refine ev_bind q1 ?_
      refine ev_bind q2 ?_
      simp only [e0, Bool.false_eq_true, if_false]
      refine ev_bind (same_ev xs hl) ?_
      refine ev_shift ?_
      simp only [laws_FnDigitsMakeNumbers.j0, Bool.not_true, Bool.false_eq_true, if_false, if_true, implFrom_eq xs b (by omega), Option.bind_some, fdAns_of, hx, if_pos (show impl_FromDigits.good xs b = true ∧ n ≤ 1000000 from ⟨hgood, c1.2⟩), w64 (show -9223372036854775808 ≤ (xs.length : Int) - 1 by omega) (by omega), if_pos (show (0 : Int) ≤ (xs.length : Int) - 1 by omega), if_pos (show (xs.length : Int) - 1 < (xs.length : Int) by omega), if_neg hlast]
      exact second_ev hm
    · refine ev_bind q1 ?_
      refine ev_bind q2 ?_
      simp only [e0, Bool.false_eq_true, if_false]
      refine ev_bind (same_ev [] (by simp)) ?_
      refine ev_shift ?_
      simp only [laws_FnDigitsMakeNumbers.j0, Bool.not_true, Bool.false_eq_true, if_false]
      exact second_ev hm
end Go.Proofs.Ytbjmnneaflmgaaa.Pure
