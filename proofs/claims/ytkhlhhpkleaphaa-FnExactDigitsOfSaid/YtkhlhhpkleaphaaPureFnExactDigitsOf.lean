/- For every n and base: DigitsOf of the program answers as the reference does, and shares no memory. -/
import Derived.Test.YtkhlhhpkleaphaaPFnExactDigitsOfx2
namespace Go.Proofs.Ytkhlhhpkleaphaa.Pure
open Go.RowKit Go.Proofs.Ytkhlhhpkleaphaa.PFnExactDigitsOf Go.Proofs.YtkhlhhpkleaphaaW.PrintWords Go.Proofs.YtkhlhhpkleaphaaW.PrintLast Go.Proofs.YtkhlhhpkleaphaaW.PrintMore

theorem w64 {x : Int} (h1 : -9223372036854775808 ≤ x) (h2 : x ≤ 9223372036854775807) : wrap64 x = x := by unfold wrap64; omega

theorem rd_nat (xs : List Int) (j : Nat) : rd xs (j : Int) = xs.getD j 0 := by unfold rd; rw [Int.toNat_natCast]

theorem ev_shift {α : Type} {g : Nat → Option α} {r : α} (h : Ev (fun k => g (k + 1)) r) : Ev g r := by
  obtain ⟨K, hK⟩ := h
  refine ⟨K + 1, fun k hk => ?_⟩
  obtain ⟨m, rfl⟩ : ∃ m, k = m + 1 := ⟨k - 1, by omega⟩
  exact hK m (by omega)

theorem ev_bind {α β : Type} {g : Nat → Option α} {F : Nat → α → Option β} {a : α} {r : β} (h : Ev g a) (k : Ev (fun n => F n a) r) : Ev (fun n => (g n).bind (fun x => F n x)) r := Ev.bind h k

theorem ev_some {α : Type} {g : Nat → Option α} {r : α} (h : ∀ k, g k = some r) : Ev g r := ⟨0, fun k _ => h k⟩

theorem eqIntS_same (xs : List Int) (hb : xs.length ≤ 4611686018427387904) : Ev (fun k => laws_eqIntS.f k xs xs) true := by
  have loop : ∀ (d k : Nat) (i : Int), 0 ≤ i → i ≤ xs.length → (xs.length : Int) - i = d → d < k → laws_eqIntS.l0 k xs xs i = some true := by
    intro d
    induction d with
    | zero =>
      intro k i h0 h1 hd hk
      obtain ⟨k, rfl⟩ : ∃ m, k = m + 1 := ⟨k - 1, by omega⟩
      rw [laws_eqIntS.l0, if_neg (by omega)]
    | succ d ih =>
      intro k i h0 h1 hd hk
      obtain ⟨k, rfl⟩ : ∃ m, k = m + 1 := ⟨k - 1, by omega⟩
      rw [laws_eqIntS.l0, if_pos (by omega), if_pos h0, if_pos (by omega), if_pos rfl, w64 (by omega) (by omega)]
      exact ih k (i + 1) (by omega) (by omega) (by omega) (by omega)
  refine ⟨xs.length + 1, fun k hk => ?_⟩
  show laws_eqIntS.f k xs xs = some true
  unfold laws_eqIntS.f
  rw [if_pos rfl]
  exact loop xs.length k 0 (by omega) (by omega) (by omega) (by omega)

def marked (n : Nat) (a : Int) : List Int := (List.range n).map (fun j : Nat => a + (j : Int))
theorem marked_length (n : Nat) (a : Int) : (marked n a).length = n := by simp [marked]
theorem marked_succ (n : Nat) (a : Int) : marked (n + 1) a = marked n a ++ [a + n] := by simp [marked, List.range_succ]
theorem marked_get (n : Nat) (a : Int) (j : Nat) (h : j < n) : (marked n a).getD j 0 = a + j := by simp [marked, List.getD, h]

theorem marked_step (xs : List Int) (a : Int) (i : Nat) (h : i < xs.length) : (marked i a ++ xs.drop i).set i (a + i) = marked (i + 1) a ++ xs.drop (i + 1) := by
  rw [List.set_append_right _ _ (by rw [marked_length]; exact Nat.le_refl _), marked_length, Nat.sub_self, List.drop_eq_getElem_cons h, List.set_cons_zero, marked_succ]
  simp

theorem markIntS_ev (xs : List Int) (a : Int) (h0 : 0 ≤ a) (ha : a + xs.length ≤ 4611686018427387904) : Ev (fun k => laws_markIntS.f k xs a) (a + xs.length, marked xs.length a) := by
  have loop : ∀ (d k i : Nat), i ≤ xs.length → xs.length - i = d → d < k → laws_markIntS.l0 k (marked i a ++ xs.drop i) (a + i) i = some (a + xs.length, marked xs.length a) := by
    intro d
    induction d with
    | zero =>
      intro k i h1 hd hk
      obtain ⟨k, rfl⟩ : ∃ m, k = m + 1 := ⟨k - 1, by omega⟩
      obtain rfl : i = xs.length := by omega
      have hl : (marked xs.length a ++ xs.drop xs.length).length = xs.length := by simp [marked_length]
      rw [laws_markIntS.l0, hl, if_neg (by omega)]
      simp
    | succ d ih =>
      intro k i h1 hd hk
      obtain ⟨k, rfl⟩ : ∃ m, k = m + 1 := ⟨k - 1, by omega⟩
      have hl : (marked i a ++ xs.drop i).length = xs.length := by simp [marked_length]; omega
      rw [laws_markIntS.l0, hl, if_pos (by omega), if_pos (by omega), Int.toNat_natCast, marked_step xs a i (by omega), w64 (by omega) (by omega), w64 (by omega) (by omega)]
      have e : a + (i : Int) + 1 = a + ((i + 1 : Nat) : Int) := by omega
      rw [e]
      exact ih k (i + 1) (by omega) (by omega) (by omega)
  refine ⟨xs.length + 1, fun k hk => ?_⟩
  have h := loop xs.length k 0 (by omega) (by omega) (by omega)
  simpa [marked, laws_markIntS.f] using h

theorem heldIntS_ev (n : Nat) (a : Int) (h0 : 0 ≤ a) (ha : a + n ≤ 4611686018427387904) : Ev (fun k => laws_heldIntS.f k (marked n a) a) (a + n) := by
  have loop : ∀ (d k i : Nat), i ≤ n → n - i = d → d < k → laws_heldIntS.l0 k (marked n a) (a + i) i = some (a + n) := by
    intro d
    induction d with
    | zero =>
      intro k i h1 hd hk
      obtain ⟨k, rfl⟩ : ∃ m, k = m + 1 := ⟨k - 1, by omega⟩
      obtain rfl : i = n := by omega
      rw [laws_heldIntS.l0, marked_length, if_neg (by omega)]
    | succ d ih =>
      intro k i h1 hd hk
      obtain ⟨k, rfl⟩ : ∃ m, k = m + 1 := ⟨k - 1, by omega⟩
      rw [laws_heldIntS.l0, marked_length, if_pos (by omega), if_pos (by omega), rd_nat, marked_get n a i (by omega), if_pos rfl, w64 (by omega) (by omega), w64 (by omega) (by omega)]
      have e : a + (i : Int) + 1 = a + ((i + 1 : Nat) : Int) := by omega
      rw [e]
      exact ih k (i + 1) (by omega) (by omega) (by omega)
  refine ⟨n + 1, fun k hk => ?_⟩
  have h := loop n k 0 (by omega) (by omega) (by omega)
  simpa [laws_heldIntS.f] using h

theorem same_loop : ∀ (k : Nat) (n b : Int) (acc : List Int), spec_meDigits.l0 k n b acc = impl_digits.l0 k n b acc
  | 0, _, _, _ => rfl
  | k + 1, n, b, acc => by
    rw [spec_meDigits.l0, impl_digits.l0]
    simp only [same_loop k]

theorem same_f (k : Nat) (n b : Int) : spec_DigitsOf.f k n b = impl_DigitsOf.f k n b := by
  have e : spec_meDigits.f k n b = impl_digits.f k n b := same_loop k n b []
  have e1 : spec_chNumber.f n = impl_isNumber.f n := rfl
  have e2 : spec_l1In.f b 2 64 = (impl_baseOk.f b) := by
    unfold impl_baseOk.f impl_in.f spec_l1In.f
    split <;> rfl
  unfold spec_DigitsOf.f impl_DigitsOf.f
  rw [e, e1, e2]

theorem loop_ends_ (b : Int) (hb : 2 ≤ b) : ∀ (d : Nat) (n : Int) (acc : List Int), n < 2 ^ d → d ≤ 60 → acc.length + d ≤ 1000000 → ∃ r : List Int, r.length ≤ acc.length + d ∧ Ev (fun k => impl_digits.l0 k n b acc) r := by
  intro d
  induction d with
  | zero =>
    intro n acc hn _ _
    refine ⟨acc, by omega, ev_shift ?_⟩
    simp only [impl_digits.l0, if_neg (show ¬ n > 0 by simp at hn; omega)]
    exact Ev.now _
  | succ d ih =>
    intro n acc hn hd ha
    by_cases h0 : n > 0
    · have p : (2 : Int) ^ (d + 1) = 2 * 2 ^ d := by rw [Int.pow_succ, Int.mul_comm]
      have hp : (0 : Int) < 2 ^ d := Int.pow_pos (by omega)
      have hq : n / b < 2 ^ d := by
        refine Int.ediv_lt_of_lt_mul (by omega) ?_
        have := Int.mul_le_mul_of_nonneg_left hb (Int.le_of_lt hp)
        omega
      have hq0 : 0 ≤ n / b := Int.ediv_nonneg (by omega) (by omega)
      have big : (2 : Int) ^ d ≤ 2 ^ 60 := by
        have := Nat.pow_le_pow_right (show 0 < 2 by decide) (show d ≤ 60 by omega)
        exact_mod_cast this
      have e : wrap64 (Int.tdiv n b) = n / b := by
        rw [Int.tdiv_eq_ediv_of_nonneg (by omega)]
        have p60 : (2 : Int) ^ 60 = 1152921504606846976 := by decide
        exact w64 (by omega) (by omega)
      obtain ⟨r, hr, hv⟩ := ih (n / b) (acc ++ [Int.tmod n b]) hq (by omega) (by simp only [List.length_append, List.length_singleton]; omega)
      refine ⟨r, by simp only [List.length_append, List.length_singleton] at hr; omega, ev_shift ?_⟩
      simp only [impl_digits.l0, if_pos h0, if_neg (show ¬ b = 0 by omega), if_pos (show acc.length < 17592186044416 by omega), e]
      exact hv
    · refine ⟨acc, by omega, ev_shift ?_⟩
      simp only [impl_digits.l0, if_neg h0]
      exact Ev.now _

theorem lt20 (n : Int) (h : n ≤ 1000000) : n < 2 ^ 20 := by
  have : (2 : Int) ^ 20 = 1048576 := by decide
  omega

theorem impl_ends (n b : Int) : ∃ (w : List Int) (ok : Bool), w.length ≤ 1000000 ∧ Ev (fun k => impl_DigitsOf.f k n b) (w, ok) := by
  unfold impl_DigitsOf.f impl_isNumber.f impl_baseOk.f impl_in.f
  by_cases h1 : n ≥ 1 ∧ n ≤ 1000000
  · by_cases h2 : b ≥ 2 ∧ b ≤ 64
    · obtain ⟨r, hr, hv⟩ := loop_ends_ b h2.1 20 n [] (lt20 n h1.2) (by omega) (by simp)
      refine ⟨r, true, by simp at hr; omega, ?_⟩
      simp only [if_pos h1.1, if_pos h2.1, decide_eq_true h1.2, decide_eq_true h2.2, Option.bind_some, if_true]
      unfold impl_digits.f
      exact ev_bind hv (Ev.now _)
    · refine ⟨[], false, by simp, ?_⟩
      simp only [if_pos h1.1, decide_eq_true h1.2, Option.bind_some, if_true]
      by_cases h3 : b ≥ 2
      · simp only [if_pos h3, decide_eq_false (show ¬ b ≤ 64 by omega), Option.bind_some, Bool.false_eq_true, if_false]
        exact Ev.now _
      · simp only [if_neg h3, Option.bind_some, Bool.false_eq_true, if_false]
        exact Ev.now _
  · refine ⟨[], false, by simp, ?_⟩
    by_cases h3 : n ≥ 1
    · simp only [if_pos h3, decide_eq_false (show ¬ n ≤ 1000000 by omega), Option.bind_some, Bool.false_eq_true, if_false]
      exact Ev.now _
    · simp only [if_neg h3, Option.bind_some, Bool.false_eq_true, if_false]
      exact Ev.now _

/-- The law's tail where the arguments are numbers: both sides answer (w, b): the law holds. -/
theorem tail_ (a0 a1 : Int) (w : List Int) (b : Bool) (hw : w.length ≤ 1000000) (hs : Ev (fun k => spec_DigitsOf.f k a0 a1) (w, b)) (hi : Ev (fun k => impl_DigitsOf.f k a0 a1) (w, b)) : Ev (fun k => laws_FnExactDigitsOf.f k a0 a1) true := by
  have hm := markIntS_ev w 1 (by omega) (by omega)
  have hh := heldIntS_ev w.length 1 (by omega) (by omega)
  have he := eqIntS_same w (by omega)
  have e0 : (b != b) = false := by cases b <;> rfl
  have n0 : ¬ (1 + (w.length : Int) < 0) := by omega
  have j1 : Ev (fun k => laws_FnExactDigitsOf.j1 k (marked w.length 1) (1 + w.length) false) true := by
    refine ev_shift ?_
    simp only [laws_FnExactDigitsOf.j1, Bool.false_eq_true, if_false]
    refine ev_bind hh ?_
    simp only [if_neg n0, if_true]
    exact Ev.now _
  have j0 : Ev (fun k => laws_FnExactDigitsOf.j0 k a0 a1 w b w false) true := by
    refine ev_shift ?_
    simp only [laws_FnExactDigitsOf.j0, Bool.false_eq_true, if_false]
    refine ev_bind hm ?_
    refine ev_bind hh ?_
    simp only [if_neg n0, if_true]
    refine ev_bind hi ?_
    refine ev_bind he ?_
    simp only [if_true, e0]
    exact j1
  unfold laws_FnExactDigitsOf.f
  refine ev_bind hs ?_
  refine ev_bind hi ?_
  refine ev_bind he ?_
  simp only [if_true, e0]
  exact j0

theorem FnExactDigitsOf : laws_FnExactDigitsOf.Pure := by
  intro n b _ _
  obtain ⟨w, ok, hw, hi⟩ := impl_ends n b
  exact (tail_ n b w ok hw (Ev.congr (fun k => same_f k n b) hi) hi).rounds

end Go.Proofs.Ytkhlhhpkleaphaa.Pure
