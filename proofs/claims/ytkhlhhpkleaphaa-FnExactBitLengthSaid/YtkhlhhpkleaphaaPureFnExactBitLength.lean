/- For every n: BitLength of the program answers as the reference does. -/
import Derived.Test.YtkhlhhpkleaphaaMFnExactBitLengthx1
namespace Go.Proofs.Ytkhlhhpkleaphaa.Pure
open Go.RowKit Go.Proofs.Ytkhlhhpkleaphaa.MFnExactBitLength Go.Proofs.YtkhlhhpkleaphaaW.PrintWords Go.Proofs.YtkhlhhpkleaphaaW.PrintLast Go.Proofs.YtkhlhhpkleaphaaW.PrintMore

theorem w64 {x : Int} (h1 : -9223372036854775808 ≤ x) (h2 : x ≤ 9223372036854775807) : wrap64 x = x := by unfold wrap64; omega

theorem rd_nat (xs : List Int) (j : Nat) : rd xs (j : Int) = xs.getD j 0 := by unfold rd; rw [Int.toNat_natCast]

theorem ev_shift {α : Type} {g : Nat → Option α} {r : α} (h : Ev (fun k => g (k + 1)) r) : Ev g r := by
  obtain ⟨K, hK⟩ := h
  refine ⟨K + 1, fun k hk => ?_⟩
  obtain ⟨m, rfl⟩ : ∃ m, k = m + 1 := ⟨k - 1, by omega⟩
  exact hK m (by omega)

theorem ev_bind {α β : Type} {g : Nat → Option α} {F : Nat → α → Option β} {a : α} {r : β} (h : Ev g a) (k : Ev (fun n => F n a) r) : Ev (fun n => (g n).bind (fun x => F n x)) r := Ev.bind h k

theorem ev_some {α : Type} {g : Nat → Option α} {r : α} (h : ∀ k, g k = some r) : Ev g r := ⟨0, fun k _ => h k⟩

/-- the table of the bit lengths of bytes -/
def len8 : ByteArray := (⟨#[0, 1, 2, 2, 3, 3, 3, 3, 4, 4, 4, 4, 4, 4, 4, 4, 5, 5, 5, 5, 5, 5, 5, 5, 5, 5, 5, 5, 5, 5, 5, 5, 6, 6, 6, 6, 6, 6, 6, 6, 6, 6, 6, 6, 6, 6, 6, 6, 6, 6, 6, 6, 6, 6, 6, 6, 6, 6, 6, 6, 6, 6, 6, 6, 7, 7, 7, 7, 7, 7, 7, 7, 7, 7, 7, 7, 7, 7, 7, 7, 7, 7, 7, 7, 7, 7, 7, 7, 7, 7, 7, 7, 7, 7, 7, 7, 7, 7, 7, 7, 7, 7, 7, 7, 7, 7, 7, 7, 7, 7, 7, 7, 7, 7, 7, 7, 7, 7, 7, 7, 7, 7, 7, 7, 7, 7, 7, 7, 8, 8, 8, 8, 8, 8, 8, 8, 8, 8, 8, 8, 8, 8, 8, 8, 8, 8, 8, 8, 8, 8, 8, 8, 8, 8, 8, 8, 8, 8, 8, 8, 8, 8, 8, 8, 8, 8, 8, 8, 8, 8, 8, 8, 8, 8, 8, 8, 8, 8, 8, 8, 8, 8, 8, 8, 8, 8, 8, 8, 8, 8, 8, 8, 8, 8, 8, 8, 8, 8, 8, 8, 8, 8, 8, 8, 8, 8, 8, 8, 8, 8, 8, 8, 8, 8, 8, 8, 8, 8, 8, 8, 8, 8, 8, 8, 8, 8, 8, 8, 8, 8, 8, 8, 8, 8, 8, 8, 8, 8, 8, 8, 8, 8, 8, 8, 8, 8, 8, 8, 8, 8, 8, 8, 8, 8, 8, 8]⟩ : ByteArray)
theorem len8_1 : ∀ i : Nat, i < 2 → 1 ≤ i → bt len8 (i : Int) = 1 := by decide +kernel
theorem len8_2 : ∀ i : Nat, i < 4 → 2 ≤ i → bt len8 (i : Int) = 2 := by decide +kernel
theorem len8_3 : ∀ i : Nat, i < 8 → 4 ≤ i → bt len8 (i : Int) = 3 := by decide +kernel
theorem len8_4 : ∀ i : Nat, i < 16 → 8 ≤ i → bt len8 (i : Int) = 4 := by decide +kernel
theorem len8_5 : ∀ i : Nat, i < 32 → 16 ≤ i → bt len8 (i : Int) = 5 := by decide +kernel
theorem len8_6 : ∀ i : Nat, i < 64 → 32 ≤ i → bt len8 (i : Int) = 6 := by decide +kernel
theorem len8_7 : ∀ i : Nat, i < 128 → 64 ≤ i → bt len8 (i : Int) = 7 := by decide +kernel
theorem len8_8 : ∀ i : Nat, i < 256 → 128 ≤ i → bt len8 (i : Int) = 8 := by decide +kernel

theorem u64_id (n : Int) (h0 : 0 ≤ n) (h1 : n ≤ 1000000) : IntKind.u64.wrap n = n := by
  simp only [IntKind.wrap, IntKind.signed, IntKind.bits, Bool.false_and, Bool.false_eq_true, if_false]
  omega

theorem len8_fact (i : Int) (h0 : 1 ≤ i) (h1 : i < 256) : ∃ t : Nat, bt len8 i = t ∧ 1 ≤ t ∧ t ≤ 8 ∧ (2 : Int) ^ (t - 1) ≤ i ∧ i < 2 ^ t := by
  obtain ⟨j, rfl⟩ := Int.eq_ofNat_of_zero_le (show 0 ≤ i by omega)
  by_cases c1 : j < 2
  · exact ⟨1, len8_1 j c1 (by omega), by decide, by decide, by simp; omega, by simp; omega⟩
  by_cases c2 : j < 4
  · exact ⟨2, len8_2 j c2 (by omega), by decide, by decide, by simp; omega, by simp; omega⟩
  by_cases c3 : j < 8
  · exact ⟨3, len8_3 j c3 (by omega), by decide, by decide, by simp; omega, by simp; omega⟩
  by_cases c4 : j < 16
  · exact ⟨4, len8_4 j c4 (by omega), by decide, by decide, by simp; omega, by simp; omega⟩
  by_cases c5 : j < 32
  · exact ⟨5, len8_5 j c5 (by omega), by decide, by decide, by simp; omega, by simp; omega⟩
  by_cases c6 : j < 64
  · exact ⟨6, len8_6 j c6 (by omega), by decide, by decide, by simp; omega, by simp; omega⟩
  by_cases c7 : j < 128
  · exact ⟨7, len8_7 j c7 (by omega), by decide, by decide, by simp; omega, by simp; omega⟩
  by_cases c8 : j < 256
  · exact ⟨8, len8_8 j c8 (by omega), by decide, by decide, by simp; omega, by simp; omega⟩
  exact absurd h1 (by omega)

set_option maxRecDepth 100000 in
/-- bits.Len of a number: the L with 2^(L-1) ≤ n < 2^L. -/
theorem len_ev (n : Int) (h0 : 1 ≤ n) (h1 : n ≤ 1000000) : ∃ L : Nat, 1 ≤ L ∧ L ≤ 20 ∧ (2 : Int) ^ (L - 1) ≤ n ∧ n < 2 ^ L ∧ Ev (fun k => bits_Len.f k (IntKind.u64.wrap n)) (L : Int) := by
  have key : ∃ L : Nat, 1 ≤ L ∧ L ≤ 20 ∧ (2 : Int) ^ (L - 1) ≤ n ∧ n < 2 ^ L ∧ Ev (fun k => bits_Len64.j0 k n 0) (L : Int) := by
    by_cases c1 : n ≥ 65536
    · have q0 : 1 ≤ n / 65536 := by omega
      have q1 : n / 65536 < 256 := by omega
      have m : n / 65536 % 256 = n / 65536 := by omega
      obtain ⟨t, ht, t1, t8, p1, p2⟩ := len8_fact (n / 65536) q0 q1
      have hn : (16 : Int) + t = ((t + 16 : Nat) : Int) := by omega
      have t4 : t ≤ 4 := by
        rcases (by omega : t = 1 ∨ t = 2 ∨ t = 3 ∨ t = 4 ∨ t = 5 ∨ t = 6 ∨ t = 7 ∨ t = 8) with rfl | rfl | rfl | rfl | rfl | rfl | rfl | rfl <;> simp at p1 <;> omega
      refine ⟨t + 16, by omega, by omega, ?_, ?_, ?_⟩
      · rcases (by omega : t = 1 ∨ t = 2 ∨ t = 3 ∨ t = 4) with rfl | rfl | rfl | rfl <;> simp at p1 ⊢ <;> omega
      · rcases (by omega : t = 1 ∨ t = 2 ∨ t = 3 ∨ t = 4) with rfl | rfl | rfl | rfl <;> simp at p2 ⊢ <;> omega
      · refine ev_shift (ev_some fun k => ?_)
        rw [bits_Len64.j0]
        rw [if_pos c1, if_neg (show ¬ n / 65536 ≥ 256 by omega), m, if_pos (by omega), if_pos q1]
        change some (wrap64 (wrap64 (0 + 16) + wrap64 (bt len8 (n / 65536)))) = _
        rw [ht, w64 (show -9223372036854775808 ≤ (0 : Int) + 16 by omega) (by omega), w64 (show -9223372036854775808 ≤ (t : Int) by omega) (by omega), w64 (by omega) (by omega)]
        exact congrArg some (by omega)
    · by_cases c2 : n ≥ 256
      · have q0 : 1 ≤ n / 256 := by omega
        have q1 : n / 256 < 256 := by omega
        have m : n / 256 % 256 = n / 256 := by omega
        obtain ⟨t, ht, t1, t8, p1, p2⟩ := len8_fact (n / 256) q0 q1
        refine ⟨t + 8, by omega, by omega, ?_, ?_, ?_⟩
        · rcases (by omega : t = 1 ∨ t = 2 ∨ t = 3 ∨ t = 4 ∨ t = 5 ∨ t = 6 ∨ t = 7 ∨ t = 8) with rfl | rfl | rfl | rfl | rfl | rfl | rfl | rfl <;> simp at p1 ⊢ <;> omega
        · rcases (by omega : t = 1 ∨ t = 2 ∨ t = 3 ∨ t = 4 ∨ t = 5 ∨ t = 6 ∨ t = 7 ∨ t = 8) with rfl | rfl | rfl | rfl | rfl | rfl | rfl | rfl <;> simp at p2 ⊢ <;> omega
        · refine ev_shift (ev_some fun k => ?_)
          rw [bits_Len64.j0]
          rw [if_neg c1, if_pos c2, m, if_pos (by omega), if_pos q1]
          change some (wrap64 (wrap64 (0 + 8) + wrap64 (bt len8 (n / 256)))) = _
          rw [ht, w64 (show -9223372036854775808 ≤ (0 : Int) + 8 by omega) (by omega), w64 (show -9223372036854775808 ≤ (t : Int) by omega) (by omega), w64 (by omega) (by omega)]
          exact congrArg some (by omega)
      · have m : n % 256 = n := by omega
        obtain ⟨t, ht, t1, t8, p1, p2⟩ := len8_fact n h0 (by omega)
        refine ⟨t, t1, by omega, p1, p2, ?_⟩
        refine ev_shift (ev_some fun k => ?_)
        rw [bits_Len64.j0]
        rw [if_neg c1, if_neg c2, m, if_pos (by omega), if_pos (by omega)]
        change some (wrap64 (0 + wrap64 (bt len8 n))) = _
        rw [ht, w64 (show -9223372036854775808 ≤ (t : Int) by omega) (by omega), w64 (by omega) (by omega)]
        exact congrArg some (by omega)
  obtain ⟨L, a, b, c, d, e⟩ := key
  refine ⟨L, a, b, c, d, ?_⟩
  rw [u64_id n (by omega) h1]
  unfold bits_Len.f bits_Len64.f
  simp only [if_neg (show ¬ n ≥ 4294967296 by omega)]
  exact ev_bind e (Ev.now _)

theorem pow_le_of (a b : Nat) (h : a ≤ b) : (2 : Int) ^ a ≤ 2 ^ b := by
  have := Nat.pow_le_pow_right (show 0 < 2 by decide) h
  exact_mod_cast this

theorem shr_pos (n : Int) (b : Nat) (hb : b ≤ 40) (h : (2 : Int) ^ b ≤ n) : shr .i64 n (b : Int) > 0 := by
  unfold shr
  have e : min (b : Int).toNat IntKind.i64.bits = b := by rw [Int.toNat_natCast]; exact Nat.min_eq_left (by simp [IntKind.bits]; omega)
  rw [e]
  have p : (0 : Int) < 2 ^ b := Int.pow_pos (by omega)
  have := (Int.le_ediv_iff_mul_le p (a := 1) (b := n)).2 (by omega)
  omega
theorem shr_zero (n : Int) (b : Nat) (hb : b ≤ 40) (h0 : 0 ≤ n) (h : n < (2 : Int) ^ b) : ¬ shr .i64 n (b : Int) > 0 := by
  unfold shr
  have e : min (b : Int).toNat IntKind.i64.bits = b := by rw [Int.toNat_natCast]; exact Nat.min_eq_left (by simp [IntKind.bits]; omega)
  rw [e, Int.ediv_eq_zero_of_lt h0 h]
  omega

theorem chLength_ev (n : Int) (L : Nat) (hL : L ≤ 20) (h1 : 1 ≤ L) (h2 : (2 : Int) ^ (L - 1) ≤ n) (h3 : n < 2 ^ L) : Ev (fun k => spec_chLength.f k n) (L : Int) := by
  have n0 : 0 ≤ n := by have : (0 : Int) < 2 ^ (L - 1) := Int.pow_pos (by omega)
                        omega
  have loop : ∀ (d b : Nat), b + d = L → Ev (fun k => spec_chLength.l0 k n (b : Int)) (L : Int) := by
    intro d
    induction d with
    | zero =>
      intro b hb
      obtain rfl : b = L := by omega
      refine ev_shift ?_
      simp only [spec_chLength.l0, if_pos (show (0 : Int) ≤ (b : Int) by omega), if_neg (shr_zero n b (by omega) n0 h3)]
      exact Ev.now _
    | succ d ih =>
      intro b hb
      have := pow_le_of b (L - 1) (by omega)
      refine ev_shift ?_
      simp only [spec_chLength.l0, if_pos (show (0 : Int) ≤ (b : Int) by omega), if_pos (shr_pos n b (by omega) (by omega)), w64 (show -9223372036854775808 ≤ (b : Int) + 1 by omega) (by omega)]
      exact ih (b + 1) (by omega)
  exact loop L 0 (by omega)

theorem FnExactBitLength : laws_FnExactBitLength.Pure := by
  intro n _
  have key : Ev (fun k => laws_FnExactBitLength.f k n) true := by
    unfold laws_FnExactBitLength.f spec_BitLength.f impl_BitLength.f spec_chNumber.f impl_isNumber.f spec_l1In.f impl_in.f
    by_cases c1 : n ≥ 1
    · by_cases c2 : n ≤ 1000000
      · obtain ⟨L, a, b, c, d, e⟩ := len_ev n c1 c2
        simp only [if_pos c1, decide_eq_true c2, Option.bind_some, if_true]
        refine ev_bind (ev_bind (chLength_ev n L b a c d) (Ev.now (α := Int × Bool) _)) ?_
        refine ev_bind (ev_bind e (Ev.now (α := Int × Bool) _)) ?_
        simp only [if_true, bne_self_eq_false, Bool.false_eq_true, if_false]
        exact Ev.now _
      · simp only [if_pos c1, decide_eq_false c2, Option.bind_some, Bool.false_eq_true, if_false, if_true, bne_self_eq_false]
        exact Ev.now _
    · simp only [if_neg c1, Option.bind_some, Bool.false_eq_true, if_false, if_true, bne_self_eq_false]
      exact Ev.now _
  exact key.rounds

end Go.Proofs.Ytkhlhhpkleaphaa.Pure
