/- For every n: DigitSum of the program answers as the reference does. -/
import Derived.Test.YtkhlhhpkleaphaaMFnExactDigitSumx1
namespace Go.Proofs.Ytkhlhhpkleaphaa.Pure
open Go.RowKit Go.Proofs.Ytkhlhhpkleaphaa.MFnExactDigitSum Go.Proofs.YtkhlhhpkleaphaaW.PrintWords Go.Proofs.YtkhlhhpkleaphaaW.PrintLast Go.Proofs.YtkhlhhpkleaphaaW.PrintMore

theorem w64 {x : Int} (h1 : -9223372036854775808 ≤ x) (h2 : x ≤ 9223372036854775807) : wrap64 x = x := by unfold wrap64; omega

theorem rd_nat (xs : List Int) (j : Nat) : rd xs (j : Int) = xs.getD j 0 := by unfold rd; rw [Int.toNat_natCast]

theorem ev_shift {α : Type} {g : Nat → Option α} {r : α} (h : Ev (fun k => g (k + 1)) r) : Ev g r := by
  obtain ⟨K, hK⟩ := h
  refine ⟨K + 1, fun k hk => ?_⟩
  obtain ⟨m, rfl⟩ : ∃ m, k = m + 1 := ⟨k - 1, by omega⟩
  exact hK m (by omega)

theorem ev_bind {α β : Type} {g : Nat → Option α} {F : Nat → α → Option β} {a : α} {r : β} (h : Ev g a) (k : Ev (fun n => F n a) r) : Ev (fun n => (g n).bind (fun x => F n x)) r := Ev.bind h k

theorem ev_some {α : Type} {g : Nat → Option α} {r : α} (h : ∀ k, g k = some r) : Ev g r := ⟨0, fun k _ => h k⟩

/-- the sum of the lowest d binary digits -/
def dsum : Nat → Nat → Nat
  | 0, _ => 0
  | d + 1, n => n % 2 + dsum d (n / 2)
theorem dsum_le : ∀ d n : Nat, dsum d n ≤ d
  | 0, _ => Nat.le_refl _
  | d + 1, n => by have := dsum_le d (n / 2); unfold dsum; omega
theorem dsum_split : ∀ a b n : Nat, dsum (a + b) n = dsum a (n % 2 ^ a) + dsum b (n / 2 ^ a)
  | 0, b, n => by simp [dsum]
  | a + 1, b, n => by
    have h := dsum_split a b (n / 2)
    have e1 : n % 2 ^ (a + 1) % 2 = n % 2 := Nat.mod_mod_of_dvd _ ⟨2 ^ a, by rw [Nat.pow_succ, Nat.mul_comm]⟩
    have e2 : n % 2 ^ (a + 1) / 2 = n / 2 % 2 ^ a := by rw [Nat.pow_succ, Nat.mul_comm, Nat.mod_mul_right_div_self]
    have e3 : n / 2 / 2 ^ a = n / 2 ^ (a + 1) := by rw [Nat.div_div_eq_div_mul, Nat.pow_succ, Nat.mul_comm]
    rw [Nat.add_right_comm, dsum, dsum, e1, e2, ← e3, h]
    omega

theorem and_split (x m : Nat) : x &&& m = ((x % 256) &&& (m % 256)) + 256 * ((x / 256) &&& (m / 256)) := by
  have h1 : (x &&& m) % 256 = (x % 256) &&& (m % 256) := by have := Nat.and_mod_two_pow (a := x) (b := m) (n := 8); simpa using this
  have h2 : (x &&& m) / 256 = (x / 256) &&& (m / 256) := by have := Nat.and_div_two_pow (a := x) (b := m) (n := 8); simpa using this
  have := Nat.mod_add_div (x &&& m) 256
  rw [h1, h2] at this
  exact this.symm
theorem and3 (m x0 x1 x2 : Nat) (hm : m < 256) (h0 : x0 < 256) (h1 : x1 < 256) : (x0 + 256 * (x1 + 256 * x2)) &&& (m + 256 * (m + 256 * m)) = (x0 &&& m) + 256 * ((x1 &&& m) + 256 * (x2 &&& m)) := by
  rw [and_split, show (x0 + 256 * (x1 + 256 * x2)) % 256 = x0 by omega, show (x0 + 256 * (x1 + 256 * x2)) / 256 = x1 + 256 * x2 by omega, show (m + 256 * (m + 256 * m)) % 256 = m by omega, show (m + 256 * (m + 256 * m)) / 256 = m + 256 * m by omega,
    and_split (x1 + 256 * x2), show (x1 + 256 * x2) % 256 = x1 by omega, show (x1 + 256 * x2) / 256 = x2 by omega, show (m + 256 * m) % 256 = m by omega, show (m + 256 * m) / 256 = m by omega]
/-- only the lowest 24 bits of a mask count -/
theorem mask24 (x m : Nat) (h : x < 16777216) : x &&& m = x &&& (m % 16777216) := by
  have h1 : (x &&& m) % 16777216 = (x % 16777216) &&& (m % 16777216) := by have := Nat.and_mod_two_pow (a := x) (b := m) (n := 24); simpa using this
  have h2 : x &&& m ≤ x := Nat.and_le_left
  rw [Nat.mod_eq_of_lt (by omega), Nat.mod_eq_of_lt h] at h1
  exact h1

def t1 (l : Nat) : Nat := (l / 2 &&& 85) + (l &&& 85)
def t2 (l : Nat) : Nat := (l / 4 &&& 51) + (l &&& 51)
theorem f1 : ∀ l : Fin 256, ∀ c : Fin 2, (l.val / 2 + 128 * c.val) &&& 85 = l.val / 2 &&& 85 := by decide +kernel
theorem f2 : ∀ l : Fin 256, ∀ c : Fin 4, (l.val / 4 + 64 * c.val) &&& 51 = l.val / 4 &&& 51 := by decide +kernel
theorem b1 : ∀ l : Fin 256, t1 l.val < 256 := by decide +kernel
theorem b2 : ∀ l : Fin 256, t2 (t1 l.val) < 69 ∧ t2 (t1 l.val) % 16 < 5 := by decide +kernel
theorem f3 : ∀ l : Fin 69, ∀ c : Fin 5, (l.val / 16 + l.val + 16 * c.val) &&& 15 = (l.val / 16 + l.val) &&& 15 ∧ l.val / 16 + l.val + 16 * c.val < 256 := by decide +kernel
theorem f4 : ∀ l : Fin 256, (t2 (t1 l.val) / 16 + t2 (t1 l.val)) &&& 15 = dsum 8 l.val := by decide +kernel

theorem e1 (a b c : Nat) (ha : a < 256) (hb : b < 256) (_ : c < 256) : ((a + 256 * (b + 256 * c)) / 2 &&& 5592405) + ((a + 256 * (b + 256 * c)) &&& 5592405) = t1 a + 256 * (t1 b + 256 * t1 c) := by
  have q : (a + 256 * (b + 256 * c)) / 2 = (a / 2 + 128 * (b % 2)) + 256 * ((b / 2 + 128 * (c % 2)) + 256 * (c / 2)) := by omega
  have x := and3 85 (a / 2 + 128 * (b % 2)) (b / 2 + 128 * (c % 2)) (c / 2) (by decide) (by omega) (by omega)
  have y := and3 85 a b c (by decide) ha hb
  have fa : (a / 2 + 128 * (b % 2)) &&& 85 = a / 2 &&& 85 := f1 ⟨a, ha⟩ ⟨b % 2, by omega⟩
  have fb : (b / 2 + 128 * (c % 2)) &&& 85 = b / 2 &&& 85 := f1 ⟨b, hb⟩ ⟨c % 2, by omega⟩
  rw [fa, fb] at x
  have m : 85 + 256 * (85 + 256 * 85) = 5592405 := rfl
  rw [m] at x y
  rw [q, x, y]
  unfold t1
  omega
theorem e2 (a b c : Nat) (ha : a < 256) (hb : b < 256) (_ : c < 256) : ((a + 256 * (b + 256 * c)) / 4 &&& 3355443) + ((a + 256 * (b + 256 * c)) &&& 3355443) = t2 a + 256 * (t2 b + 256 * t2 c) := by
  have q : (a + 256 * (b + 256 * c)) / 4 = (a / 4 + 64 * (b % 4)) + 256 * ((b / 4 + 64 * (c % 4)) + 256 * (c / 4)) := by omega
  have x := and3 51 (a / 4 + 64 * (b % 4)) (b / 4 + 64 * (c % 4)) (c / 4) (by decide) (by omega) (by omega)
  have y := and3 51 a b c (by decide) ha hb
  have fa : (a / 4 + 64 * (b % 4)) &&& 51 = a / 4 &&& 51 := f2 ⟨a, ha⟩ ⟨b % 4, by omega⟩
  have fb : (b / 4 + 64 * (c % 4)) &&& 51 = b / 4 &&& 51 := f2 ⟨b, hb⟩ ⟨c % 4, by omega⟩
  rw [fa, fb] at x
  have m : 51 + 256 * (51 + 256 * 51) = 3355443 := rfl
  rw [m] at x y
  rw [q, x, y]
  unfold t2
  omega
theorem e3 (a b c : Nat) (ha : a < 69) (hb : b < 69) (_ : c < 69) (hb2 : b % 16 < 5) (hc2 : c % 16 < 5) : ((a + 256 * (b + 256 * c)) / 16 + (a + 256 * (b + 256 * c))) &&& 986895 = ((a / 16 + a) &&& 15) + 256 * (((b / 16 + b) &&& 15) + 256 * ((c / 16 + c) &&& 15)) := by
  have q : (a + 256 * (b + 256 * c)) / 16 + (a + 256 * (b + 256 * c)) = (a / 16 + a + 16 * (b % 16)) + 256 * ((b / 16 + b + 16 * (c % 16)) + 256 * (c / 16 + c)) := by omega
  have fa := f3 ⟨a, ha⟩ ⟨b % 16, hb2⟩
  have fb := f3 ⟨b, hb⟩ ⟨c % 16, hc2⟩
  have x := and3 15 (a / 16 + a + 16 * (b % 16)) (b / 16 + b + 16 * (c % 16)) (c / 16 + c) (by decide) fa.2 fb.2
  have m : 15 + 256 * (15 + 256 * 15) = 986895 := rfl
  rw [m] at x
  rw [q, x]
  have ga : (a / 16 + a + 16 * (b % 16)) &&& 15 = (a / 16 + a) &&& 15 := fa.1
  have gb : (b / 16 + b + 16 * (c % 16)) &&& 15 = (b / 16 + b) &&& 15 := fb.1
  rw [ga, gb]

/-- what OnesCount64 computes, in natural numbers -/
theorem count_nat (n : Nat) (h : n < 1048576) : ∃ x y z u v : Nat, x = (n / 2 &&& 6148914691236517205) + (n &&& 6148914691236517205) ∧ y = (x / 4 &&& 3689348814741910323) + (x &&& 3689348814741910323) ∧ z = (y / 16 + y) &&& 1085102592571150095 ∧ u = z + z / 256 ∧ v = u + u / 65536 ∧
    x < 16777216 ∧ y < 16777216 ∧ z < 16777216 ∧ v < 33554432 ∧ (v + v / 4294967296) % 128 = dsum 24 n := by
  obtain ⟨a, b, c, ha, hb, hc, rfl⟩ : ∃ a b c : Nat, a < 256 ∧ b < 256 ∧ c < 16 ∧ n = a + 256 * (b + 256 * c) := ⟨n % 256, n / 256 % 256, n / 65536, by omega, by omega, by omega, by omega⟩
  have qa := b1 ⟨a, ha⟩
  have qb := b1 ⟨b, hb⟩
  have qc := b1 ⟨c, by omega⟩
  have ra := b2 ⟨a, ha⟩
  have rb := b2 ⟨b, hb⟩
  have rc := b2 ⟨c, by omega⟩
  have da := f4 ⟨a, ha⟩
  have db := f4 ⟨b, hb⟩
  have dc := f4 ⟨c, by omega⟩
  simp only at qa qb qc ra rb rc da db dc
  have la := dsum_le 8 a
  have lb := dsum_le 8 b
  have lc := dsum_le 8 c
  have x1 := e1 a b c ha hb (by omega)
  have x2 := e2 (t1 a) (t1 b) (t1 c) qa qb qc
  have x3 := e3 (t2 (t1 a)) (t2 (t1 b)) (t2 (t1 c)) ra.1 rb.1 rc.1 rb.2 rc.2
  rw [da, db, dc] at x3
  refine ⟨t1 a + 256 * (t1 b + 256 * t1 c), t2 (t1 a) + 256 * (t2 (t1 b) + 256 * t2 (t1 c)), dsum 8 a + 256 * (dsum 8 b + 256 * dsum 8 c), _, _, ?_, ?_, ?_, rfl, rfl, by omega, by omega, by omega, by omega, ?_⟩
  · rw [mask24 _ 6148914691236517205 (by omega), mask24 _ 6148914691236517205 (by omega)]; exact x1.symm
  · rw [mask24 _ 3689348814741910323 (by omega), mask24 _ 3689348814741910323 (by omega)]; exact x2.symm
  · rw [mask24 _ 1085102592571150095 (by omega)]; exact x3.symm
  · have s := dsum_split 8 16 (a + 256 * (b + 256 * c))
    have s' := dsum_split 8 8 (b + 256 * c)
    have p : (2 : Nat) ^ 8 = 256 := rfl
    rw [p, show (a + 256 * (b + 256 * c)) % 256 = a by omega, show (a + 256 * (b + 256 * c)) / 256 = b + 256 * c by omega] at s
    rw [p, show (b + 256 * c) % 256 = b by omega, show (b + 256 * c) / 256 = c by omega] at s'
    rw [show (8 : Nat) + 16 = 24 from rfl] at s
    rw [show (8 : Nat) + 8 = 16 from rfl] at s'
    rw [s, s']
    have k1 : (dsum 8 a + 256 * (dsum 8 b + 256 * dsum 8 c)) / 256 = dsum 8 b + 256 * dsum 8 c := by omega
    rw [k1]
    have k2 : (dsum 8 a + 256 * (dsum 8 b + 256 * dsum 8 c) + (dsum 8 b + 256 * dsum 8 c)) / 65536 = dsum 8 c := by omega
    rw [k2]
    have k3 : (dsum 8 a + 256 * (dsum 8 b + 256 * dsum 8 c) + (dsum 8 b + 256 * dsum 8 c) + dsum 8 c) / 4294967296 = 0 := by omega
    rw [k3]
    omega

theorem u64w (m : Nat) (h : m < 18446744073709551616) : IntKind.u64.wrap (m : Int) = (m : Int) := by
  simp only [IntKind.wrap, IntKind.signed, IntKind.bits, Bool.false_and, Bool.false_eq_true, if_false]
  omega
theorem and64 (a b : Nat) (ha : a < 18446744073709551616) (hb : b < 18446744073709551616) : Go.bits .and .u64 (a : Int) (b : Int) = ((a &&& b : Nat) : Int) :=
  (bits_nat .u64 64 (by decide) (fun n h0 h1 => by
    obtain ⟨m, rfl⟩ := Int.eq_ofNat_of_zero_le h0
    exact u64w m (by omega)) a b ha hb).1
theorem andi (a : Nat) (ha : a < 33554432) : Go.bits .and .i64 (a : Int) 127 = ((a % 128 : Nat) : Int) := by
  have h := bits_mask .i64 32 (by decide) (fun n h0 h1 => by rw [IntKind.wrap_i64]; omega) 7 (by decide) (a : Int) (by omega) (by omega)
  have e : (2 : Int) ^ 7 - 1 = 127 := rfl
  have e' : (2 : Int) ^ 7 = 128 := rfl
  rw [e, e'] at h
  rw [h]
  omega

set_option maxRecDepth 100000 in
theorem ones_eq (n : Nat) (h : n < 1048576) : bits_OnesCount64.f (n : Int) = some ((dsum 24 n : Nat) : Int) := by
  obtain ⟨x, y, z, u, v, hx, hy, hz, hu, hv, bx, by_, bz, bv, hd⟩ := count_nat n h
  have a1 : Go.bits .and .u64 ((n : Int) / 2) 6148914691236517205 = ((n / 2 &&& 6148914691236517205 : Nat) : Int) := and64 (n / 2) 6148914691236517205 (by omega) (by decide)
  have a2 : Go.bits .and .u64 (n : Int) 6148914691236517205 = ((n &&& 6148914691236517205 : Nat) : Int) := and64 n 6148914691236517205 (by omega) (by decide)
  have a3 : IntKind.u64.wrap (((n / 2 &&& 6148914691236517205 : Nat) : Int) + ((n &&& 6148914691236517205 : Nat) : Int)) = (x : Int) := by
    have : ((n / 2 &&& 6148914691236517205 : Nat) : Int) + ((n &&& 6148914691236517205 : Nat) : Int) = (x : Int) := by rw [hx]; omega
    rw [this]; exact u64w x (by omega)
  have a4 : Go.bits .and .u64 ((x : Int) / 4) 3689348814741910323 = ((x / 4 &&& 3689348814741910323 : Nat) : Int) := and64 (x / 4) 3689348814741910323 (by omega) (by decide)
  have a5 : Go.bits .and .u64 (x : Int) 3689348814741910323 = ((x &&& 3689348814741910323 : Nat) : Int) := and64 x 3689348814741910323 (by omega) (by decide)
  have a6 : IntKind.u64.wrap (((x / 4 &&& 3689348814741910323 : Nat) : Int) + ((x &&& 3689348814741910323 : Nat) : Int)) = (y : Int) := by
    have : ((x / 4 &&& 3689348814741910323 : Nat) : Int) + ((x &&& 3689348814741910323 : Nat) : Int) = (y : Int) := by rw [hy]; omega
    rw [this]; exact u64w y (by omega)
  have a7 : IntKind.u64.wrap ((y : Int) / 16 + (y : Int)) = ((y / 16 + y : Nat) : Int) := by
    have : (y : Int) / 16 + (y : Int) = ((y / 16 + y : Nat) : Int) := by omega
    rw [this]; exact u64w _ (by omega)
  have a8 : Go.bits .and .u64 ((y / 16 + y : Nat) : Int) 1085102592571150095 = (z : Int) := by
    have := and64 (y / 16 + y) 1085102592571150095 (by omega) (by decide)
    rw [← hz] at this
    exact this
  have a9 : IntKind.u64.wrap ((z : Int) + (z : Int) / 256) = (u : Int) := by
    have : (z : Int) + (z : Int) / 256 = (u : Int) := by omega
    rw [this]; exact u64w u (by omega)
  have a10 : IntKind.u64.wrap ((u : Int) + (u : Int) / 65536) = (v : Int) := by
    have : (u : Int) + (u : Int) / 65536 = (v : Int) := by omega
    rw [this]; exact u64w v (by omega)
  have a11 : IntKind.u64.wrap ((v : Int) + (v : Int) / 4294967296) = ((v + v / 4294967296 : Nat) : Int) := by
    have : (v : Int) + (v : Int) / 4294967296 = ((v + v / 4294967296 : Nat) : Int) := by omega
    rw [this]; exact u64w _ (by omega)
  unfold bits_OnesCount64.f
  rw [a1, a2, a3, a4, a5, a6, a7, a8, a9, a10, a11, w64 (by omega) (by omega), andi _ (by omega), hd]

theorem dsum_zero : ∀ d : Nat, dsum d 0 = 0
  | 0 => rfl
  | d + 1 => by unfold dsum; rw [Nat.zero_div, dsum_zero d]
theorem digits_ev : ∀ (d n : Nat) (s : Int), n < 2 ^ d → d ≤ 30 → 0 ≤ s → s ≤ 1000 - d → Ev (fun k => spec_chDigits.l0 k (n : Int) s) (s + (dsum d n : Nat)) := by
  intro d
  induction d with
  | zero =>
    intro n s hn _ _ _
    obtain rfl : n = 0 := by simpa using hn
    refine ev_shift ?_
    simp only [spec_chDigits.l0, dsum, if_neg (show ¬ ((0 : Nat) : Int) > 0 by omega)]
    simpa using Ev.now s
  | succ d ih =>
    intro n s hn hd h0 h1
    refine ev_shift ?_
    have hp : (2 : Nat) ^ d ≤ 2 ^ 30 := Nat.pow_le_pow_right (by decide) (by omega)
    have e30 : (2 : Nat) ^ 30 = 1073741824 := by decide
    rw [Nat.pow_succ] at hn
    by_cases c : (n : Int) > 0
    · have q1 : Int.tdiv (n : Int) 2 = ((n / 2 : Nat) : Int) := by rw [Int.tdiv_eq_ediv_of_nonneg (by omega)]; omega
      have q2 : Int.tmod (n : Int) 2 = ((n % 2 : Nat) : Int) := by rw [Int.tmod_eq_emod_of_nonneg (by omega)]; omega
      simp only [spec_chDigits.l0, if_pos c, q1, q2, w64 (show -9223372036854775808 ≤ ((n / 2 : Nat) : Int) by omega) (by omega), w64 (show -9223372036854775808 ≤ s + ((n % 2 : Nat) : Int) by omega) (by omega)]
      have h := ih (n / 2) (s + ((n % 2 : Nat) : Int)) (by omega) (by omega) (by omega) (by omega)
      have e : s + ((n % 2 : Nat) : Int) + (dsum d (n / 2) : Nat) = s + (dsum (d + 1) n : Nat) := by
        have ed : dsum (d + 1) n = n % 2 + dsum d (n / 2) := rfl
        rw [ed]
        omega
      rw [e] at h
      exact h
    · obtain rfl : n = 0 := by omega
      simp only [spec_chDigits.l0, if_neg c, dsum_zero]
      simpa using Ev.now s

theorem FnExactDigitSum : laws_FnExactDigitSum.Pure := by
  intro n _
  have key : Ev (fun k => laws_FnExactDigitSum.f k n) true := by
    unfold laws_FnExactDigitSum.f spec_DigitSum.f impl_DigitSum.f spec_chNumber.f impl_isNumber.f spec_l1In.f impl_in.f
    by_cases c1 : n ≥ 1
    · by_cases c2 : n ≤ 1000000
      · obtain ⟨m, rfl⟩ := Int.eq_ofNat_of_zero_le (show 0 ≤ n by omega)
        simp only [if_pos c1, decide_eq_true c2, Option.bind_some, if_true]
        unfold spec_chDigits.f bits_OnesCount.f
        have h := digits_ev 24 m 0 (by have : (2 : Nat) ^ 24 = 16777216 := by decide
                                       omega) (by omega) (by omega) (by omega)
        rw [Int.zero_add] at h
        rw [u64w m (by omega), ones_eq m (by omega)]
        refine ev_bind (ev_bind h (Ev.now (α := Int × Bool) _)) ?_
        simp only [Option.bind_some, if_true, bne_self_eq_false, Bool.false_eq_true, if_false]
        exact Ev.now _
      · simp only [if_pos c1, decide_eq_false c2, Option.bind_some, Bool.false_eq_true, if_false, if_true, bne_self_eq_false]
        exact Ev.now _
    · simp only [if_neg c1, Option.bind_some, Bool.false_eq_true, if_false, if_true, bne_self_eq_false]
      exact Ev.now _
  exact key.rounds

end Go.Proofs.Ytkhlhhpkleaphaa.Pure
