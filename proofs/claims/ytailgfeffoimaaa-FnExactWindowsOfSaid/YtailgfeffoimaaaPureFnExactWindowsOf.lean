/- For every n and k: WindowsOf of the program answers as the reference does, and shares no memory. -/
import Derived.Test.YtailgfeffoimaaaMFnExactWindowsOfx4
import Derived.Laws.BitsLemmas
namespace Go.Proofs.Ytailgfeffoimaaa.Pure
open Go.RowKit Go.Proofs.Ytailgfeffoimaaa.MFnExactWindowsOf Go.Proofs.YtailgfeffoimaaaW.PrintWords Go.Proofs.YtailgfeffoimaaaW.PrintLast Go.Proofs.YtailgfeffoimaaaW.PrintMore

theorem w64 {x : Int} (h1 : -9223372036854775808 ≤ x) (h2 : x ≤ 9223372036854775807) : wrap64 x = x := by unfold wrap64; omega

theorem rd_nat (xs : List Int) (j : Nat) : rd xs (j : Int) = xs.getD j 0 := by unfold rd; rw [Int.toNat_natCast]

theorem ev_shift {α : Type} {g : Nat → Option α} {r : α} (h : Ev (fun k => g (k + 1)) r) : Ev g r := by
  obtain ⟨K, hK⟩ := h
  refine ⟨K + 1, fun k hk => ?_⟩
  obtain ⟨m, rfl⟩ : ∃ m, k = m + 1 := ⟨k - 1, by omega⟩
  exact hK m (by omega)

theorem ev_bind {α β : Type} {g : Nat → Option α} {F : Nat → α → Option β} {a : α} {r : β} (h : Ev g a) (k : Ev (fun n => F n a) r) : Ev (fun n => (g n).bind (fun x => F n x)) r := Ev.bind h k

theorem ev_some {α : Type} {g : Nat → Option α} {r : α} (h : ∀ k, g k = some r) : Ev g r := ⟨0, fun k _ => h k⟩

theorem eqIntS_same (xs : List Int) (hb : xs.length ≤ 4611686018427387904) : Ev (fun k => laws_eqIntS.f k xs xs) true := by
  have loop : ∀ (d k : Nat) (i : Int), 0 ≤ i → i ≤ xs.length → (xs.length : Int) - i = d → d < k → laws_eqIntS.l0 k xs xs i = some true := by
    intro d
    induction d with
    | zero =>
      intro k i h0 h1 hd hk
      obtain ⟨k, rfl⟩ : ∃ m, k = m + 1 := ⟨k - 1, by omega⟩
      rw [laws_eqIntS.l0, if_neg (by omega)]
    | succ d ih =>
      intro k i h0 h1 hd hk
      obtain ⟨k, rfl⟩ : ∃ m, k = m + 1 := ⟨k - 1, by omega⟩
      rw [laws_eqIntS.l0, if_pos (by omega), if_pos h0, if_pos (by omega), if_pos rfl, w64 (by omega) (by omega)]
      exact ih k (i + 1) (by omega) (by omega) (by omega) (by omega)
  refine ⟨xs.length + 1, fun k hk => ?_⟩
  show laws_eqIntS.f k xs xs = some true
  unfold laws_eqIntS.f
  rw [if_pos rfl]
  exact loop xs.length k 0 (by omega) (by omega) (by omega) (by omega)

def marked (n : Nat) (a : Int) : List Int := (List.range n).map (fun j : Nat => a + (j : Int))
theorem marked_length (n : Nat) (a : Int) : (marked n a).length = n := by simp [marked]
theorem marked_succ (n : Nat) (a : Int) : marked (n + 1) a = marked n a ++ [a + n] := by simp [marked, List.range_succ]
theorem marked_get (n : Nat) (a : Int) (j : Nat) (h : j < n) : (marked n a).getD j 0 = a + j := by simp [marked, List.getD, h]

theorem marked_step (xs : List Int) (a : Int) (i : Nat) (h : i < xs.length) : (marked i a ++ xs.drop i).set i (a + i) = marked (i + 1) a ++ xs.drop (i + 1) := by
  rw [List.set_append_right _ _ (by rw [marked_length]; exact Nat.le_refl _), marked_length, Nat.sub_self, List.drop_eq_getElem_cons h, List.set_cons_zero, marked_succ]
  simp

theorem markIntS_ev (xs : List Int) (a : Int) (h0 : 0 ≤ a) (ha : a + xs.length ≤ 4611686018427387904) : Ev (fun k => laws_markIntS.f k xs a) (a + xs.length, marked xs.length a) := by
  have loop : ∀ (d k i : Nat), i ≤ xs.length → xs.length - i = d → d < k → laws_markIntS.l0 k (marked i a ++ xs.drop i) (a + i) i = some (a + xs.length, marked xs.length a) := by
    intro d
    induction d with
    | zero =>
      intro k i h1 hd hk
      obtain ⟨k, rfl⟩ : ∃ m, k = m + 1 := ⟨k - 1, by omega⟩
      obtain rfl : i = xs.length := by omega
      have hl : (marked xs.length a ++ xs.drop xs.length).length = xs.length := by simp [marked_length]
      rw [laws_markIntS.l0, hl, if_neg (by omega)]
      simp
    | succ d ih =>
      intro k i h1 hd hk
      obtain ⟨k, rfl⟩ : ∃ m, k = m + 1 := ⟨k - 1, by omega⟩
      have hl : (marked i a ++ xs.drop i).length = xs.length := by simp [marked_length]; omega
      rw [laws_markIntS.l0, hl, if_pos (by omega), if_pos (by omega), Int.toNat_natCast, marked_step xs a i (by omega), w64 (by omega) (by omega), w64 (by omega) (by omega)]
      have e : a + (i : Int) + 1 = a + ((i + 1 : Nat) : Int) := by omega
      rw [e]
      exact ih k (i + 1) (by omega) (by omega) (by omega)
  refine ⟨xs.length + 1, fun k hk => ?_⟩
  have h := loop xs.length k 0 (by omega) (by omega) (by omega)
  simpa [marked, laws_markIntS.f] using h

theorem heldIntS_ev (n : Nat) (a : Int) (h0 : 0 ≤ a) (ha : a + n ≤ 4611686018427387904) : Ev (fun k => laws_heldIntS.f k (marked n a) a) (a + n) := by
  have loop : ∀ (d k i : Nat), i ≤ n → n - i = d → d < k → laws_heldIntS.l0 k (marked n a) (a + i) i = some (a + n) := by
    intro d
    induction d with
    | zero =>
      intro k i h1 hd hk
      obtain ⟨k, rfl⟩ : ∃ m, k = m + 1 := ⟨k - 1, by omega⟩
      obtain rfl : i = n := by omega
      rw [laws_heldIntS.l0, marked_length, if_neg (by omega)]
    | succ d ih =>
      intro k i h1 hd hk
      obtain ⟨k, rfl⟩ : ∃ m, k = m + 1 := ⟨k - 1, by omega⟩
      rw [laws_heldIntS.l0, marked_length, if_pos (by omega), if_pos (by omega), rd_nat, marked_get n a i (by omega), if_pos rfl, w64 (by omega) (by omega), w64 (by omega) (by omega)]
      have e : a + (i : Int) + 1 = a + ((i + 1 : Nat) : Int) := by omega
      rw [e]
      exact ih k (i + 1) (by omega) (by omega) (by omega)
  refine ⟨n + 1, fun k hk => ?_⟩
  have h := loop n k 0 (by omega) (by omega) (by omega)
  simpa [laws_heldIntS.f] using h

theorem l1In_eq (a b c : Int) : spec_l1In.f a b c = some (decide (b ≤ a) && decide (a ≤ c)) := by
  unfold spec_l1In.f
  by_cases h : a ≥ b
  · rw [if_pos h]; simp [show b ≤ a from h]
  · rw [if_neg h]; simp [show ¬ b ≤ a from h]
theorem in_eq (a b c : Int) : impl_in.f a b c = some (decide (b ≤ a) && decide (a ≤ c)) := by
  unfold impl_in.f
  by_cases h : a ≥ b
  · rw [if_pos h]; simp [show b ≤ a from h]
  · rw [if_neg h]; simp [show ¬ b ≤ a from h]

/-- the table of the bit lengths of bytes -/
def len8 : ByteArray := (⟨#[0, 1, 2, 2, 3, 3, 3, 3, 4, 4, 4, 4, 4, 4, 4, 4, 5, 5, 5, 5, 5, 5, 5, 5, 5, 5, 5, 5, 5, 5, 5, 5, 6, 6, 6, 6, 6, 6, 6, 6, 6, 6, 6, 6, 6, 6, 6, 6, 6, 6, 6, 6, 6, 6, 6, 6, 6, 6, 6, 6, 6, 6, 6, 6, 7, 7, 7, 7, 7, 7, 7, 7, 7, 7, 7, 7, 7, 7, 7, 7, 7, 7, 7, 7, 7, 7, 7, 7, 7, 7, 7, 7, 7, 7, 7, 7, 7, 7, 7, 7, 7, 7, 7, 7, 7, 7, 7, 7, 7, 7, 7, 7, 7, 7, 7, 7, 7, 7, 7, 7, 7, 7, 7, 7, 7, 7, 7, 7, 8, 8, 8, 8, 8, 8, 8, 8, 8, 8, 8, 8, 8, 8, 8, 8, 8, 8, 8, 8, 8, 8, 8, 8, 8, 8, 8, 8, 8, 8, 8, 8, 8, 8, 8, 8, 8, 8, 8, 8, 8, 8, 8, 8, 8, 8, 8, 8, 8, 8, 8, 8, 8, 8, 8, 8, 8, 8, 8, 8, 8, 8, 8, 8, 8, 8, 8, 8, 8, 8, 8, 8, 8, 8, 8, 8, 8, 8, 8, 8, 8, 8, 8, 8, 8, 8, 8, 8, 8, 8, 8, 8, 8, 8, 8, 8, 8, 8, 8, 8, 8, 8, 8, 8, 8, 8, 8, 8, 8, 8, 8, 8, 8, 8, 8, 8, 8, 8, 8, 8, 8, 8, 8, 8, 8, 8, 8, 8]⟩ : ByteArray)
theorem len8_1 : ∀ i : Nat, i < 2 → 1 ≤ i → bt len8 (i : Int) = 1 := by decide +kernel
theorem len8_2 : ∀ i : Nat, i < 4 → 2 ≤ i → bt len8 (i : Int) = 2 := by decide +kernel
theorem len8_3 : ∀ i : Nat, i < 8 → 4 ≤ i → bt len8 (i : Int) = 3 := by decide +kernel
theorem len8_4 : ∀ i : Nat, i < 16 → 8 ≤ i → bt len8 (i : Int) = 4 := by decide +kernel
theorem len8_5 : ∀ i : Nat, i < 32 → 16 ≤ i → bt len8 (i : Int) = 5 := by decide +kernel
theorem len8_6 : ∀ i : Nat, i < 64 → 32 ≤ i → bt len8 (i : Int) = 6 := by decide +kernel
theorem len8_7 : ∀ i : Nat, i < 128 → 64 ≤ i → bt len8 (i : Int) = 7 := by decide +kernel
theorem len8_8 : ∀ i : Nat, i < 256 → 128 ≤ i → bt len8 (i : Int) = 8 := by decide +kernel

theorem u64_id (n : Int) (h0 : 0 ≤ n) (h1 : n ≤ 1000000) : IntKind.u64.wrap n = n := by
  simp only [IntKind.wrap, IntKind.signed, IntKind.bits, Bool.false_and, Bool.false_eq_true, if_false]
  omega

theorem len8_fact (i : Int) (h0 : 1 ≤ i) (h1 : i < 256) : ∃ t : Nat, bt len8 i = t ∧ 1 ≤ t ∧ t ≤ 8 ∧ (2 : Int) ^ (t - 1) ≤ i ∧ i < 2 ^ t := by
  obtain ⟨j, rfl⟩ := Int.eq_ofNat_of_zero_le (show 0 ≤ i by omega)
  by_cases c1 : j < 2
  · exact ⟨1, len8_1 j c1 (by omega), by decide, by decide, by simp; omega, by simp; omega⟩
  by_cases c2 : j < 4
  · exact ⟨2, len8_2 j c2 (by omega), by decide, by decide, by simp; omega, by simp; omega⟩
  by_cases c3 : j < 8
  · exact ⟨3, len8_3 j c3 (by omega), by decide, by decide, by simp; omega, by simp; omega⟩
  by_cases c4 : j < 16
  · exact ⟨4, len8_4 j c4 (by omega), by decide, by decide, by simp; omega, by simp; omega⟩
  by_cases c5 : j < 32
  · exact ⟨5, len8_5 j c5 (by omega), by decide, by decide, by simp; omega, by simp; omega⟩
  by_cases c6 : j < 64
  · exact ⟨6, len8_6 j c6 (by omega), by decide, by decide, by simp; omega, by simp; omega⟩
  by_cases c7 : j < 128
  · exact ⟨7, len8_7 j c7 (by omega), by decide, by decide, by simp; omega, by simp; omega⟩
  by_cases c8 : j < 256
  · exact ⟨8, len8_8 j c8 (by omega), by decide, by decide, by simp; omega, by simp; omega⟩
  exact absurd h1 (by omega)

set_option maxRecDepth 100000 in
/-- bits.Len of a number: the L with 2^(L-1) ≤ n < 2^L. -/
theorem len_ev (n : Int) (h0 : 1 ≤ n) (h1 : n ≤ 1000000) : ∃ L : Nat, 1 ≤ L ∧ L ≤ 20 ∧ (2 : Int) ^ (L - 1) ≤ n ∧ n < 2 ^ L ∧ Ev (fun k => bits_Len.f k (IntKind.u64.wrap n)) (L : Int) := by
  have key : ∃ L : Nat, 1 ≤ L ∧ L ≤ 20 ∧ (2 : Int) ^ (L - 1) ≤ n ∧ n < 2 ^ L ∧ Ev (fun k => bits_Len64.j0 k n 0) (L : Int) := by
    by_cases c1 : n ≥ 65536
    · have q0 : 1 ≤ n / 65536 := by omega
      have q1 : n / 65536 < 256 := by omega
      have m : n / 65536 % 256 = n / 65536 := by omega
      obtain ⟨t, ht, t1, t8, p1, p2⟩ := len8_fact (n / 65536) q0 q1
      have hn : (16 : Int) + t = ((t + 16 : Nat) : Int) := by omega
      have t4 : t ≤ 4 := by
        rcases (by omega : t = 1 ∨ t = 2 ∨ t = 3 ∨ t = 4 ∨ t = 5 ∨ t = 6 ∨ t = 7 ∨ t = 8) with rfl | rfl | rfl | rfl | rfl | rfl | rfl | rfl <;> simp at p1 <;> omega
      refine ⟨t + 16, by omega, by omega, ?_, ?_, ?_⟩
      · rcases (by omega : t = 1 ∨ t = 2 ∨ t = 3 ∨ t = 4) with rfl | rfl | rfl | rfl <;> simp at p1 ⊢ <;> omega
      · rcases (by omega : t = 1 ∨ t = 2 ∨ t = 3 ∨ t = 4) with rfl | rfl | rfl | rfl <;> simp at p2 ⊢ <;> omega
      · refine ev_shift (ev_some fun k => ?_)
        rw [bits_Len64.j0]
        rw [if_pos c1, if_neg (show ¬ n / 65536 ≥ 256 by omega), m, if_pos (by omega), if_pos q1]
        change some (wrap64 (wrap64 (0 + 16) + wrap64 (bt len8 (n / 65536)))) = _
        rw [ht, w64 (show -9223372036854775808 ≤ (0 : Int) + 16 by omega) (by omega), w64 (show -9223372036854775808 ≤ (t : Int) by omega) (by omega), w64 (by omega) (by omega)]
        exact congrArg some (by omega)
    · by_cases c2 : n ≥ 256
      · have q0 : 1 ≤ n / 256 := by omega
        have q1 : n / 256 < 256 := by omega
        have m : n / 256 % 256 = n / 256 := by omega
        obtain ⟨t, ht, t1, t8, p1, p2⟩ := len8_fact (n / 256) q0 q1
        refine ⟨t + 8, by omega, by omega, ?_, ?_, ?_⟩
        · rcases (by omega : t = 1 ∨ t = 2 ∨ t = 3 ∨ t = 4 ∨ t = 5 ∨ t = 6 ∨ t = 7 ∨ t = 8) with rfl | rfl | rfl | rfl | rfl | rfl | rfl | rfl <;> simp at p1 ⊢ <;> omega
        · rcases (by omega : t = 1 ∨ t = 2 ∨ t = 3 ∨ t = 4 ∨ t = 5 ∨ t = 6 ∨ t = 7 ∨ t = 8) with rfl | rfl | rfl | rfl | rfl | rfl | rfl | rfl <;> simp at p2 ⊢ <;> omega
        · refine ev_shift (ev_some fun k => ?_)
          rw [bits_Len64.j0]
          rw [if_neg c1, if_pos c2, m, if_pos (by omega), if_pos q1]
          change some (wrap64 (wrap64 (0 + 8) + wrap64 (bt len8 (n / 256)))) = _
          rw [ht, w64 (show -9223372036854775808 ≤ (0 : Int) + 8 by omega) (by omega), w64 (show -9223372036854775808 ≤ (t : Int) by omega) (by omega), w64 (by omega) (by omega)]
          exact congrArg some (by omega)
      · have m : n % 256 = n := by omega
        obtain ⟨t, ht, t1, t8, p1, p2⟩ := len8_fact n h0 (by omega)
        refine ⟨t, t1, by omega, p1, p2, ?_⟩
        refine ev_shift (ev_some fun k => ?_)
        rw [bits_Len64.j0]
        rw [if_neg c1, if_neg c2, m, if_pos (by omega), if_pos (by omega)]
        change some (wrap64 (0 + wrap64 (bt len8 n))) = _
        rw [ht, w64 (show -9223372036854775808 ≤ (t : Int) by omega) (by omega), w64 (by omega) (by omega)]
        exact congrArg some (by omega)
  obtain ⟨L, a, b, c, d, e⟩ := key
  refine ⟨L, a, b, c, d, ?_⟩
  rw [u64_id n (by omega) h1]
  unfold bits_Len.f bits_Len64.f
  simp only [if_neg (show ¬ n ≥ 4294967296 by omega)]
  exact ev_bind e (Ev.now _)

/-- The law's tail where the arguments are numbers: both sides answer (w, b): the law holds. -/
theorem tail_ (a0 a1 : Int) (w : List Int) (b : Bool) (hw : w.length ≤ 1000000) (hs : Ev (fun k => spec_WindowsOf.f k a0 a1) (w, b)) (hi : Ev (fun k => impl_WindowsOf.f k a0 a1) (w, b)) : Ev (fun k => laws_FnExactWindowsOf.f k a0 a1) true := by
  have hm := markIntS_ev w 1 (by omega) (by omega)
  have hh := heldIntS_ev w.length 1 (by omega) (by omega)
  have he := eqIntS_same w (by omega)
  have e0 : (b != b) = false := by cases b <;> rfl
  have n0 : ¬ (1 + (w.length : Int) < 0) := by omega
  have j1 : Ev (fun k => laws_FnExactWindowsOf.j1 k (marked w.length 1) (1 + w.length) false) true := by
    refine ev_shift ?_
    simp only [laws_FnExactWindowsOf.j1, Bool.false_eq_true, if_false]
    refine ev_bind hh ?_
    simp only [if_neg n0, if_true]
    exact Ev.now _
  have j0 : Ev (fun k => laws_FnExactWindowsOf.j0 k a0 a1 w b w false) true := by
    refine ev_shift ?_
    simp only [laws_FnExactWindowsOf.j0, Bool.false_eq_true, if_false]
    refine ev_bind hm ?_
    refine ev_bind hh ?_
    simp only [if_neg n0, if_true]
    refine ev_bind hi ?_
    refine ev_bind he ?_
    simp only [if_true, e0]
    exact j1
  unfold laws_FnExactWindowsOf.f
  refine ev_bind hs ?_
  refine ev_bind hi ?_
  refine ev_bind he ?_
  simp only [if_true, e0]
  exact j0


/-- Bit j of m. -/
def bit (m j : Nat) : Nat := m / 2 ^ j % 2
/-- The lowest bit that is 1, from e on, or e + d. -/
def low (m : Nat) : Nat → Nat → Nat
  | 0, e => e
  | d + 1, e => if bit m e = 0 then low m d (e + 1) else e
theorem low_le (m : Nat) : ∀ d e, low m d e ≤ e + d
  | 0, _ => Nat.le_refl _
  | d + 1, e => by
    rw [low]
    split
    · have := low_le m d (e + 1); omega
    · omega
theorem le_low (m : Nat) : ∀ d e, e ≤ low m d e
  | 0, _ => Nat.le_refl _
  | d + 1, e => by
    rw [low]
    split
    · have := le_low m d (e + 1); omega
    · omega
/-- The windows from bit i - 1 down: their values and lengths. -/
def wins (m w : Nat) : Nat → Nat → List (Int × Int)
  | 0, _ => []
  | _ + 1, 0 => []
  | f + 1, i + 1 => if bit m i = 0 then (0, 1) :: wins m w f i else (((m / 2 ^ low m (i - (i + 1 - w)) (i + 1 - w) % 2 ^ (i - low m (i - (i + 1 - w)) (i + 1 - w) + 1) : Nat) : Int), ((i - low m (i - (i + 1 - w)) (i + 1 - w) + 1 : Nat) : Int)) :: wins m w f (low m (i - (i + 1 - w)) (i + 1 - w))
theorem wins_length (m w : Nat) : ∀ f i, (wins m w f i).length ≤ f
  | 0, _ => by rw [wins]; simp
  | _ + 1, 0 => by rw [wins]; simp
  | f + 1, i + 1 => by
    rw [wins]
    split
    · rw [List.length_cons]; have := wins_length m w f i; omega
    · rw [List.length_cons]; have := wins_length m w f (low m (i - (i + 1 - w)) (i + 1 - w)); omega
/-- The bits of m, the lowest first. -/
def bl (m L : Nat) : List Int := (List.range L).map (fun j => (bit m j : Int))
theorem bl_succ (m L : Nat) : bl m (L + 1) = bl m L ++ [(bit m L : Int)] := by unfold bl; rw [List.range_succ, List.map_append]; rfl
theorem bl_length (m L : Nat) : (bl m L).length = L := by unfold bl; simp
theorem bl_rd (m L j : Nat) (h : j < L) : rd (bl m L) (j : Int) = (bit m j : Int) := by
  rw [rd_nat]; unfold bl; simp [List.getD_eq_getElem?_getD, h]

theorem wraps_i64 (n : Int) (h0 : -9223372036854775808 ≤ n) (h1 : n ≤ 9223372036854775807) : IntKind.i64.wrap n = n := by rw [IntKind.wrap_i64]; omega
theorem shr_nat (m j : Nat) (hj : j ≤ 40) : shr .i64 (m : Int) (j : Int) = ((m / 2 ^ j : Nat) : Int) := by
  unfold shr
  have e : min (j : Int).toNat IntKind.i64.bits = j := by rw [Int.toNat_natCast]; exact Nat.min_eq_left (by simp [IntKind.bits]; omega)
  rw [e]
  simp
theorem shl_nat (s : Nat) (hs : s ≤ 40) : shl .i64 1 (s : Int) = ((2 ^ s : Nat) : Int) := by
  unfold shl
  have e : min (s : Int).toNat IntKind.i64.bits = s := by rw [Int.toNat_natCast]; exact Nat.min_eq_left (by simp [IntKind.bits]; omega)
  have p := Nat.pow_le_pow_right (show 0 < 2 by decide) hs
  have p40 : 2 ^ 40 = 1099511627776 := by decide
  rw [e, Int.one_mul, show (2 : Int) ^ s = ((2 ^ s : Nat) : Int) by simp]
  generalize 2 ^ s = q at *
  exact wraps_i64 _ (by omega) (by omega)
theorem and_nat (x s : Nat) (hx : x ≤ 1000000) (hs : s ≤ 40) : Go.bits .and .i64 (x : Int) (((2 ^ s : Nat) : Int) - 1) = ((x % 2 ^ s : Nat) : Int) := by
  have p40 : (2 : Int) ^ 40 = 1099511627776 := by decide
  have := bits_mask .i64 40 (by decide) (fun n h0 h1 => wraps_i64 n (by omega) (by omega)) s hs (x : Int) (by omega) (by omega)
  simpa using this

theorem digits_loop (m L : Nat) (hm : m ≤ 1000000) (hL : L ≤ 20) (h2 : 2 ^ (L - 1) ≤ m) (h3 : m < 2 ^ L) : ∀ (d a : Nat), a + d = L → Ev (fun k => spec_meDigits.l0 k ((m / 2 ^ a : Nat) : Int) 2 (bl m a)) (bl m L) := by
  intro d
  induction d with
  | zero =>
    intro a ha
    obtain rfl : a = L := by omega
    refine ev_shift ?_
    rw [Nat.div_eq_of_lt h3]
    simp only [spec_meDigits.l0]
    exact Ev.now _
  | succ d ih =>
    intro a ha
    have p := Nat.pow_le_pow_right (show 0 < 2 by decide) (show a ≤ L - 1 by omega)
    have q : 0 < m / 2 ^ a := Nat.div_pos (by omega) (Nat.two_pow_pos a)
    have q2 : m / 2 ^ a ≤ m := Nat.div_le_self _ _
    have e : wrap64 (Int.tdiv ((m / 2 ^ a : Nat) : Int) 2) = ((m / 2 ^ (a + 1) : Nat) : Int) := by
      rw [Int.tdiv_eq_ediv_of_nonneg (by omega), Nat.pow_succ, ← Nat.div_div_eq_div_mul, w64 (by omega) (by omega)]
      omega
    have e2 : Int.tmod ((m / 2 ^ a : Nat) : Int) 2 = (bit m a : Int) := by
      rw [Int.tmod_eq_emod_of_nonneg (by omega)]; unfold bit; omega
    have hr := ih (a + 1) (by omega)
    rw [bl_succ] at hr
    refine ev_shift ?_
    simp only [spec_meDigits.l0, if_pos (show ((m / 2 ^ a : Nat) : Int) > 0 by omega), if_neg (show ¬ (2 : Int) = 0 by decide), if_pos (show (bl m a).length < 17592186044416 by rw [bl_length]; omega), e, e2]
    exact hr

theorem spec_inner (m L w i : Nat) (hL : L ≤ 20) (hi : i < L) (hb : bit m i ≠ 0) (a b : List Int) (ha : a.length ≤ 100) (hbl : b.length ≤ 100) (r : List Int × List Int) : ∀ (d e : Nat), e + d = i → Ev (fun k => spec_meSpans.l0 k (m : Int) (w : Int) (bl m L) (a ++ [((m / 2 ^ low m d e % 2 ^ (i - low m d e + 1) : Nat) : Int)]) (b ++ [((i - low m d e + 1 : Nat) : Int)]) ((low m d e : Int) - 1)) r → Ev (fun k => spec_meSpans.l1 k (m : Int) (w : Int) (bl m L) a b (i : Int) (e : Int)) r := by
  have stop : ∀ e : Nat, e ≤ i → bit m e ≠ 0 → Ev (fun k => spec_meSpans.l0 k (m : Int) (w : Int) (bl m L) (a ++ [((m / 2 ^ e % 2 ^ (i - e + 1) : Nat) : Int)]) (b ++ [((i - e + 1 : Nat) : Int)]) ((e : Int) - 1)) r → Ev (fun k => spec_meSpans.l1 k (m : Int) (w : Int) (bl m L) a b (i : Int) (e : Int)) r := by
    intro e he hz h
    have es : wrap64 (wrap64 ((i : Int) - e) + 1) = ((i - e + 1 : Nat) : Int) := by
      rw [w64 (show -9223372036854775808 ≤ (i : Int) - e by omega) (by omega), w64 (by omega) (by omega)]; omega
    have pz : 0 < 2 ^ (i - e + 1) := Nat.two_pow_pos _
    have et : Int.tmod (shr .i64 (m : Int) (e : Int)) (shl .i64 1 ((i - e + 1 : Nat) : Int)) = ((m / 2 ^ e % 2 ^ (i - e + 1) : Nat) : Int) := by
      rw [shr_nat m e (by omega), shl_nat _ (by omega), Int.tmod_eq_emod_of_nonneg (Int.natCast_nonneg _)]; rfl
    have ep : shl .i64 1 ((i - e + 1 : Nat) : Int) ≠ 0 := by rw [shl_nat _ (by omega)]; omega
    refine ev_shift ?_
    simp only [spec_meSpans.l1, if_pos (show (0 : Int) ≤ (e : Int) by omega), bl_length, if_pos (show (e : Int) < (L : Int) by omega), bl_rd m L e (by omega), if_neg (show ¬ (bit m e : Int) = 0 by omega), es, if_neg ep, et, if_pos (show (0 : Int) ≤ ((i - e + 1 : Nat) : Int) by omega), if_pos (show a.length < 17592186044416 by omega), if_pos (show b.length < 17592186044416 by omega), w64 (show -9223372036854775808 ≤ (e : Int) - 1 by omega) (by omega)]
    exact h
  intro d
  induction d with
  | zero =>
    intro e he h
    obtain rfl : e = i := by omega
    exact stop e (Nat.le_refl _) hb h
  | succ d ih =>
    intro e he h
    rw [low] at h
    by_cases c : bit m e = 0
    · rw [if_pos c] at h
      refine ev_shift ?_
      simp only [spec_meSpans.l1, if_pos (show (0 : Int) ≤ (e : Int) by omega), bl_length, if_pos (show (e : Int) < (L : Int) by omega), bl_rd m L e (by omega), if_pos (show (bit m e : Int) = 0 by omega), w64 (show -9223372036854775808 ≤ (e : Int) + 1 by omega) (by omega)]
      exact ih (e + 1) (by omega) h
    · rw [if_neg c] at h
      exact stop e (by omega) c h

theorem l1Most_of (w i : Nat) (hw : w ≤ 5) (hw0 : 1 ≤ w) (hi : i < 20) : spec_l1Most.f 0 (wrap64 (wrap64 ((i : Int) - w) + 1)) = some ((i + 1 - w : Nat) : Int) := by
  rw [w64 (show -9223372036854775808 ≤ (i : Int) - w by omega) (by omega), w64 (show -9223372036854775808 ≤ (i : Int) - w + 1 by omega) (by omega)]
  unfold spec_l1Most.f
  by_cases c : (0 : Int) > (i : Int) - w + 1
  · rw [if_pos c]; exact congrArg some (by omega)
  · rw [if_neg c]; exact congrArg some (by omega)

theorem spec_outer (m L w : Nat) (hL : L ≤ 20) (hw : w ≤ 5) (hw0 : 1 ≤ w) : ∀ (f i : Nat) (a b : List Int), i ≤ f → i ≤ L → a.length + i ≤ 100 → b.length + i ≤ 100 → Ev (fun k => spec_meSpans.l0 k (m : Int) (w : Int) (bl m L) a b ((i : Int) - 1)) (a ++ (wins m w f i).map Prod.fst, b ++ (wins m w f i).map Prod.snd) := by
  have done : ∀ (f : Nat) (a b : List Int), wins m w f 0 = [] → Ev (fun k => spec_meSpans.l0 k (m : Int) (w : Int) (bl m L) a b (((0 : Nat) : Int) - 1)) (a ++ (wins m w f 0).map Prod.fst, b ++ (wins m w f 0).map Prod.snd) := by
    intro f a b h
    rw [h]
    refine ev_shift ?_
    simp only [spec_meSpans.l0, if_neg (show ¬ ((0 : Nat) : Int) - 1 ≥ 0 by omega), List.map_nil, List.append_nil]
    exact Ev.now _
  intro f
  induction f with
  | zero =>
    intro i a b hf _ _ _
    obtain rfl : i = 0 := by omega
    exact done 0 a b (by rw [wins])
  | succ f ih =>
    intro i a b hf hi ha hb
    cases i with
    | zero => exact done (f + 1) a b (by rw [wins])
    | succ i =>
      have ei : ((i + 1 : Nat) : Int) - 1 = (i : Int) := by omega
      rw [ei, wins]
      refine ev_shift ?_
      simp only [spec_meSpans.l0, if_pos (show (i : Int) ≥ 0 by omega), bl_length, if_pos (show (i : Int) < (L : Int) by omega), bl_rd m L i (by omega), if_pos (show a.length < 17592186044416 by omega), if_pos (show b.length < 17592186044416 by omega), l1Most_of w i hw hw0 (by omega), Option.bind_some, w64 (show -9223372036854775808 ≤ (i : Int) - 1 by omega) (by omega)]
      by_cases c : bit m i = 0
      · rw [if_pos c]
        simp only [if_pos (show (bit m i : Int) = 0 by omega), List.map_cons]
        have := ih i (a ++ [0]) (b ++ [1]) (by omega) (by omega) (by simp only [List.length_append, List.length_singleton]; omega) (by simp only [List.length_append, List.length_singleton]; omega)
        simpa only [List.append_assoc, List.singleton_append] using this
      · rw [if_neg c]
        simp only [if_neg (show ¬ (bit m i : Int) = 0 by omega), List.map_cons]
        have h1 := low_le m (i - (i + 1 - w)) (i + 1 - w)
        refine spec_inner m L w i hL (by omega) c a b (by omega) (by omega) _ (i - (i + 1 - w)) (i + 1 - w) (by omega) ?_
        have := ih (low m (i - (i + 1 - w)) (i + 1 - w)) (a ++ [((m / 2 ^ low m (i - (i + 1 - w)) (i + 1 - w) % 2 ^ (i - low m (i - (i + 1 - w)) (i + 1 - w) + 1) : Nat) : Int)]) (b ++ [((i - low m (i - (i + 1 - w)) (i + 1 - w) + 1 : Nat) : Int)]) (by omega) (by omega) (by simp only [List.length_append, List.length_singleton]; omega) (by simp only [List.length_append, List.length_singleton]; omega)
        simpa only [List.append_assoc, List.singleton_append] using this

def mk71 (x : Int × Int) : S71 := ⟨x.1, x.2⟩
theorem impl_bit (m j : Nat) (hm : m ≤ 1000000) (hj : j ≤ 20) : Go.bits .and .i64 (shr .i64 (m : Int) (j : Int)) 1 = (bit m j : Int) := by
  have h : m / 2 ^ j ≤ m := Nat.div_le_self _ _
  have := and_nat (m / 2 ^ j) 1 (by omega) (by omega)
  rw [shr_nat m j (by omega)]
  exact this

theorem impl_inner (m w i : Nat) (hm : m ≤ 1000000) (hi : i < 20) (hb : bit m i ≠ 0) (a : List (S71)) (ha : a.length ≤ 100) (r : List (S71)) : ∀ (d e : Nat), e + d = i → Ev (fun k => impl_windows.l0 k (m : Int) (w : Int) (a ++ [mk71 (((m / 2 ^ low m d e % 2 ^ (i - low m d e + 1) : Nat) : Int), ((i - low m d e + 1 : Nat) : Int))]) ((low m d e : Int) - 1)) r → Ev (fun k => impl_windows.l1 k (m : Int) (w : Int) a (i : Int) (e : Int)) r := by
  have stop : ∀ e : Nat, e ≤ i → bit m e ≠ 0 → Ev (fun k => impl_windows.l0 k (m : Int) (w : Int) (a ++ [mk71 (((m / 2 ^ e % 2 ^ (i - e + 1) : Nat) : Int), ((i - e + 1 : Nat) : Int))]) ((e : Int) - 1)) r → Ev (fun k => impl_windows.l1 k (m : Int) (w : Int) a (i : Int) (e : Int)) r := by
    intro e he hz h
    have es : wrap64 (wrap64 ((i : Int) - e) + 1) = ((i - e + 1 : Nat) : Int) := by
      rw [w64 (show -9223372036854775808 ≤ (i : Int) - e by omega) (by omega), w64 (by omega) (by omega)]; omega
    have p := Nat.pow_le_pow_right (show 0 < 2 by decide) (show i - e + 1 ≤ 20 by omega)
    have p20 : 2 ^ 20 = 1048576 := by decide
    have hd : m / 2 ^ e ≤ m := Nat.div_le_self _ _
    have ew : wrap64 (((2 ^ (i - e + 1) : Nat) : Int) - 1) = ((2 ^ (i - e + 1) : Nat) : Int) - 1 := by
      generalize 2 ^ (i - e + 1) = q at *
      exact w64 (by omega) (by omega)
    have et : Go.bits .and .i64 (shr .i64 (m : Int) (e : Int)) (wrap64 (shl .i64 1 ((i - e + 1 : Nat) : Int) - 1)) = ((m / 2 ^ e % 2 ^ (i - e + 1) : Nat) : Int) := by
      rw [shr_nat m e (by omega), shl_nat _ (by omega), ew]
      exact and_nat _ _ (by omega) (by omega)
    refine ev_shift ?_
    simp only [impl_windows.l1, if_pos (show (0 : Int) ≤ (e : Int) by omega), impl_bit m e hm (by omega), if_neg (show ¬ (bit m e : Int) = 0 by omega), es, et, if_pos (show (0 : Int) ≤ ((i - e + 1 : Nat) : Int) by omega), if_pos (show a.length < 8796093022208 by omega), w64 (show -9223372036854775808 ≤ (e : Int) - 1 by omega) (by omega)]
    exact h
  intro d
  induction d with
  | zero =>
    intro e he h
    obtain rfl : e = i := by omega
    exact stop e (Nat.le_refl _) hb h
  | succ d ih =>
    intro e he h
    rw [low] at h
    by_cases c : bit m e = 0
    · rw [if_pos c] at h
      refine ev_shift ?_
      simp only [impl_windows.l1, if_pos (show (0 : Int) ≤ (e : Int) by omega), impl_bit m e hm (by omega), if_pos (show (bit m e : Int) = 0 by omega), w64 (show -9223372036854775808 ≤ (e : Int) + 1 by omega) (by omega)]
      exact ih (e + 1) (by omega) h
    · rw [if_neg c] at h
      exact stop e (by omega) c h

theorem mx_of (w i : Nat) (hw : w ≤ 5) (hw0 : 1 ≤ w) (hi : i < 20) : mx (wrap64 (wrap64 ((i : Int) - w) + 1)) 0 = ((i + 1 - w : Nat) : Int) := by
  rw [w64 (show -9223372036854775808 ≤ (i : Int) - w by omega) (by omega), w64 (show -9223372036854775808 ≤ (i : Int) - w + 1 by omega) (by omega)]
  unfold mx
  split <;> omega

theorem impl_outer (m w : Nat) (hm : m ≤ 1000000) (hw : w ≤ 5) (hw0 : 1 ≤ w) : ∀ (f i : Nat) (a : List (S71)), i ≤ f → i ≤ 20 → a.length + i ≤ 100 → Ev (fun k => impl_windows.l0 k (m : Int) (w : Int) a ((i : Int) - 1)) (a ++ (wins m w f i).map mk71) := by
  have done : ∀ (f : Nat) (a : List (S71)), wins m w f 0 = [] → Ev (fun k => impl_windows.l0 k (m : Int) (w : Int) a (((0 : Nat) : Int) - 1)) (a ++ (wins m w f 0).map mk71) := by
    intro f a h
    rw [h]
    refine ev_shift ?_
    simp only [impl_windows.l0, if_neg (show ¬ ((0 : Nat) : Int) - 1 ≥ 0 by omega), List.map_nil, List.append_nil]
    exact Ev.now _
  intro f
  induction f with
  | zero =>
    intro i a hf _ _
    obtain rfl : i = 0 := by omega
    exact done 0 a (by rw [wins])
  | succ f ih =>
    intro i a hf hi ha
    cases i with
    | zero => exact done (f + 1) a (by rw [wins])
    | succ i =>
      have ei : ((i + 1 : Nat) : Int) - 1 = (i : Int) := by omega
      rw [ei, wins]
      refine ev_shift ?_
      simp only [impl_windows.l0, if_pos (show (i : Int) ≥ 0 by omega), impl_bit m i hm (by omega), if_pos (show a.length < 8796093022208 by omega), mx_of w i hw hw0 (by omega), w64 (show -9223372036854775808 ≤ (i : Int) - 1 by omega) (by omega)]
      by_cases c : bit m i = 0
      · rw [if_pos c]
        simp only [if_pos (show (bit m i : Int) = 0 by omega), List.map_cons]
        have := ih i (a ++ [mk71 (0, 1)]) (by omega) (by omega) (by simp only [List.length_append, List.length_singleton]; omega)
        rw [List.append_assoc, List.singleton_append] at this
        exact this
      · rw [if_neg c]
        simp only [if_neg (show ¬ (bit m i : Int) = 0 by omega), List.map_cons]
        have h1 := low_le m (i - (i + 1 - w)) (i + 1 - w)
        refine impl_inner m w i hm (by omega) c a (by omega) _ (i - (i + 1 - w)) (i + 1 - w) (by omega) ?_
        have := ih (low m (i - (i + 1 - w)) (i + 1 - w)) (a ++ [mk71 (((m / 2 ^ low m (i - (i + 1 - w)) (i + 1 - w) % 2 ^ (i - low m (i - (i + 1 - w)) (i + 1 - w) + 1) : Nat) : Int), ((i - low m (i - (i + 1 - w)) (i + 1 - w) + 1 : Nat) : Int))]) (by omega) (by omega) (by simp only [List.length_append, List.length_singleton]; omega)
        simpa only [List.append_assoc, List.singleton_append] using this

def pos (ws : List Int) : Nat → Int → List Int
  | 0, _ => []
  | d + 1, k => if rd ws k > 0 then rd ws k :: pos ws d (k + 1) else pos ws d (k + 1)
theorem pos_length (ws : List Int) : ∀ d k, (pos ws d k).length ≤ d
  | 0, _ => by rw [pos]; simp
  | d + 1, k => by
    rw [pos]
    have := pos_length ws d (k + 1)
    split
    · rw [List.length_cons]; omega
    · omega
theorem spec_pos (ws : List Int) (hl : ws.length ≤ 100) : ∀ (d : Nat) (i : Int) (acc : List Int), 0 ≤ i → i + d = ws.length → acc.length + d ≤ 1000 → Ev (fun k => spec_WindowsOf.l0 k acc ws ws.length i) (acc ++ pos ws d i, true) := by
  intro d
  induction d with
  | zero =>
    intro i acc h0 hd _
    refine ev_shift ?_
    simp only [spec_WindowsOf.l0, if_neg (show ¬ i < (ws.length : Int) by omega), pos, List.append_nil]
    exact Ev.now _
  | succ d ih =>
    intro i acc h0 hd ha
    refine ev_shift ?_
    simp only [spec_WindowsOf.l0, if_pos (show i < (ws.length : Int) by omega), if_pos h0, if_pos (show acc.length < 17592186044416 by omega), w64 (show -9223372036854775808 ≤ i + 1 by omega) (by omega), pos]
    by_cases c : rd ws i > 0
    · simp only [if_pos c]
      have := ih (i + 1) (acc ++ [rd ws i]) (by omega) (by omega) (by simp only [List.length_append, List.length_singleton]; omega)
      simpa only [List.append_assoc, List.singleton_append] using this
    · simp only [if_neg c]
      exact ih (i + 1) acc (by omega) (by omega) (by omega)
theorem rd_map (xs : List (S71)) (i : Int) : (rd_T71 xs i).f0 = rd (xs.map S71.f0) i := by
  unfold rd rd_T71
  simp only [List.getD_eq_getElem?_getD, List.getElem?_map]
  cases xs[i.toNat]? <;> rfl
theorem impl_pos (xs : List (S71)) (ws : List Int) (hx : xs.map S71.f0 = ws) (hl : ws.length ≤ 100) : ∀ (d : Nat) (i : Int) (acc : List Int), 0 ≤ i → i + d = ws.length → acc.length + d ≤ 1000 → Ev (fun k => impl_WindowsOf.l0 k acc xs xs.length i) (acc ++ pos ws d i, true) := by
  have hlen : xs.length = ws.length := by rw [← hx, List.length_map]
  have hrd : ∀ i, (rd_T71 xs i).f0 = rd ws i := fun i => by rw [rd_map, hx]
  intro d
  induction d with
  | zero =>
    intro i acc h0 hd _
    refine ev_shift ?_
    simp only [impl_WindowsOf.l0, if_neg (show ¬ i < (xs.length : Int) by omega), pos, List.append_nil]
    exact Ev.now _
  | succ d ih =>
    intro i acc h0 hd ha
    refine ev_shift ?_
    simp only [impl_WindowsOf.l0, hrd, if_pos (show i < (xs.length : Int) by omega), if_pos h0, if_pos (show acc.length < 17592186044416 by omega), w64 (show -9223372036854775808 ≤ i + 1 by omega) (by omega), pos]
    by_cases c : rd ws i > 0
    · simp only [if_pos c]
      have := ih (i + 1) (acc ++ [rd ws i]) (by omega) (by omega) (by simp only [List.length_append, List.length_singleton]; omega)
      simpa only [List.append_assoc, List.singleton_append] using this
    · simp only [if_neg c]
      exact ih (i + 1) acc (by omega) (by omega) (by omega)

theorem num_eq (n : Int) : spec_chNumber.f n = some (decide (1 ≤ n) && decide (n ≤ 1000000)) := by unfold spec_chNumber.f; rw [l1In_eq]; rfl
theorem isNum_eq (n : Int) : impl_isNumber.f n = some (decide (1 ≤ n) && decide (n ≤ 1000000)) := by unfold impl_isNumber.f; rw [in_eq]; rfl
theorem wide_eq (n : Int) : spec_meWide.f n = some (decide (1 ≤ n) && decide (n ≤ 5)) := by unfold spec_meWide.f; rw [l1In_eq]; rfl

theorem FnExactWindowsOf : laws_FnExactWindowsOf.Pure := by
  intro n w _ _
  by_cases c1 : 1 ≤ n ∧ n ≤ 1000000
  · by_cases c2 : 1 ≤ w ∧ w ≤ 5
    · obtain ⟨m, rfl⟩ := Int.eq_ofNat_of_zero_le (show 0 ≤ n by omega)
      obtain ⟨v, rfl⟩ := Int.eq_ofNat_of_zero_le (show 0 ≤ w by omega)
      obtain ⟨L, L1, L20, p1, p2, hlen⟩ := len_ev (m : Int) c1.1 c1.2
      have q1 : 2 ^ (L - 1) ≤ m := by exact_mod_cast p1
      have q2 : m < 2 ^ L := by exact_mod_cast p2
      have hdig := digits_loop m L (by omega) L20 q1 q2 L 0 (by omega)
      have e0 : m / 2 ^ 0 = m := by simp
      rw [e0, show bl m 0 = [] from rfl] at hdig
      have hs := spec_outer m L v L20 (by omega) (by omega) L L [] [] (Nat.le_refl _) (Nat.le_refl _) (by simp; omega) (by simp; omega)
      have hi := impl_outer m v (by omega) (by omega) (by omega) L L [] (Nat.le_refl _) L20 (by simp; omega)
      rw [List.nil_append] at hi
      simp only [List.nil_append] at hs
      have hwl := wins_length m v L L
      obtain ⟨ws, hws⟩ : ∃ ws, ws = (wins m v L L).map Prod.fst := ⟨_, rfl⟩
      have hl : ws.length ≤ 20 := by rw [hws, List.length_map]; omega
      have hpl := pos_length ws ws.length 0
      refine (tail_ (m : Int) (v : Int) (pos ws ws.length 0) true (by omega) ?_ ?_).rounds
      · unfold spec_WindowsOf.f
        simp only [num_eq, wide_eq, Option.bind_some, decide_eq_true c1.1, decide_eq_true c1.2, decide_eq_true c2.1, decide_eq_true c2.2, Bool.and_self, Bool.not_true, if_true]
        refine ev_shift ?_
        simp only [spec_WindowsOf.j0, Bool.false_eq_true, if_false]
        unfold spec_meSpans.f spec_meDigits.f
        simp only [Option.bind_assoc]
        refine ev_bind hdig ?_
        rw [bl_length, w64 (by omega) (by omega)]
        refine ev_bind hs ?_
        simp only [← hws]
        have := spec_pos ws (by omega) ws.length 0 [] (by omega) (by omega) (by simp; omega)
        rwa [List.nil_append] at this
      · unfold impl_WindowsOf.f impl_windowOk.f
        simp only [isNum_eq, in_eq, Option.bind_some, decide_eq_true c1.1, decide_eq_true c1.2, decide_eq_true c2.1, decide_eq_true c2.2, Bool.and_self, if_true]
        unfold impl_windows.f
        simp only [Option.bind_assoc]
        refine ev_bind hlen ?_
        rw [w64 (by omega) (by omega)]
        refine ev_bind hi ?_
        have hx : ((wins m v L L).map mk71).map S71.f0 = ws := by rw [List.map_map, hws]; rfl
        have := impl_pos ((wins m v L L).map mk71) ws hx (by omega) ws.length 0 [] (by omega) (by omega) (by simp; omega)
        rwa [List.nil_append] at this
    · have e : (decide (1 ≤ w) && decide (w ≤ 5)) = false := by rw [Bool.and_eq_false_iff, decide_eq_false_iff_not, decide_eq_false_iff_not]; omega
      refine (tail_ n w [] false (by simp) ?_ ?_).rounds
      · unfold spec_WindowsOf.f
        simp only [num_eq, wide_eq, Option.bind_some, decide_eq_true c1.1, decide_eq_true c1.2, Bool.and_self, e, Bool.not_false, if_true]
        refine ev_shift ?_
        simp only [spec_WindowsOf.j0, if_true]
        exact Ev.now _
      · unfold impl_WindowsOf.f impl_windowOk.f
        simp only [isNum_eq, in_eq, Option.bind_some, decide_eq_true c1.1, decide_eq_true c1.2, Bool.and_self, e, Bool.false_eq_true, if_false, if_true]
        exact Ev.now _
  · have e : (decide (1 ≤ n) && decide (n ≤ 1000000)) = false := by rw [Bool.and_eq_false_iff, decide_eq_false_iff_not, decide_eq_false_iff_not]; omega
    refine (tail_ n w [] false (by simp) ?_ ?_).rounds
    · unfold spec_WindowsOf.f
      simp only [num_eq, Option.bind_some, e, Bool.false_eq_true, if_false]
      refine ev_shift ?_
      simp only [spec_WindowsOf.j0, if_true]
      exact Ev.now _
    · unfold impl_WindowsOf.f impl_windowOk.f
      simp only [isNum_eq, Option.bind_some, e, Bool.false_eq_true, if_false]
      exact Ev.now _

end Go.Proofs.Ytailgfeffoimaaa.Pure
