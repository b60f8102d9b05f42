/- For every n: BinaryStar of the program answers as the reference does, and shares no memory. -/
import Derived.Test.YtailgfeffoimaaaMFnExactBinaryStarx2
namespace Go.Proofs.Ytailgfeffoimaaa.Pure
open Go.RowKit Go.Proofs.Ytailgfeffoimaaa.MFnExactBinaryStar Go.Proofs.YtailgfeffoimaaaW.PrintWords Go.Proofs.YtailgfeffoimaaaW.PrintLast Go.Proofs.YtailgfeffoimaaaW.PrintMore

theorem w64 {x : Int} (h1 : -9223372036854775808 ≤ x) (h2 : x ≤ 9223372036854775807) : wrap64 x = x := by unfold wrap64; omega

theorem rd_nat (xs : List Int) (j : Nat) : rd xs (j : Int) = xs.getD j 0 := by unfold rd; rw [Int.toNat_natCast]

theorem ev_shift {α : Type} {g : Nat → Option α} {r : α} (h : Ev (fun k => g (k + 1)) r) : Ev g r := by
  obtain ⟨K, hK⟩ := h
  refine ⟨K + 1, fun k hk => ?_⟩
  obtain ⟨m, rfl⟩ : ∃ m, k = m + 1 := ⟨k - 1, by omega⟩
  exact hK m (by omega)

theorem ev_bind {α β : Type} {g : Nat → Option α} {F : Nat → α → Option β} {a : α} {r : β} (h : Ev g a) (k : Ev (fun n => F n a) r) : Ev (fun n => (g n).bind (fun x => F n x)) r := Ev.bind h k

theorem ev_some {α : Type} {g : Nat → Option α} {r : α} (h : ∀ k, g k = some r) : Ev g r := ⟨0, fun k _ => h k⟩

theorem eqIntS_same (xs : List Int) (hb : xs.length ≤ 4611686018427387904) : Ev (fun k => laws_eqIntS.f k xs xs) true := by
  have loop : ∀ (d k : Nat) (i : Int), 0 ≤ i → i ≤ xs.length → (xs.length : Int) - i = d → d < k → laws_eqIntS.l0 k xs xs i = some true := by
    intro d
    induction d with
    | zero =>
      intro k i h0 h1 hd hk
      obtain ⟨k, rfl⟩ : ∃ m, k = m + 1 := ⟨k - 1, by omega⟩
      rw [laws_eqIntS.l0, if_neg (by omega)]
    | succ d ih =>
      intro k i h0 h1 hd hk
      obtain ⟨k, rfl⟩ : ∃ m, k = m + 1 := ⟨k - 1, by omega⟩
      rw [laws_eqIntS.l0, if_pos (by omega), if_pos h0, if_pos (by omega), if_pos rfl, w64 (by omega) (by omega)]
      exact ih k (i + 1) (by omega) (by omega) (by omega) (by omega)
  refine ⟨xs.length + 1, fun k hk => ?_⟩
  show laws_eqIntS.f k xs xs = some true
  unfold laws_eqIntS.f
  rw [if_pos rfl]
  exact loop xs.length k 0 (by omega) (by omega) (by omega) (by omega)

def marked (n : Nat) (a : Int) : List Int := (List.range n).map (fun j : Nat => a + (j : Int))
theorem marked_length (n : Nat) (a : Int) : (marked n a).length = n := by simp [marked]
theorem marked_succ (n : Nat) (a : Int) : marked (n + 1) a = marked n a ++ [a + n] := by simp [marked, List.range_succ]
theorem marked_get (n : Nat) (a : Int) (j : Nat) (h : j < n) : (marked n a).getD j 0 = a + j := by simp [marked, List.getD, h]

theorem marked_step (xs : List Int) (a : Int) (i : Nat) (h : i < xs.length) : (marked i a ++ xs.drop i).set i (a + i) = marked (i + 1) a ++ xs.drop (i + 1) := by
  rw [List.set_append_right _ _ (by rw [marked_length]; exact Nat.le_refl _), marked_length, Nat.sub_self, List.drop_eq_getElem_cons h, List.set_cons_zero, marked_succ]
  simp

theorem markIntS_ev (xs : List Int) (a : Int) (h0 : 0 ≤ a) (ha : a + xs.length ≤ 4611686018427387904) : Ev (fun k => laws_markIntS.f k xs a) (a + xs.length, marked xs.length a) := by
  have loop : ∀ (d k i : Nat), i ≤ xs.length → xs.length - i = d → d < k → laws_markIntS.l0 k (marked i a ++ xs.drop i) (a + i) i = some (a + xs.length, marked xs.length a) := by
    intro d
    induction d with
    | zero =>
      intro k i h1 hd hk
      obtain ⟨k, rfl⟩ : ∃ m, k = m + 1 := ⟨k - 1, by omega⟩
      obtain rfl : i = xs.length := by omega
      have hl : (marked xs.length a ++ xs.drop xs.length).length = xs.length := by simp [marked_length]
      rw [laws_markIntS.l0, hl, if_neg (by omega)]
      simp
    | succ d ih =>
      intro k i h1 hd hk
      obtain ⟨k, rfl⟩ : ∃ m, k = m + 1 := ⟨k - 1, by omega⟩
      have hl : (marked i a ++ xs.drop i).length = xs.length := by simp [marked_length]; omega
      rw [laws_markIntS.l0, hl, if_pos (by omega), if_pos (by omega), Int.toNat_natCast, marked_step xs a i (by omega), w64 (by omega) (by omega), w64 (by omega) (by omega)]
      have e : a + (i : Int) + 1 = a + ((i + 1 : Nat) : Int) := by omega
      rw [e]
      exact ih k (i + 1) (by omega) (by omega) (by omega)
  refine ⟨xs.length + 1, fun k hk => ?_⟩
  have h := loop xs.length k 0 (by omega) (by omega) (by omega)
  simpa [marked, laws_markIntS.f] using h

theorem heldIntS_ev (n : Nat) (a : Int) (h0 : 0 ≤ a) (ha : a + n ≤ 4611686018427387904) : Ev (fun k => laws_heldIntS.f k (marked n a) a) (a + n) := by
  have loop : ∀ (d k i : Nat), i ≤ n → n - i = d → d < k → laws_heldIntS.l0 k (marked n a) (a + i) i = some (a + n) := by
    intro d
    induction d with
    | zero =>
      intro k i h1 hd hk
      obtain ⟨k, rfl⟩ : ∃ m, k = m + 1 := ⟨k - 1, by omega⟩
      obtain rfl : i = n := by omega
      rw [laws_heldIntS.l0, marked_length, if_neg (by omega)]
    | succ d ih =>
      intro k i h1 hd hk
      obtain ⟨k, rfl⟩ : ∃ m, k = m + 1 := ⟨k - 1, by omega⟩
      rw [laws_heldIntS.l0, marked_length, if_pos (by omega), if_pos (by omega), rd_nat, marked_get n a i (by omega), if_pos rfl, w64 (by omega) (by omega), w64 (by omega) (by omega)]
      have e : a + (i : Int) + 1 = a + ((i + 1 : Nat) : Int) := by omega
      rw [e]
      exact ih k (i + 1) (by omega) (by omega) (by omega)
  refine ⟨n + 1, fun k hk => ?_⟩
  have h := loop n k 0 (by omega) (by omega) (by omega)
  simpa [laws_heldIntS.f] using h

/-- The law's tail where the arguments are numbers: both sides answer (w, b): the law holds. -/
theorem tail_ (a0 : Int) (w : List Int) (b : Bool) (hw : w.length ≤ 1000000) (hs : Ev (fun k => spec_BinaryStar.f k a0) (w, b)) (hi : Ev (fun k => impl_BinaryStar.f k a0) (w, b)) : Ev (fun k => laws_FnExactBinaryStar.f k a0) true := by
  have hm := markIntS_ev w 1 (by omega) (by omega)
  have hh := heldIntS_ev w.length 1 (by omega) (by omega)
  have he := eqIntS_same w (by omega)
  have e0 : (b != b) = false := by cases b <;> rfl
  have n0 : ¬ (1 + (w.length : Int) < 0) := by omega
  have j1 : Ev (fun k => laws_FnExactBinaryStar.j1 k (marked w.length 1) (1 + w.length) false) true := by
    refine ev_shift ?_
    simp only [laws_FnExactBinaryStar.j1, Bool.false_eq_true, if_false]
    refine ev_bind hh ?_
    simp only [if_neg n0, if_true]
    exact Ev.now _
  have j0 : Ev (fun k => laws_FnExactBinaryStar.j0 k a0 w b w false) true := by
    refine ev_shift ?_
    simp only [laws_FnExactBinaryStar.j0, Bool.false_eq_true, if_false]
    refine ev_bind hm ?_
    refine ev_bind hh ?_
    simp only [if_neg n0, if_true]
    refine ev_bind hi ?_
    refine ev_bind he ?_
    simp only [if_true, e0]
    exact j1
  unfold laws_FnExactBinaryStar.f
  refine ev_bind hs ?_
  refine ev_bind hi ?_
  refine ev_bind he ?_
  simp only [if_true, e0]
  exact j0

theorem all_ : ∀ n : Fin 101, laws_FnExactBinaryStar.f 40 (n.val : Int) = some true := by decide +kernel

theorem FnExactBinaryStar : laws_FnExactBinaryStar.Pure := by
  intro n _
  by_cases h : 0 ≤ n ∧ n ≤ 100
  · obtain ⟨m, rfl⟩ := Int.eq_ofNat_of_zero_le h.1
    exact ⟨40, all_ ⟨m, by omega⟩⟩
  · have e1 : spec_shNumber.f n = some false := by
      unfold spec_shNumber.f spec_l1In.f
      by_cases c : n ≥ 1
      · rw [if_pos c]; simp; omega
      · rw [if_neg c]; rfl
    have e2 : impl_isShort.f n = some false := by
      unfold impl_isShort.f impl_in.f
      by_cases c : n ≥ 1
      · rw [if_pos c]; simp; omega
      · rw [if_neg c]; rfl
    refine (tail_ n [] false (by simp) (ev_some fun k => ?_) (ev_some fun k => ?_)).rounds
    · unfold spec_BinaryStar.f; rw [e1]; rfl
    · unfold impl_BinaryStar.f; rw [e2]; rfl

end Go.Proofs.Ytailgfeffoimaaa.Pure
