/- For every n and length: LiveStars of the program answers as the reference does, and shares no memory. -/
import Derived.Test.YtkhlhhpkleaphaaMFnExactLiveStarsx3
namespace Go.Proofs.Ytkhlhhpkleaphaa.Pure
open Go.RowKit Go.Proofs.Ytkhlhhpkleaphaa.MFnExactLiveStars Go.Proofs.YtkhlhhpkleaphaaW.PrintWords Go.Proofs.YtkhlhhpkleaphaaW.PrintLast Go.Proofs.YtkhlhhpkleaphaaW.PrintMore
set_option linter.unusedVariables false
set_option linter.unusedSimpArgs false
theorem w64 {x : Int} (h1 : -9223372036854775808 ≤ x) (h2 : x ≤ 9223372036854775807) : wrap64 x = x := by unfold wrap64; omega

theorem rd_nat (xs : List Int) (j : Nat) : rd xs (j : Int) = xs.getD j 0 := by unfold rd; rw [Int.toNat_natCast]

theorem ev_shift {α : Type} {g : Nat → Option α} {r : α} (h : Ev (fun k => g (k + 1)) r) : Ev g r := by
  obtain ⟨K, hK⟩ := h
  refine ⟨K + 1, fun k hk => ?_⟩
  obtain ⟨m, rfl⟩ : ∃ m, k = m + 1 := ⟨k - 1, by omega⟩
  exact hK m (by omega)

theorem ev_bind {α β : Type} {g : Nat → Option α} {F : Nat → α → Option β} {a : α} {r : β} (h : Ev g a) (k : Ev (fun n => F n a) r) : Ev (fun n => (g n).bind (fun x => F n x)) r := Ev.bind h k

theorem ev_some {α : Type} {g : Nat → Option α} {r : α} (h : ∀ k, g k = some r) : Ev g r := ⟨0, fun k _ => h k⟩

theorem eqIntS_same (xs : List Int) (hb : xs.length ≤ 4611686018427387904) : Ev (fun k => laws_eqIntS.f k xs xs) true := by
  have loop : ∀ (d k : Nat) (i : Int), 0 ≤ i → i ≤ xs.length → (xs.length : Int) - i = d → d < k → laws_eqIntS.l0 k xs xs i = some true := by
    intro d
    induction d with
    | zero =>
      intro k i h0 h1 hd hk
      obtain ⟨k, rfl⟩ : ∃ m, k = m + 1 := ⟨k - 1, by omega⟩
      rw [laws_eqIntS.l0, if_neg (by omega)]
    | succ d ih =>
      intro k i h0 h1 hd hk
      obtain ⟨k, rfl⟩ : ∃ m, k = m + 1 := ⟨k - 1, by omega⟩
      rw [laws_eqIntS.l0, if_pos (by omega), if_pos h0, if_pos (by omega), if_pos rfl, w64 (by omega) (by omega)]
      exact ih k (i + 1) (by omega) (by omega) (by omega) (by omega)
  refine ⟨xs.length + 1, fun k hk => ?_⟩
  show laws_eqIntS.f k xs xs = some true
  unfold laws_eqIntS.f
  rw [if_pos rfl]
  exact loop xs.length k 0 (by omega) (by omega) (by omega) (by omega)

def marked (n : Nat) (a : Int) : List Int := (List.range n).map (fun j : Nat => a + (j : Int))
theorem marked_length (n : Nat) (a : Int) : (marked n a).length = n := by simp [marked]
theorem marked_succ (n : Nat) (a : Int) : marked (n + 1) a = marked n a ++ [a + n] := by simp [marked, List.range_succ]
theorem marked_get (n : Nat) (a : Int) (j : Nat) (h : j < n) : (marked n a).getD j 0 = a + j := by simp [marked, List.getD, h]

theorem marked_step (xs : List Int) (a : Int) (i : Nat) (h : i < xs.length) : (marked i a ++ xs.drop i).set i (a + i) = marked (i + 1) a ++ xs.drop (i + 1) := by
  rw [List.set_append_right _ _ (by rw [marked_length]; exact Nat.le_refl _), marked_length, Nat.sub_self, List.drop_eq_getElem_cons h, List.set_cons_zero, marked_succ]
  simp

theorem markIntS_ev (xs : List Int) (a : Int) (h0 : 0 ≤ a) (ha : a + xs.length ≤ 4611686018427387904) : Ev (fun k => laws_markIntS.f k xs a) (a + xs.length, marked xs.length a) := by
  have loop : ∀ (d k i : Nat), i ≤ xs.length → xs.length - i = d → d < k → laws_markIntS.l0 k (marked i a ++ xs.drop i) (a + i) i = some (a + xs.length, marked xs.length a) := by
    intro d
    induction d with
    | zero =>
      intro k i h1 hd hk
      obtain ⟨k, rfl⟩ : ∃ m, k = m + 1 := ⟨k - 1, by omega⟩
      obtain rfl : i = xs.length := by omega
      have hl : (marked xs.length a ++ xs.drop xs.length).length = xs.length := by simp [marked_length]
      rw [laws_markIntS.l0, hl, if_neg (by omega)]
      simp
    | succ d ih =>
      intro k i h1 hd hk
      obtain ⟨k, rfl⟩ : ∃ m, k = m + 1 := ⟨k - 1, by omega⟩
      have hl : (marked i a ++ xs.drop i).length = xs.length := by simp [marked_length]; omega
      rw [laws_markIntS.l0, hl, if_pos (by omega), if_pos (by omega), Int.toNat_natCast, marked_step xs a i (by omega), w64 (by omega) (by omega), w64 (by omega) (by omega)]
      have e : a + (i : Int) + 1 = a + ((i + 1 : Nat) : Int) := by omega
      rw [e]
      exact ih k (i + 1) (by omega) (by omega) (by omega)
  refine ⟨xs.length + 1, fun k hk => ?_⟩
  have h := loop xs.length k 0 (by omega) (by omega) (by omega)
  simpa [marked, laws_markIntS.f] using h

theorem heldIntS_ev (n : Nat) (a : Int) (h0 : 0 ≤ a) (ha : a + n ≤ 4611686018427387904) : Ev (fun k => laws_heldIntS.f k (marked n a) a) (a + n) := by
  have loop : ∀ (d k i : Nat), i ≤ n → n - i = d → d < k → laws_heldIntS.l0 k (marked n a) (a + i) i = some (a + n) := by
    intro d
    induction d with
    | zero =>
      intro k i h1 hd hk
      obtain ⟨k, rfl⟩ : ∃ m, k = m + 1 := ⟨k - 1, by omega⟩
      obtain rfl : i = n := by omega
      rw [laws_heldIntS.l0, marked_length, if_neg (by omega)]
    | succ d ih =>
      intro k i h1 hd hk
      obtain ⟨k, rfl⟩ : ∃ m, k = m + 1 := ⟨k - 1, by omega⟩
      rw [laws_heldIntS.l0, marked_length, if_pos (by omega), if_pos (by omega), rd_nat, marked_get n a i (by omega), if_pos rfl, w64 (by omega) (by omega), w64 (by omega) (by omega)]
      have e : a + (i : Int) + 1 = a + ((i + 1 : Nat) : Int) := by omega
      rw [e]
      exact ih k (i + 1) (by omega) (by omega) (by omega)
  refine ⟨n + 1, fun k hk => ?_⟩
  have h := loop n k 0 (by omega) (by omega) (by omega)
  simpa [laws_heldIntS.f] using h

theorem own_if (x : List Int) : spec_l1Own.f x = if x.length < 17592186044416 then some x else none := by
  unfold spec_l1Own.f
  simp only [Option.bind_some, List.length_nil, Nat.zero_add, List.nil_append]
theorem same_live : ∀ (k : Nat), (∀ n len now cs, impl_live.f k n len now cs = spec_shLive.f k now n len cs) ∧ (∀ n len now cs x y b, impl_live.j0 k n len now cs x y b = spec_shLive.j0 k now n len cs x y b) ∧ (∀ n len now cs x p q i, impl_live.l0 k n len now cs x p q i = spec_shLive.l0 k now n len cs x p q i)
  | 0 => ⟨fun _ _ _ _ => rfl, fun _ _ _ _ _ _ _ => rfl, fun _ _ _ _ _ _ _ _ => rfl⟩
  | k + 1 => by
    obtain ⟨h1, h2, h3⟩ := same_live k
    refine ⟨fun n len now cs => ?_, fun n len now cs x y b => ?_, fun n len now cs x p q i => ?_⟩
    · rw [impl_live.f, spec_shLive.f]
      simp only [h2]
    · rw [impl_live.j0, spec_shLive.j0]
      simp only [h3]
    · rw [impl_live.l0, spec_shLive.l0]
      simp only [h1, h3, own_if, slices_Clip_int_int.f, Option.bind_some]
      by_cases c : now.length < 17592186044416
      · simp only [if_pos c, Option.bind_some]
      · simp only [if_neg c, Option.bind_none]
theorem live_ends (n : Int) (L : Nat) (hL : L ≤ 8) : ∀ (d : Nat) (now cs : List Int), d ≤ L → now.length = L - d + 1 → cs.length = L + 1 → ∃ r : List Int, r.length = L + 1 ∧ Ev (fun k => impl_live.f k n L now cs) r := by
  intro d
  induction d with
  | zero =>
    intro now cs hd hn hc
    have jump : ∀ y b, ∃ r : List Int, r.length = L + 1 ∧ Ev (fun k => impl_live.j0 k n L now cs L y b) r := by
      intro y b
      cases b with
      | true =>
        refine ⟨cs, hc, ev_shift ?_⟩
        simp only [impl_live.j0, if_true]
        exact Ev.now _
      | false =>
        refine ⟨cs.set L (wrap64 (rd cs L + 1)), by simp [hc], ev_shift ?_⟩
        simp only [impl_live.j0, Bool.false_eq_true, if_false, if_pos (show (0 : Int) ≤ (L : Int) by omega), if_pos (show (L : Int) < (cs.length : Int) by omega), Option.bind_some, if_true, Int.toNat_natCast]
        exact Ev.now _
    have e1 : wrap64 ((now.length : Int) - 1) = L := by rw [w64 (by omega) (by omega)]; omega
    have e2 : wrap64 ((L : Int) - (L : Int)) = 0 := by rw [w64 (by omega) (by omega)]; omega
    by_cases c : rd now (L : Int) > n
    · obtain ⟨r, hr, hv⟩ := jump (rd now L) true
      refine ⟨r, hr, ev_shift ?_⟩
      simp only [impl_live.f, e1, if_pos (show (0 : Int) ≤ (L : Int) by omega), if_pos (show (L : Int) < (now.length : Int) by omega), if_pos c]
      exact hv
    · obtain ⟨r, hr, hv⟩ := jump (rd now L) (decide (shl .i64 (rd now L) 0 < n))
      refine ⟨r, hr, ev_shift ?_⟩
      simp only [impl_live.f, e1, e2, if_pos (show (0 : Int) ≤ (L : Int) by omega), if_pos (show (L : Int) < (now.length : Int) by omega), if_neg c, if_pos (show (0 : Int) ≤ 0 by omega)]
      exact hv
  | succ d ih =>
    intro now cs hd hn hc
    have loop : ∀ (y : Int) (e : Nat) (i : Nat) (cs : List Int), i + e = now.length → cs.length = L + 1 → ∃ r : List Int, r.length = L + 1 ∧ Ev (fun k => impl_live.l0 k n L now cs y now now.length i) r := by
      intro y e
      induction e with
      | zero =>
        intro i cs he hc
        refine ⟨cs, hc, ev_shift ?_⟩
        simp only [impl_live.l0, if_neg (show ¬ (i : Int) < (now.length : Int) by omega)]
        exact Ev.now _
      | succ e ih2 =>
        intro i cs he hc
        obtain ⟨r1, hr1, hv1⟩ := ih (now ++ [wrap64 (y + rd now (i : Int))]) cs (by omega) (by rw [List.length_append, List.length_singleton]; omega) hc
        obtain ⟨r2, hr2, hv2⟩ := ih2 (i + 1) r1 (by omega) hr1
        refine ⟨r2, hr2, ev_shift ?_⟩
        simp only [impl_live.l0, if_pos (show (i : Int) < (now.length : Int) by omega), if_pos (show (0 : Int) ≤ (i : Int) by omega), slices_Clip_int_int.f, Option.bind_some, if_pos (show now.length < 17592186044416 by omega), w64 (show -9223372036854775808 ≤ (i : Int) + 1 by omega) (by omega)]
        exact ev_bind hv1 hv2
    have jump : ∀ y b, ∃ r : List Int, r.length = L + 1 ∧ Ev (fun k => impl_live.j0 k n L now cs ((L - (d + 1) : Nat) : Int) y b) r := by
      intro y b
      cases b with
      | true =>
        refine ⟨cs, hc, ev_shift ?_⟩
        simp only [impl_live.j0, if_true]
        exact Ev.now _
      | false =>
        obtain ⟨r, hr, hv⟩ := loop y now.length 0 (cs.set (L - (d + 1)) (wrap64 (rd cs ((L - (d + 1) : Nat) : Int) + 1))) (by omega) (by simp [hc])
        refine ⟨r, hr, ev_shift ?_⟩
        simp only [impl_live.j0, Bool.false_eq_true, if_false, if_pos (show (0 : Int) ≤ ((L - (d + 1) : Nat) : Int) by omega), if_pos (show ((L - (d + 1) : Nat) : Int) < (cs.length : Int) by omega), Option.bind_some, if_neg (show ¬ ((L - (d + 1) : Nat) : Int) = (L : Int) by omega), Int.toNat_natCast]
        exact hv
    have e1 : wrap64 ((now.length : Int) - 1) = ((L - (d + 1) : Nat) : Int) := by rw [w64 (by omega) (by omega)]; omega
    have e2 : wrap64 ((L : Int) - ((L - (d + 1) : Nat) : Int)) = (d : Int) + 1 := by rw [w64 (by omega) (by omega)]; omega
    by_cases c : rd now ((L - (d + 1) : Nat) : Int) > n
    · obtain ⟨r, hr, hv⟩ := jump (rd now ((L - (d + 1) : Nat) : Int)) true
      refine ⟨r, hr, ev_shift ?_⟩
      simp only [impl_live.f, e1, if_pos (show (0 : Int) ≤ ((L - (d + 1) : Nat) : Int) by omega), if_pos (show ((L - (d + 1) : Nat) : Int) < (now.length : Int) by omega), if_pos c]
      exact hv
    · obtain ⟨r, hr, hv⟩ := jump (rd now ((L - (d + 1) : Nat) : Int)) (decide (shl .i64 (rd now ((L - (d + 1) : Nat) : Int)) ((d : Int) + 1) < n))
      refine ⟨r, hr, ev_shift ?_⟩
      simp only [impl_live.f, e1, e2, if_pos (show (0 : Int) ≤ ((L - (d + 1) : Nat) : Int) by omega), if_pos (show ((L - (d + 1) : Nat) : Int) < (now.length : Int) by omega), if_neg c, if_pos (show (0 : Int) ≤ (d : Int) + 1 by omega)]
      exact hv
theorem same_f (k : Nat) (n b : Int) : spec_LiveStars.f k n b = impl_LiveStars.f k n b := by
  have e1 : spec_shNumber.f n = impl_isShort.f n := rfl
  have e2 : spec_shCounted.f b = impl_lengthOk.f b := rfl
  unfold spec_LiveStars.f impl_LiveStars.f
  simp only [e1, e2, (same_live k).1]
theorem impl_ends (n b : Int) : ∃ (w : List Int) (ok : Bool), w.length ≤ 1000000 ∧ Ev (fun k => impl_LiveStars.f k n b) (w, ok) := by
  unfold impl_LiveStars.f impl_isShort.f impl_lengthOk.f impl_in.f
  by_cases h1 : n ≥ 1 ∧ n ≤ 100
  · by_cases h2 : b ≥ 0 ∧ b ≤ 8
    · obtain ⟨L, rfl⟩ := Int.eq_ofNat_of_zero_le h2.1
      have e1 : wrap64 ((L : Int) + 1) = ((L + 1 : Nat) : Int) := by rw [w64 (by omega) (by omega)]; omega
      obtain ⟨r, hr, hv⟩ := live_ends n L (by omega) L [1] (List.replicate (L + 1) 0) (by omega) (by simp) (by simp)
      refine ⟨r, true, by omega, ?_⟩
      simp only [if_pos h1.1, if_pos h2.1, decide_eq_true h1.2, decide_eq_true h2.2, Option.bind_some, if_true, e1, Int.toNat_natCast, if_pos (show (0 : Int) ≤ ((L + 1 : Nat) : Int) by omega), if_pos (show L + 1 ≤ 35184372088832 by omega)]
      exact ev_bind hv (Ev.now _)
    · refine ⟨[], false, by simp, ?_⟩
      simp only [if_pos h1.1, decide_eq_true h1.2, Option.bind_some, if_true]
      by_cases h3 : b ≥ 0
      · simp only [if_pos h3, decide_eq_false (show ¬ b ≤ 8 by omega), Option.bind_some, Bool.false_eq_true, if_false]
        exact Ev.now _
      · simp only [if_neg h3, Option.bind_some, Bool.false_eq_true, if_false]
        exact Ev.now _
  · refine ⟨[], false, by simp, ?_⟩
    by_cases h3 : n ≥ 1
    · simp only [if_pos h3, decide_eq_false (show ¬ n ≤ 100 by omega), Option.bind_some, Bool.false_eq_true, if_false]
      exact Ev.now _
    · simp only [if_neg h3, Option.bind_some, Bool.false_eq_true, if_false]
      exact Ev.now _
/-- The law's tail where the arguments are numbers: both sides answer (w, b): the law holds. -/
theorem tail_ (a0 a1 : Int) (w : List Int) (b : Bool) (hw : w.length ≤ 1000000) (hs : Ev (fun k => spec_LiveStars.f k a0 a1) (w, b)) (hi : Ev (fun k => impl_LiveStars.f k a0 a1) (w, b)) : Ev (fun k => laws_FnExactLiveStars.f k a0 a1) true := by
  have hm := markIntS_ev w 1 (by omega) (by omega)
  have hh := heldIntS_ev w.length 1 (by omega) (by omega)
  have he := eqIntS_same w (by omega)
  have e0 : (b != b) = false := by cases b <;> rfl
  have n0 : ¬ (1 + (w.length : Int) < 0) := by omega
  have j1 : Ev (fun k => laws_FnExactLiveStars.j1 k (marked w.length 1) (1 + w.length) false) true := by
    refine ev_shift ?_
    simp only [laws_FnExactLiveStars.j1, Bool.false_eq_true, if_false]
    refine ev_bind hh ?_
    simp only [if_neg n0, if_true]
    exact Ev.now _
  have j0 : Ev (fun k => laws_FnExactLiveStars.j0 k a0 a1 w b w false) true := by
    refine ev_shift ?_
    simp only [laws_FnExactLiveStars.j0, Bool.false_eq_true, if_false]
    refine ev_bind hm ?_
    refine ev_bind hh ?_
    simp only [if_neg n0, if_true]
    refine ev_bind hi ?_
    refine ev_bind he ?_
    simp only [if_true, e0]
    exact j1
  unfold laws_FnExactLiveStars.f
  refine ev_bind hs ?_
  refine ev_bind hi ?_
  refine ev_bind he ?_
  simp only [if_true, e0]
  exact j0

theorem FnExactLiveStars : laws_FnExactLiveStars.Pure := by
  intro n b _ _
  obtain ⟨w, ok, hw, hi⟩ := impl_ends n b
  exact (tail_ n b w ok hw (Ev.congr (fun k => same_f k n b) hi) hi).rounds

end Go.Proofs.Ytkhlhhpkleaphaa.Pure
