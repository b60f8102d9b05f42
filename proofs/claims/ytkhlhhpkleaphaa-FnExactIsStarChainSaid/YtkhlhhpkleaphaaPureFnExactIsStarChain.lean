/- For every list: IsStarChain of the program answers as the reference does. -/
import Derived.Test.YtkhlhhpkleaphaaMFnExactIsStarChainx5
namespace Go.Proofs.Ytkhlhhpkleaphaa.Pure
open Go.RowKit Go.Proofs.Ytkhlhhpkleaphaa.MFnExactIsStarChain Go.Proofs.YtkhlhhpkleaphaaW.PrintWords Go.Proofs.YtkhlhhpkleaphaaW.PrintLast Go.Proofs.YtkhlhhpkleaphaaW.PrintMore

theorem w64 {x : Int} (h1 : -9223372036854775808 ≤ x) (h2 : x ≤ 9223372036854775807) : wrap64 x = x := by unfold wrap64; omega

theorem rd_nat (xs : List Int) (j : Nat) : rd xs (j : Int) = xs.getD j 0 := by unfold rd; rw [Int.toNat_natCast]

theorem ev_shift {α : Type} {g : Nat → Option α} {r : α} (h : Ev (fun k => g (k + 1)) r) : Ev g r := by
  obtain ⟨K, hK⟩ := h
  refine ⟨K + 1, fun k hk => ?_⟩
  obtain ⟨m, rfl⟩ : ∃ m, k = m + 1 := ⟨k - 1, by omega⟩
  exact hK m (by omega)

theorem ev_bind {α β : Type} {g : Nat → Option α} {F : Nat → α → Option β} {a : α} {r : β} (h : Ev g a) (k : Ev (fun n => F n a) r) : Ev (fun n => (g n).bind (fun x => F n x)) r := Ev.bind h k

theorem ev_some {α : Type} {g : Nat → Option α} {r : α} (h : ∀ k, g k = some r) : Ev g r := ⟨0, fun k _ => h k⟩

theorem eqIntS_same (xs : List Int) (hb : xs.length ≤ 4611686018427387904) : Ev (fun k => laws_eqIntS.f k xs xs) true := by
  have loop : ∀ (d k : Nat) (i : Int), 0 ≤ i → i ≤ xs.length → (xs.length : Int) - i = d → d < k → laws_eqIntS.l0 k xs xs i = some true := by
    intro d
    induction d with
    | zero =>
      intro k i h0 h1 hd hk
      obtain ⟨k, rfl⟩ : ∃ m, k = m + 1 := ⟨k - 1, by omega⟩
      rw [laws_eqIntS.l0, if_neg (by omega)]
    | succ d ih =>
      intro k i h0 h1 hd hk
      obtain ⟨k, rfl⟩ : ∃ m, k = m + 1 := ⟨k - 1, by omega⟩
      rw [laws_eqIntS.l0, if_pos (by omega), if_pos h0, if_pos (by omega), if_pos rfl, w64 (by omega) (by omega)]
      exact ih k (i + 1) (by omega) (by omega) (by omega) (by omega)
  refine ⟨xs.length + 1, fun k hk => ?_⟩
  show laws_eqIntS.f k xs xs = some true
  unfold laws_eqIntS.f
  rw [if_pos rfl]
  exact loop xs.length k 0 (by omega) (by omega) (by omega) (by omega)

theorem toIntS_step (xs : List Int) (i : Nat) (h : i < xs.length) : (xs.take i ++ List.replicate (xs.length - i) 0).set i (xs.getD i 0) = xs.take (i + 1) ++ List.replicate (xs.length - (i + 1)) 0 := by
  have hl : (xs.take i).length = i := by simp; omega
  rw [List.set_append_right _ _ (by omega), hl, Nat.sub_self]
  obtain ⟨m, hm⟩ : ∃ m, xs.length - i = m + 1 := ⟨xs.length - i - 1, by omega⟩
  have hm2 : xs.length - (i + 1) = m := by omega
  have e : xs.getD i 0 = xs[i] := by simp [List.getD, h]
  rw [hm, hm2, List.replicate_succ, List.set_cons_zero, e, List.take_succ_eq_append_getElem h, List.append_assoc]
  rfl

theorem toIntS_ev (xs : List Int) (hb : xs.length ≤ 35184372088832) : Ev (fun k => laws_toIntS.f k xs) xs := by
  have loop : ∀ (d k i : Nat), i ≤ xs.length → xs.length - i = d → d < k → laws_toIntS.l0 k xs (xs.take i ++ List.replicate (xs.length - i) 0) i = some xs := by
    intro d
    induction d with
    | zero =>
      intro k i h1 hd hk
      obtain ⟨k, rfl⟩ : ∃ m, k = m + 1 := ⟨k - 1, by omega⟩
      obtain rfl : i = xs.length := by omega
      rw [laws_toIntS.l0, if_neg (by omega)]
      simp
    | succ d ih =>
      intro k i h1 hd hk
      obtain ⟨k, rfl⟩ : ∃ m, k = m + 1 := ⟨k - 1, by omega⟩
      have hl : (xs.take i ++ List.replicate (xs.length - i) 0).length = xs.length := by simp; omega
      rw [laws_toIntS.l0, if_pos (by omega), if_pos (by omega), hl, if_pos (by omega), Int.toNat_natCast, rd_nat, toIntS_step xs i (by omega), w64 (by omega) (by omega)]
      exact ih k (i + 1) (by omega) (by omega) (by omega)
  refine ⟨xs.length + 1, fun k hk => ?_⟩
  have h := loop xs.length k 0 (by omega) (by omega) (by omega)
  show laws_toIntS.f k xs = some xs
  unfold laws_toIntS.f
  rw [if_pos (by omega), Int.toNat_natCast, if_pos hb]
  simpa using h

theorem l1In_eq (a b c : Int) : spec_l1In.f a b c = some (decide (b ≤ a) && decide (a ≤ c)) := by
  unfold spec_l1In.f
  by_cases h : a ≥ b
  · rw [if_pos h]; simp [show b ≤ a from h]
  · rw [if_neg h]; simp [show ¬ b ≤ a from h]
theorem in_eq (a b c : Int) : impl_in.f a b c = some (decide (b ≤ a) && decide (a ≤ c)) := by
  unfold impl_in.f
  by_cases h : a ≥ b
  · rw [if_pos h]; simp [show b ≤ a from h]
  · rw [if_neg h]; simp [show ¬ b ≤ a from h]

def hasFrom (ys : List Int) (x : Int) : Nat → Int → Bool
  | 0, _ => false
  | d + 1, i => if rd ys i = x then true else hasFrom ys x d (i + 1)
/-- Is x among them? -/
def has (ys : List Int) (x : Int) : Bool := hasFrom ys x ys.length 0
theorem hasFrom_at (ys : List Int) (x : Int) : ∀ (d : Nat) (i : Int), hasFrom ys x d i = true → ∃ j, i ≤ j ∧ j < i + d ∧ rd ys j = x
  | 0, _, h => by cases h
  | d + 1, i, h => by
    unfold hasFrom at h
    split at h
    · rename_i c; exact ⟨i, by omega, by omega, c⟩
    · obtain ⟨j, h1, h2, h3⟩ := hasFrom_at ys x d (i + 1) h
      exact ⟨j, by omega, by omega, h3⟩
theorem hasFrom_mk (ys : List Int) (x : Int) : ∀ (d : Nat) (i j : Int), i ≤ j → j < i + d → rd ys j = x → hasFrom ys x d i = true
  | 0, _, _, _, _, _ => by omega
  | d + 1, i, j, h1, h2, h3 => by
    unfold hasFrom
    split
    · rfl
    · rename_i c
      by_cases e : i = j
      · subst e; exact absurd h3 c
      · exact hasFrom_mk ys x d (i + 1) j (by omega) (by omega) h3
theorem has_iff (ys : List Int) (x : Int) : has ys x = true ↔ ∃ j : Int, 0 ≤ j ∧ j < ys.length ∧ rd ys j = x := by
  constructor
  · intro h
    obtain ⟨j, h1, h2, h3⟩ := hasFrom_at ys x ys.length 0 h
    exact ⟨j, h1, by omega, h3⟩
  · rintro ⟨j, h1, h2, h3⟩
    exact hasFrom_mk ys x ys.length 0 j h1 (by omega) h3
theorem rd_take (xs : List Int) (k j : Int) (h0 : 0 ≤ j) (h1 : j < k) : rd (xs.take k.toNat) j = rd xs j := by
  unfold rd
  simp only [List.getD_eq_getElem?_getD]
  rw [List.getElem?_take_of_lt (by omega)]

theorem l1Has_ev (ys : List Int) (x : Int) (hl : ys.length ≤ 100000000) : Ev (fun f => spec_l1Has.f f ys x) (has ys x) := by
  have loop : ∀ (d : Nat) (i : Int), 0 ≤ i → i + d = ys.length → Ev (fun f => spec_l1Has.l0 f x ys ys.length i) (hasFrom ys x d i) := by
    intro d
    induction d with
    | zero =>
      intro i h0 hd
      refine ev_shift ?_
      simp only [spec_l1Has.l0, if_neg (show ¬ i < (ys.length : Int) by omega), hasFrom]
      exact Ev.now _
    | succ d ih =>
      intro i h0 hd
      have hn := ih (i + 1) (by omega) (by omega)
      refine ev_shift ?_
      simp only [spec_l1Has.l0, if_pos (show i < (ys.length : Int) by omega), if_pos h0, w64 (show -9223372036854775808 ≤ i + 1 by omega) (by omega)]
      unfold hasFrom
      by_cases c : rd ys i = x
      · rw [if_pos c]; simp only [if_pos c]; exact Ev.now _
      · rw [if_neg c]; simp only [if_neg c]; exact hn
  exact loop ys.length 0 (by omega) (by omega)

def idxFrom (ys : List Int) (x : Int) : Nat → Int → Int
  | 0, _ => -1
  | d + 1, i => if x = rd ys i then i else idxFrom ys x d (i + 1)
theorem index_ev (ys : List Int) (x : Int) (hl : ys.length ≤ 100000000) : Ev (fun f => slices_Index_int_int.f f ys x) (idxFrom ys x ys.length 0) := by
  have loop : ∀ (d : Nat) (i : Int), 0 ≤ i → i + d = ys.length → Ev (fun f => slices_Index_int_int.l0 f ys x ys.length i) (idxFrom ys x d i) := by
    intro d
    induction d with
    | zero =>
      intro i h0 hd
      refine ev_shift ?_
      simp only [slices_Index_int_int.l0, if_neg (show ¬ i < (ys.length : Int) by omega), idxFrom]
      exact Ev.now _
    | succ d ih =>
      intro i h0 hd
      have hn := ih (i + 1) (by omega) (by omega)
      refine ev_shift ?_
      simp only [slices_Index_int_int.l0, if_pos (show i < (ys.length : Int) by omega), if_pos h0, w64 (show -9223372036854775808 ≤ i + 1 by omega) (by omega)]
      unfold idxFrom
      by_cases c : x = rd ys i
      · rw [if_pos c]; simp only [if_pos c]; exact Ev.now _
      · rw [if_neg c]; simp only [if_neg c]; exact hn
  exact loop ys.length 0 (by omega) (by omega)
theorem idx_has (ys : List Int) (x : Int) : ∀ (d : Nat) (i : Int), 0 ≤ i → decide (idxFrom ys x d i ≥ 0) = hasFrom ys x d i
  | 0, _, _ => rfl
  | d + 1, i, h => by
    unfold idxFrom hasFrom
    by_cases c : x = rd ys i
    · rw [if_pos c, if_pos c.symm]; exact decide_eq_true h
    · rw [if_neg c, if_neg (fun e => c e.symm)]; exact idx_has ys x d (i + 1) (by omega)
theorem contains_ev (ys : List Int) (x : Int) (hl : ys.length ≤ 100000000) : Ev (fun f => slices_Contains_int_int.f f ys x) (has ys x) := by
  unfold slices_Contains_int_int.f
  refine ev_bind (index_ev ys x hl) ?_
  simp only [idx_has ys x ys.length 0 (by omega)]
  exact Ev.now _

def allFrom (xs : List Int) (a b : Int) : Nat → Int → Bool
  | 0, _ => true
  | d + 1, i => if a ≤ rd xs i ∧ rd xs i ≤ b then allFrom xs a b d (i + 1) else false
theorem l1All_ev (xs : List Int) (a b : Int) (hl : xs.length ≤ 100000000) : Ev (fun f => spec_l1All.f f xs a b) (allFrom xs a b xs.length 0) := by
  have loop : ∀ (d : Nat) (i : Int), 0 ≤ i → i + d = xs.length → Ev (fun f => spec_l1All.l0 f a b xs xs.length i) (allFrom xs a b d i) := by
    intro d
    induction d with
    | zero =>
      intro i h0 hd
      refine ev_shift ?_
      simp only [spec_l1All.l0, if_neg (show ¬ i < (xs.length : Int) by omega), allFrom]
      exact Ev.now _
    | succ d ih =>
      intro i h0 hd
      have hn := ih (i + 1) (by omega) (by omega)
      refine ev_shift ?_
      simp only [spec_l1All.l0, if_pos (show i < (xs.length : Int) by omega), if_pos h0, w64 (show -9223372036854775808 ≤ i + 1 by omega) (by omega), l1In_eq, Option.bind_some]
      unfold allFrom
      by_cases c : a ≤ rd xs i ∧ rd xs i ≤ b
      · rw [if_pos c]; simp only [decide_eq_true c.1, decide_eq_true c.2, Bool.and_self, if_true]; exact hn
      · rw [if_neg c]
        have e : (decide (a ≤ rd xs i) && decide (rd xs i ≤ b)) = false := by rw [Bool.and_eq_false_iff, decide_eq_false_iff_not, decide_eq_false_iff_not]; omega
        simp only [e, Bool.false_eq_true, if_false]; exact Ev.now _
  exact loop xs.length 0 (by omega) (by omega)

/-- A list that is too long: the law answers true at once. -/
theorem over_ (xs : List Int) (hl : ¬ xs.length ≤ 1048576) : Ev (fun k => laws_FnExactIsStarChain.f k xs) true := by
  have big : (xs.length : Int) > 1048576 := by omega
  unfold laws_FnExactIsStarChain.f
  simp only [if_pos big]
  exact Ev.now _

/-- what is asked of number k -/
def diff (xs : List Int) (k : Int) : Bool := has (xs.take k.toNat) (wrap64 (rd xs k - rd xs (k - 1)))
def shFrom (xs : List Int) : Nat → Int → Bool
  | 0, _ => true
  | d + 1, k => if diff xs k = true then shFrom xs d (k + 1) else false
def starFrom (xs : List Int) : Nat → Int → Bool
  | 0, _ => true
  | d + 1, k => if rd xs k ≤ rd xs (k - 1) then false else if rd xs k > 1000000 then false else if diff xs k = true then starFrom xs d (k + 1) else false
def star (xs : List Int) : Bool := if 1 ≤ xs.length ∧ xs.length ≤ 41 then (if rd xs 0 = 1 then starFrom xs (xs.length - 1) 1 else false) else false

theorem same_from (xs : List Int) : ∀ (d : Nat) (k : Int), 1 ≤ k → k + d = xs.length → (∀ j : Int, 0 ≤ j → j < k → 1 ≤ rd xs j) → rd xs (k - 1) ≤ 1000000 → (allFrom xs 1 1000000 d k && shFrom xs d k) = starFrom xs d k
  | 0, _, _, _, _, _ => rfl
  | d + 1, k, h1, hd, hp, hq => by
    have hk := hp (k - 1) (by omega) (by omega)
    unfold allFrom shFrom starFrom
    by_cases c1 : rd xs k ≤ rd xs (k - 1)
    · rw [if_pos c1]
      by_cases c2 : 1 ≤ rd xs k ∧ rd xs k ≤ 1000000
      · rw [if_pos c2]
        have e : diff xs k = false := by
          cases hx : diff xs k with
          | false => rfl
          | true =>
            obtain ⟨j, j0, j1, j2⟩ := (has_iff _ _).1 hx
            rw [List.length_take] at j1
            rw [rd_take xs k j j0 (by omega), w64 (by omega) (by omega)] at j2
            have := hp j j0 (by omega)
            omega
        rw [e, if_neg (by decide), Bool.and_false]
      · rw [if_neg c2, Bool.false_and]
    · rw [if_neg c1]
      by_cases c2 : rd xs k > 1000000
      · rw [if_pos c2, if_neg (by omega), Bool.false_and]
      · rw [if_neg c2, if_pos (by omega)]
        by_cases c3 : diff xs k = true
        · rw [if_pos c3, if_pos c3]
          have e : k + 1 - 1 = k := by omega
          refine same_from xs d (k + 1) (by omega) (by omega) (fun j j0 j1 => ?_) (by rw [e]; omega)
          by_cases ej : j = k
          · subst ej; omega
          · exact hp j j0 (by omega)
        · rw [if_neg c3, if_neg c3, Bool.and_false]

theorem sh_ev (xs : List Int) (hl : xs.length ≤ 100000000) : ∀ (d : Nat) (k : Int), 1 ≤ k → k + d = xs.length → (∀ j : Int, 0 ≤ j → j < xs.length → 1 ≤ rd xs j ∧ rd xs j ≤ 1000000) → Ev (fun f => spec_shChain.l0 f xs k) (shFrom xs d k) := by
  intro d
  induction d with
  | zero =>
    intro k h0 hd _
    refine ev_shift ?_
    simp only [spec_shChain.l0, if_neg (show ¬ k < (xs.length : Int) by omega), shFrom]
    exact Ev.now _
  | succ d ih =>
    intro k h0 hd hp
    have hn := ih (k + 1) (by omega) (by omega) hp
    refine ev_shift ?_
    simp only [spec_shChain.l0, if_pos (show k < (xs.length : Int) by omega), if_pos (show 0 ≤ k by omega), if_pos (show k ≤ (xs.length : Int) by omega), w64 (show -9223372036854775808 ≤ k + 1 by omega) (by omega), w64 (show -9223372036854775808 ≤ k - 1 by omega) (by omega), if_pos (show 0 ≤ k - 1 by omega), if_pos (show k - 1 < (xs.length : Int) by omega)]
    refine ev_bind (l1Has_ev _ _ (by rw [List.length_take]; omega)) ?_
    unfold shFrom
    by_cases c : diff xs k = true
    · rw [if_pos c]; unfold diff at c; simp only [if_pos c]; exact hn
    · rw [if_neg c]; unfold diff at c; simp only [if_neg c]; exact Ev.now _

theorem star_ev (xs : List Int) (hl : xs.length ≤ 100000000) : ∀ (d : Nat) (k : Int), 1 ≤ k → k + d = xs.length → Ev (fun f => impl_IsStarChain.l0 f xs k) (starFrom xs d k) := by
  intro d
  induction d with
  | zero =>
    intro k h0 hd
    refine ev_shift ?_
    simp only [impl_IsStarChain.l0, if_neg (show ¬ k < (xs.length : Int) by omega), starFrom]
    exact Ev.now _
  | succ d ih =>
    intro k h0 hd
    have hn := ih (k + 1) (by omega) (by omega)
    refine ev_shift ?_
    simp only [impl_IsStarChain.l0, if_pos (show k < (xs.length : Int) by omega), if_pos (show 0 ≤ k by omega), if_pos (show k ≤ (xs.length : Int) by omega), w64 (show -9223372036854775808 ≤ k + 1 by omega) (by omega), w64 (show -9223372036854775808 ≤ k - 1 by omega) (by omega), if_pos (show 0 ≤ k - 1 by omega), if_pos (show k - 1 < (xs.length : Int) by omega)]
    unfold starFrom
    by_cases c1 : rd xs k ≤ rd xs (k - 1)
    · simp only [if_pos c1]; exact Ev.now _
    · simp only [if_neg c1]
      by_cases c2 : rd xs k > 1000000
      · simp only [if_pos c2]; exact Ev.now _
      · simp only [if_neg c2]
        refine ev_bind (contains_ev _ _ (by rw [List.length_take]; omega)) ?_
        by_cases c : diff xs k = true
        · rw [if_pos c]; unfold diff at c; simp only [if_pos c]; exact hn
        · rw [if_neg c]; unfold diff at c; simp only [if_neg c]; exact Ev.now _

theorem all_at (xs : List Int) : ∀ (d : Nat) (i : Int), allFrom xs 1 1000000 d i = true → ∀ j : Int, i ≤ j → j < i + d → 1 ≤ rd xs j ∧ rd xs j ≤ 1000000
  | 0, _, _, _, _, _ => by omega
  | d + 1, i, h, j, h1, h2 => by
    unfold allFrom at h
    split at h
    · rename_i c
      by_cases e : j = i
      · subst e; exact c
      · exact all_at xs d (i + 1) h j (by omega) (by omega)
    · cases h

theorem impl_ev (xs : List Int) (hl : xs.length ≤ 1048576) : Ev (fun f => impl_IsStarChain.f f xs) (star xs) := by
  unfold impl_IsStarChain.f star
  simp only [in_eq, Option.bind_some]
  by_cases c : 1 ≤ xs.length ∧ xs.length ≤ 41
  · simp only [if_pos c, decide_eq_true (show (1 : Int) ≤ xs.length by omega), decide_eq_true (show (xs.length : Int) ≤ 41 by omega), Bool.and_self, if_true, if_pos (show (0 : Int) < xs.length by omega)]
    by_cases c1 : rd xs 0 = 1
    · simp only [if_pos c1]
      refine ev_shift ?_
      simp only [impl_IsStarChain.j0, c1, bne_self_eq_false, Bool.false_eq_true, if_false]
      exact star_ev xs (by omega) (xs.length - 1) 1 (by omega) (by omega)
    · simp only [if_neg c1]
      refine ev_shift ?_
      simp only [impl_IsStarChain.j0, bne_iff_ne.mpr c1, if_true]
      exact Ev.now _
  · rw [if_neg c]
    have e : (decide ((1 : Int) ≤ xs.length) && decide ((xs.length : Int) ≤ 41)) = false := by
      rw [Bool.and_eq_false_iff, decide_eq_false_iff_not, decide_eq_false_iff_not]; omega
    simp only [e, Bool.false_eq_true, if_false]
    refine ev_shift ?_
    simp only [impl_IsStarChain.j0, if_true]
    exact Ev.now _

theorem shChain_ev (xs : List Int) (hl : xs.length ≤ 1048576) (hp : ∀ j : Int, 0 ≤ j → j < xs.length → 1 ≤ rd xs j ∧ rd xs j ≤ 1000000) : Ev (fun f => spec_shChain.f f xs) (if 1 ≤ xs.length then (if rd xs 0 = 1 then shFrom xs (xs.length - 1) 1 else false) else false) := by
  unfold spec_shChain.f
  by_cases c : 1 ≤ xs.length
  · simp only [if_pos c, if_neg (show ¬ (xs.length : Int) = 0 by omega), if_pos (show (0 : Int) < xs.length by omega)]
    by_cases c1 : rd xs 0 = 1
    · simp only [if_pos c1]
      refine ev_shift ?_
      simp only [spec_shChain.j0, c1, bne_self_eq_false, Bool.false_eq_true, if_false]
      exact sh_ev xs (by omega) (xs.length - 1) 1 (by omega) (by omega) hp
    · simp only [if_neg c1]
      refine ev_shift ?_
      simp only [spec_shChain.j0, bne_iff_ne.mpr c1, if_true]
      exact Ev.now _
  · simp only [if_neg c, if_pos (show (xs.length : Int) = 0 by omega)]
    refine ev_shift ?_
    simp only [spec_shChain.j0, if_true]
    exact Ev.now _

theorem spec_ev (xs : List Int) (hl : xs.length ≤ 1048576) : Ev (fun f => spec_IsStarChain.f f xs) (star xs) := by
  unfold spec_IsStarChain.f
  by_cases c : (xs.length : Int) ≤ 41
  · simp only [if_pos c]
    refine ev_bind (l1All_ev xs 1 1000000 (by omega)) ?_
    by_cases ca : allFrom xs 1 1000000 xs.length 0 = true
    · simp only [ca, if_true]
      have hp := all_at xs xs.length 0 ca
      have h := shChain_ev xs hl (fun j j0 j1 => hp j j0 (by omega))
      have e : (if 1 ≤ xs.length then (if rd xs 0 = 1 then shFrom xs (xs.length - 1) 1 else false) else false) = star xs := by
        unfold star
        by_cases c1 : 1 ≤ xs.length
        · rw [if_pos c1, if_pos (show 1 ≤ xs.length ∧ xs.length ≤ 41 from ⟨c1, by omega⟩)]
          by_cases c2 : rd xs 0 = 1
          · rw [if_pos c2, if_pos c2, ← same_from xs (xs.length - 1) 1 (by omega) (by omega) (fun j j0 j1 => by obtain rfl : j = 0 := by omega
                                                                                                                omega) (by rw [show (1 : Int) - 1 = 0 from rfl]; omega)]
            obtain ⟨n, hn⟩ : ∃ n, xs.length = n + 1 := ⟨xs.length - 1, by omega⟩
            rw [hn] at ca
            unfold allFrom at ca
            rw [c2, if_pos (by decide)] at ca
            rw [hn, Nat.add_sub_cancel]
            rw [show (0 : Int) + 1 = 1 from rfl] at ca
            rw [ca, Bool.true_and]
          · rw [if_neg c2, if_neg c2]
        · rw [if_neg c1, if_neg (fun h => c1 h.1)]
      rw [e] at h
      exact ev_bind h (Ev.now _)
    · simp only [if_neg ca]
      have e : star xs = false := by
        unfold star
        split
        · rename_i c1
          split
          · rename_i c2
            have hs := same_from xs (xs.length - 1) 1 (by omega) (by omega) (fun j j0 j1 => by obtain rfl : j = 0 := by omega
                                                                                               omega) (by rw [show (1 : Int) - 1 = 0 from rfl]; omega)
            obtain ⟨n, hn⟩ : ∃ n, xs.length = n + 1 := ⟨xs.length - 1, by omega⟩
            rw [hn] at ca
            unfold allFrom at ca
            rw [c2, if_pos (by decide), show (0 : Int) + 1 = 1 from rfl] at ca
            rw [hn, Nat.add_sub_cancel] at hs ⊢
            rw [← hs, Bool.eq_false_iff.mpr ca, Bool.false_and]
          · rfl
        · rfl
      rw [e]; exact Ev.now _
  · simp only [if_neg c]
    have e : star xs = false := by unfold star; rw [if_neg (by omega)]
    rw [e]; exact Ev.now _

/-- The law's tail where the argument is a slice and the answer one bool. -/
theorem tail_ (xs : List Int) (hl : xs.length ≤ 1048576) (b : Bool) (hs : Ev (fun k => spec_IsStarChain.f k xs) b) (hi : Ev (fun k => impl_IsStarChain.f k xs) b) : Ev (fun k => laws_FnExactIsStarChain.f k xs) true := by
  have ht := toIntS_ev xs (by omega)
  have hex := eqIntS_same xs (by omega)
  have e0 : (b != b) = false := by cases b <;> rfl
  have big : ¬ ((xs.length : Int) > 1048576) := by omega
  unfold laws_FnExactIsStarChain.f
  simp only [if_neg big]
  refine ev_bind ht ?_
  refine ev_bind hs ?_
  refine ev_bind ht ?_
  refine ev_bind hi ?_
  simp only [e0, Bool.false_eq_true, if_false]
  refine ev_bind ht ?_
  refine ev_bind hex ?_
  simp only [if_true]
  exact Ev.now _

theorem FnExactIsStarChain : laws_FnExactIsStarChain.Pure := by
  intro xs _ _ _
  by_cases hl : xs.length ≤ 1048576
  · exact (tail_ xs hl (star xs) (spec_ev xs hl) (impl_ev xs hl)).rounds
  · exact (over_ xs hl).rounds

end Go.Proofs.Ytkhlhhpkleaphaa.Pure
