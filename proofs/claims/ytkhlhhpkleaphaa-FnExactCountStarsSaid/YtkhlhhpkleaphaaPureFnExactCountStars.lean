/- For every n and length: CountStars of the program answers as the reference does. -/
import Derived.Test.YtkhlhhpkleaphaaMFnExactCountStarsx2
namespace Go.Proofs.Ytkhlhhpkleaphaa.Pure
open Go.RowKit Go.Proofs.Ytkhlhhpkleaphaa.MFnExactCountStars Go.Proofs.YtkhlhhpkleaphaaW.PrintWords Go.Proofs.YtkhlhhpkleaphaaW.PrintLast Go.Proofs.YtkhlhhpkleaphaaW.PrintMore
set_option linter.unusedVariables false
set_option linter.unusedSimpArgs false
theorem w64 {x : Int} (h1 : -9223372036854775808 ≤ x) (h2 : x ≤ 9223372036854775807) : wrap64 x = x := by unfold wrap64; omega

theorem rd_nat (xs : List Int) (j : Nat) : rd xs (j : Int) = xs.getD j 0 := by unfold rd; rw [Int.toNat_natCast]

theorem ev_shift {α : Type} {g : Nat → Option α} {r : α} (h : Ev (fun k => g (k + 1)) r) : Ev g r := by
  obtain ⟨K, hK⟩ := h
  refine ⟨K + 1, fun k hk => ?_⟩
  obtain ⟨m, rfl⟩ : ∃ m, k = m + 1 := ⟨k - 1, by omega⟩
  exact hK m (by omega)

theorem ev_bind {α β : Type} {g : Nat → Option α} {F : Nat → α → Option β} {a : α} {r : β} (h : Ev g a) (k : Ev (fun n => F n a) r) : Ev (fun n => (g n).bind (fun x => F n x)) r := Ev.bind h k

theorem ev_some {α : Type} {g : Nat → Option α} {r : α} (h : ∀ k, g k = some r) : Ev g r := ⟨0, fun k _ => h k⟩

def lst (now : List Int) : Int := rd now ((now.length : Int) - 1)
theorem lst_at (now : List Int) (j : Nat) (h : now.length = j + 1) : rd now (j : Int) = lst now := by unfold lst; rw [h]; congr 1; omega
theorem lst_snoc (now : List Int) (x : Int) : lst (now ++ [x]) = x := by
  unfold lst
  rw [show ((now ++ [x]).length : Int) - 1 = ((now.length : Nat) : Int) by rw [List.length_append, List.length_singleton]; omega, rd_nat]
  simp [List.getD]
def cnt (n : Int) : Nat → List Int → Nat
  | 0, now => if lst now = n then 1 else 0
  | d + 1, now => if lst now ≥ n ∨ shl .i64 (lst now) ((d : Int) + 1) < n then 0 else (now.map fun a => cnt n d (now ++ [wrap64 (lst now + a)])).sum
theorem cnt_big (n : Int) (d : Nat) (now : List Int) (h : lst now > n) : cnt n d now = 0 := by
  cases d with
  | zero => rw [cnt, if_neg (by omega)]
  | succ d => rw [cnt, if_pos (.inl (by omega))]
def it : Nat → Int → Int
  | 0, x => x
  | c + 1, x => it c (wrap64 (x + 1))
theorem it_add : ∀ (a b : Nat) (x : Int), it (a + b) x = it b (it a x)
  | 0, b, x => by rw [Nat.zero_add]; rfl
  | a + 1, b, x => by rw [show a + 1 + b = (a + b) + 1 by omega]; exact it_add a b _
theorem stars_cnt (n : Int) (L : Nat) (hL : L ≤ 8) : ∀ (d : Nat) (now : List Int) (m : Int), d ≤ L → now.length = L - d + 1 → Ev (fun k => impl_stars.f impl_CountStars.fc k n L now m) (false, it (cnt n d now) m) := by
  intro d
  induction d with
  | zero =>
    intro now m hd hn
    have e1 : wrap64 ((now.length : Int) - 1) = L := by rw [w64 (by omega) (by omega)]; omega
    have e2 : wrap64 (wrap64 ((L : Int) - (now.length : Int)) + 1) = 0 := by rw [w64 (show -9223372036854775808 ≤ (L : Int) - (now.length : Int) by omega) (by omega), w64 (by omega) (by omega)]; omega
    refine ev_shift ?_
    rw [cnt, ← lst_at now L (by omega)]
    by_cases c : rd now (L : Int) = n
    · simp only [impl_stars.f, e1, e2, if_pos (show (0 : Int) ≤ (L : Int) by omega), if_pos (show (L : Int) < (now.length : Int) by omega), if_true, if_pos c, if_pos (show now.length < 17592186044416 by omega)]
      exact Ev.now _
    · simp only [impl_stars.f, e1, e2, if_pos (show (0 : Int) ≤ (L : Int) by omega), if_pos (show (L : Int) < (now.length : Int) by omega), if_true, if_neg c]
      exact Ev.now _
  | succ d ih =>
    intro now m hd hn
    have e1 : wrap64 ((now.length : Int) - 1) = ((L - (d + 1) : Nat) : Int) := by rw [w64 (by omega) (by omega)]; omega
    have e2 : wrap64 (wrap64 ((L : Int) - (now.length : Int)) + 1) = (d : Int) + 1 := by rw [w64 (show -9223372036854775808 ≤ (L : Int) - (now.length : Int) by omega) (by omega), w64 (by omega) (by omega)]; omega
    have loop : ∀ (e i : Nat) (m : Int), i + e = now.length → Ev (fun k => impl_stars.l0 impl_CountStars.fc k n L now m (lst now) i) (false, it ((now.drop i).map fun a => cnt n d (now ++ [wrap64 (lst now + a)])).sum m) := by
      intro e
      induction e with
      | zero =>
        intro i m he
        refine ev_shift ?_
        rw [List.drop_of_length_le (by omega)]
        simp only [impl_stars.l0, if_neg (show ¬ (i : Int) < (now.length : Int) by omega)]
        exact Ev.now _
      | succ e ih2 =>
        intro i m he
        have er : rd now (i : Int) = now[i]'(by omega) := by rw [rd_nat]; simp [List.getD, show i < now.length by omega]
        have h1 := ih (now ++ [wrap64 (lst now + rd now (i : Int))]) m (by omega) (by rw [List.length_append, List.length_singleton]; omega)
        have h2 := ih2 (i + 1) (it (cnt n d (now ++ [wrap64 (lst now + rd now (i : Int))])) m) (by omega)
        rw [List.drop_eq_getElem_cons (show i < now.length by omega), List.map_cons, List.sum_cons, ← er, it_add]
        refine ev_shift ?_
        simp only [impl_stars.l0, if_pos (show (i : Int) < (now.length : Int) by omega), if_pos (show (0 : Int) ≤ (i : Int) by omega), if_pos (show now.length < 17592186044416 by omega), w64 (show -9223372036854775808 ≤ (i : Int) + 1 by omega) (by omega)]
        refine ev_bind h1 ?_
        simp only [Bool.false_eq_true, if_false]
        exact h2
    refine ev_shift ?_
    rw [cnt]
    have el : rd now ((L - (d + 1) : Nat) : Int) = lst now := lst_at now (L - (d + 1)) (by omega)
    by_cases c : lst now ≥ n
    · rw [if_pos (.inl c)]
      simp only [impl_stars.f, e1, e2, el, if_pos (show (0 : Int) ≤ ((L - (d + 1) : Nat) : Int) by omega), if_pos (show ((L - (d + 1) : Nat) : Int) < (now.length : Int) by omega), if_neg (show ¬ (d : Int) + 1 = 0 by omega), if_pos c]
      exact Ev.now _
    · by_cases c2 : shl .i64 (lst now) ((d : Int) + 1) < n
      · rw [if_pos (.inr c2)]
        simp only [impl_stars.f, e1, e2, el, if_pos (show (0 : Int) ≤ ((L - (d + 1) : Nat) : Int) by omega), if_pos (show ((L - (d + 1) : Nat) : Int) < (now.length : Int) by omega), if_neg (show ¬ (d : Int) + 1 = 0 by omega), if_neg c, if_pos (show (0 : Int) ≤ (d : Int) + 1 by omega), if_pos c2]
        exact Ev.now _
      · rw [if_neg (fun h => h.elim c c2)]
        simp only [impl_stars.f, e1, e2, el, if_pos (show (0 : Int) ≤ ((L - (d + 1) : Nat) : Int) by omega), if_pos (show ((L - (d + 1) : Nat) : Int) < (now.length : Int) by omega), if_neg (show ¬ (d : Int) + 1 = 0 by omega), if_neg c, if_pos (show (0 : Int) ≤ (d : Int) + 1 by omega), if_neg c2]
        exact loop now.length 0 m (by omega)
theorem own_if (x : List Int) : spec_l1Own.f x = if x.length < 17592186044416 then some x else none := by
  unfold spec_l1Own.f
  simp only [Option.bind_some, List.length_nil, Nat.zero_add, List.nil_append]
theorem shl_zero (x : Int) (h0 : -1000000 ≤ x) (h1 : x ≤ 1000000) : shl .i64 x 0 = x := by
  have : shl .i64 x 0 = wrap64 (x * 2 ^ min (0 : Int).toNat 64) := i64_w (x * 2 ^ min (0 : Int).toNat 64)
  rw [this]
  simp only [Int.toNat_zero, Nat.zero_min, Int.pow_zero, Int.mul_one]
  exact w64 (by omega) (by omega)
def Pos (now : List Int) : Prop := ∀ x ∈ now, 1 ≤ x ∧ x ≤ 2 ^ now.length
theorem Pos.snoc {now : List Int} (h : Pos now) {x y : Int} (hx : x ∈ now) (hy : y ∈ now) (hl : now.length ≤ 12) : wrap64 (x + y) = x + y ∧ Pos (now ++ [x + y]) := by
  have h1 := h x hx
  have h2 := h y hy
  have hp : (2 : Int) ^ now.length ≤ 4096 := by
    have : (2 : Int) ^ now.length ≤ 2 ^ 12 := by
      have := Nat.pow_le_pow_right (show 0 < 2 by decide) hl
      have e : ∀ k : Nat, ((2 : Int) ^ k) = ((2 ^ k : Nat) : Int) := fun k => by simp
      rw [e, e]; omega
    have e : (2 : Int) ^ 12 = 4096 := by decide
    omega
  have hs : (2 : Int) ^ (now.length + 1) = 2 * 2 ^ now.length := by rw [Int.pow_succ, Int.mul_comm]
  refine ⟨w64 (by omega) (by omega), fun z hz => ?_⟩
  rw [List.length_append, List.length_singleton, hs]
  rcases List.mem_append.1 hz with hz | hz
  · have := h z hz; omega
  · rw [List.mem_singleton] at hz; omega
theorem rd_set_same (cs : List Int) (j : Nat) (v : Int) (h : j < cs.length) : rd (cs.set j v) (j : Int) = v := by rw [rd_nat]; simp [List.getD, h]
theorem rd_set_other (cs : List Int) (i j : Nat) (v : Int) (h : i ≠ j) : rd (cs.set i v) (j : Int) = rd cs (j : Int) := by rw [rd_nat, rd_nat]; simp [List.getD, List.getElem?_set_ne h]
theorem lst_mem (now : List Int) (h : 0 < now.length) : lst now ∈ now := by
  obtain ⟨j, hj⟩ : ∃ j, now.length = j + 1 := ⟨now.length - 1, by omega⟩
  rw [← lst_at now j hj, rd_nat]
  simp [List.getD, show j < now.length by omega]
theorem live_cnt (n : Int) (L : Nat) (hL : L ≤ 8) : ∀ (d : Nat) (now cs : List Int), d ≤ L → now.length = L - d + 1 → cs.length = L + 1 → Pos now → ∃ r : List Int, r.length = L + 1 ∧ rd r (L : Int) = it (cnt n d now) (rd cs (L : Int)) ∧ Ev (fun k => spec_shLive.f k now n L cs) r := by
  intro d
  induction d with
  | zero =>
    intro now cs hd hn hc hp
    have e1 : wrap64 ((now.length : Int) - 1) = L := by rw [w64 (by omega) (by omega)]; omega
    have e2 : wrap64 ((L : Int) - (L : Int)) = 0 := by rw [w64 (by omega) (by omega)]; omega
    have el : rd now (L : Int) = lst now := lst_at now L (by omega)
    have hb := hp _ (lst_mem now (by omega))
    have hp9 : (2 : Int) ^ now.length ≤ 512 := by
      rw [hn]
      have : ∀ m : Nat, m ≤ 8 → (2 : Int) ^ (m - 0 + 1) ≤ 512 := by decide
      exact this L hL
    have es : shl .i64 (lst now) 0 = lst now := shl_zero _ (by omega) (by omega)
    have jt : Ev (fun k => spec_shLive.j0 k now n L cs L (lst now) true) cs := by
      refine ev_shift ?_
      simp only [spec_shLive.j0, if_true]
      exact Ev.now _
    by_cases c : lst now > n
    · refine ⟨cs, hc, by rw [cnt_big n 0 now c]; rfl, ev_shift ?_⟩
      simp only [spec_shLive.f, e1, el, if_pos (show (0 : Int) ≤ (L : Int) by omega), if_pos (show (L : Int) < (now.length : Int) by omega), if_pos c]
      exact jt
    · by_cases c2 : lst now < n
      · refine ⟨cs, hc, by rw [cnt, if_neg (by omega)]; rfl, ev_shift ?_⟩
        simp only [spec_shLive.f, e1, e2, el, es, if_pos (show (0 : Int) ≤ (L : Int) by omega), if_pos (show (L : Int) < (now.length : Int) by omega), if_neg c, if_pos (show (0 : Int) ≤ 0 by omega), decide_eq_true c2]
        exact jt
      · refine ⟨cs.set L (wrap64 (rd cs (L : Int) + 1)), by simp [hc], by rw [cnt, if_pos (by omega), rd_set_same _ _ _ (by omega)]; rfl, ev_shift ?_⟩
        simp only [spec_shLive.f, e1, e2, el, es, if_pos (show (0 : Int) ≤ (L : Int) by omega), if_pos (show (L : Int) < (now.length : Int) by omega), if_neg c, if_pos (show (0 : Int) ≤ 0 by omega), decide_eq_false c2]
        refine ev_shift ?_
        simp only [spec_shLive.j0, Bool.false_eq_true, if_false, if_pos (show (0 : Int) ≤ (L : Int) by omega), if_pos (show (L : Int) < (cs.length : Int) by omega), Option.bind_some, if_true, Int.toNat_natCast]
        exact Ev.now _
  | succ d ih =>
    intro now cs hd hn hc hp
    have e1 : wrap64 ((now.length : Int) - 1) = ((L - (d + 1) : Nat) : Int) := by rw [w64 (by omega) (by omega)]; omega
    have e2 : wrap64 ((L : Int) - ((L - (d + 1) : Nat) : Int)) = (d : Int) + 1 := by rw [w64 (by omega) (by omega)]; omega
    have el : rd now ((L - (d + 1) : Nat) : Int) = lst now := lst_at now (L - (d + 1)) (by omega)
    have lm := lst_mem now (by omega)
    have loop : ∀ (e i : Nat) (cs : List Int), i + e = now.length → cs.length = L + 1 → ∃ r : List Int, r.length = L + 1 ∧ rd r (L : Int) = it ((now.drop i).map fun a => cnt n d (now ++ [wrap64 (lst now + a)])).sum (rd cs (L : Int)) ∧ Ev (fun k => spec_shLive.l0 k now n L cs (lst now) now now.length i) r := by
      intro e
      induction e with
      | zero =>
        intro i cs he hc
        refine ⟨cs, hc, by rw [List.drop_of_length_le (by omega)]; rfl, ev_shift ?_⟩
        simp only [spec_shLive.l0, if_neg (show ¬ (i : Int) < (now.length : Int) by omega)]
        exact Ev.now _
      | succ e ih2 =>
        intro i cs he hc
        have er : rd now (i : Int) = now[i]'(by omega) := by rw [rd_nat]; simp [List.getD, show i < now.length by omega]
        have hm : rd now (i : Int) ∈ now := by rw [er]; exact List.getElem_mem _
        obtain ⟨hw, hpn⟩ := hp.snoc lm hm (by omega)
        obtain ⟨r1, hr1, hq1, hv1⟩ := ih (now ++ [wrap64 (lst now + rd now (i : Int))]) cs (by omega) (by rw [List.length_append, List.length_singleton]; omega) hc (by rw [hw]; exact hpn)
        obtain ⟨r2, hr2, hq2, hv2⟩ := ih2 (i + 1) r1 (by omega) hr1
        refine ⟨r2, hr2, ?_, ev_shift ?_⟩
        · rw [hq2, hq1, ← it_add, List.drop_eq_getElem_cons (show i < now.length by omega), List.map_cons, List.sum_cons, ← er]
        · simp only [spec_shLive.l0, if_pos (show (i : Int) < (now.length : Int) by omega), if_pos (show (0 : Int) ≤ (i : Int) by omega), own_if, if_pos (show now.length < 17592186044416 by omega), Option.bind_some, w64 (show -9223372036854775808 ≤ (i : Int) + 1 by omega) (by omega)]
          exact ev_bind hv1 hv2
    have jt : Ev (fun k => spec_shLive.j0 k now n L cs ((L - (d + 1) : Nat) : Int) (lst now) true) cs := by
      refine ev_shift ?_
      simp only [spec_shLive.j0, if_true]
      exact Ev.now _
    by_cases c : lst now > n
    · refine ⟨cs, hc, by rw [cnt_big n (d + 1) now c]; rfl, ev_shift ?_⟩
      simp only [spec_shLive.f, e1, el, if_pos (show (0 : Int) ≤ ((L - (d + 1) : Nat) : Int) by omega), if_pos (show ((L - (d + 1) : Nat) : Int) < (now.length : Int) by omega), if_pos c]
      exact jt
    · by_cases c2 : shl .i64 (lst now) ((d : Int) + 1) < n
      · refine ⟨cs, hc, by rw [cnt, if_pos (.inr c2)]; rfl, ev_shift ?_⟩
        simp only [spec_shLive.f, e1, e2, el, if_pos (show (0 : Int) ≤ ((L - (d + 1) : Nat) : Int) by omega), if_pos (show ((L - (d + 1) : Nat) : Int) < (now.length : Int) by omega), if_neg c, if_pos (show (0 : Int) ≤ (d : Int) + 1 by omega), decide_eq_true c2]
        exact jt
      · obtain ⟨r, hr, hq, hv⟩ := loop now.length 0 (cs.set (L - (d + 1)) (wrap64 (rd cs ((L - (d + 1) : Nat) : Int) + 1))) (by omega) (by simp [hc])
        refine ⟨r, hr, ?_, ev_shift ?_⟩
        · rw [hq, rd_set_other _ _ _ _ (by omega), List.drop_zero, cnt]
          by_cases c3 : lst now = n
          · rw [if_pos (.inl (by omega))]
            have : (now.map fun a => cnt n d (now ++ [wrap64 (lst now + a)])).sum = 0 := by
              have all : ∀ xs : List Int, (∀ x ∈ xs, x ∈ now) → (xs.map fun a => cnt n d (now ++ [wrap64 (lst now + a)])).sum = 0 := by
                intro xs
                induction xs with
                | nil => intro _; rfl
                | cons x xs ihx =>
                  intro hx
                  have hxm := hx x (List.mem_cons_self ..)
                  have := hp x hxm
                  rw [List.map_cons, List.sum_cons, ihx (fun y hy => hx y (List.mem_cons_of_mem _ hy)), cnt_big n d _ (by rw [lst_snoc, (hp.snoc lm hxm (by omega)).1]; omega)]
              exact all now (fun _ h => h)
            rw [this]
          · rw [if_neg (fun h => h.elim (by omega) c2)]
        · simp only [spec_shLive.f, e1, e2, el, if_pos (show (0 : Int) ≤ ((L - (d + 1) : Nat) : Int) by omega), if_pos (show ((L - (d + 1) : Nat) : Int) < (now.length : Int) by omega), if_neg c, if_pos (show (0 : Int) ≤ (d : Int) + 1 by omega), decide_eq_false c2]
          refine ev_shift ?_
          simp only [spec_shLive.j0, Bool.false_eq_true, if_false, if_pos (show (0 : Int) ≤ ((L - (d + 1) : Nat) : Int) by omega), if_pos (show ((L - (d + 1) : Nat) : Int) < (cs.length : Int) by omega), Option.bind_some, if_neg (show ¬ ((L - (d + 1) : Nat) : Int) = (L : Int) by omega), Int.toNat_natCast]
          exact hv
theorem both (n b : Int) : ∃ (w : Int) (ok : Bool), Ev (fun k => spec_CountStars.f k n b) (w, ok) ∧ Ev (fun k => impl_CountStars.f k n b) (w, ok) := by
  unfold spec_CountStars.f spec_LiveStars.f impl_CountStars.f impl_isShort.f impl_lengthOk.f impl_in.f spec_shNumber.f spec_shCounted.f spec_l1In.f
  have no : ∃ (w : Int) (ok : Bool), Ev (fun k => ((some (([] : List Int), false)).bind fun bt129 => (if bt129.2 = true then (if 0 ≤ b then (if b < (bt129.1.length : Int) then (some (rd bt129.1 b, true)) else (none)) else (none)) else (some ((0 : Int), false))) : Option (Int × Bool))) (w, ok) ∧ Ev (fun _ => (some ((0 : Int), false) : Option (Int × Bool))) (w, ok) := by
    refine ⟨0, false, ?_, Ev.now _⟩
    simp only [Option.bind_some, Bool.false_eq_true, if_false]
    exact Ev.now _
  by_cases h1 : n ≥ 1 ∧ n ≤ 100
  · by_cases h2 : b ≥ 0 ∧ b ≤ 8
    · obtain ⟨L, rfl⟩ := Int.eq_ofNat_of_zero_le h2.1
      have e1 : wrap64 ((L : Int) + 1) = ((L + 1 : Nat) : Int) := by rw [w64 (by omega) (by omega)]; omega
      obtain ⟨r, hr, hq, hv⟩ := live_cnt n L (by omega) L [1] (List.replicate (L + 1) 0) (by omega) (by simp) (by simp) (by intro x hx; simp at hx; subst hx; decide)
      have hs := stars_cnt n L (by omega) L [1] 0 (by omega) (by simp)
      have e0 : rd (List.replicate (L + 1) (0 : Int)) (L : Int) = 0 := by rw [rd_nat]; simp [List.getD]
      rw [e0] at hq
      refine ⟨it (cnt n L [1]) 0, true, ?_, ?_⟩
      · simp only [if_pos h1.1, if_pos h2.1, decide_eq_true h1.2, decide_eq_true h2.2, Option.bind_some, if_true, e1, Int.toNat_natCast, if_pos (show (0 : Int) ≤ ((L + 1 : Nat) : Int) by omega), if_pos (show L + 1 ≤ 35184372088832 by omega)]
        refine ev_bind (ev_bind hv (Ev.now _)) ?_
        simp only [if_true, if_pos (show (0 : Int) ≤ (L : Int) by omega), if_pos (show (L : Int) < (r.length : Int) by omega), hq]
        exact Ev.now _
      · simp only [if_pos h1.1, if_pos h2.1, decide_eq_true h1.2, decide_eq_true h2.2, Option.bind_some, if_true]
        exact ev_bind hs (Ev.now _)
    · by_cases h3 : b ≥ 0
      · simp only [if_pos h1.1, decide_eq_true h1.2, Option.bind_some, if_true, if_pos h3, decide_eq_false (show ¬ b ≤ 8 by omega), Bool.false_eq_true, if_false] at no ⊢
        exact no
      · simp only [if_pos h1.1, decide_eq_true h1.2, Option.bind_some, if_true, if_neg h3, Bool.false_eq_true, if_false] at no ⊢
        exact no
  · by_cases h3 : n ≥ 1
    · simp only [if_pos h3, decide_eq_false (show ¬ n ≤ 100 by omega), Option.bind_some, Bool.false_eq_true, if_false] at no ⊢
      exact no
    · simp only [if_neg h3, Option.bind_some, Bool.false_eq_true, if_false] at no ⊢
      exact no
theorem FnExactCountStars : laws_FnExactCountStars.Pure := by
  intro n b _ _
  obtain ⟨w, ok, hs, hi⟩ := both n b
  refine Ev.rounds (r := true) ?_
  unfold laws_FnExactCountStars.f
  refine ev_bind hs ?_
  refine ev_bind hi ?_
  have e : (ok != ok) = false := by cases ok <;> rfl
  simp only [if_true, e, Bool.false_eq_true, if_false]
  exact Ev.now _
end Go.Proofs.Ytkhlhhpkleaphaa.Pure
