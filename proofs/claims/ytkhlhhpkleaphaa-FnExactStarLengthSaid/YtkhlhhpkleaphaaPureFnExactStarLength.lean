/- For every n: StarLength of the program answers as the reference does. -/
import Derived.Test.YtkhlhhpkleaphaaMFnExactStarLengthx2
namespace Go.Proofs.Ytkhlhhpkleaphaa.Pure
open Go.RowKit Go.Proofs.Ytkhlhhpkleaphaa.MFnExactStarLength Go.Proofs.YtkhlhhpkleaphaaW.PrintWords Go.Proofs.YtkhlhhpkleaphaaW.PrintLast Go.Proofs.YtkhlhhpkleaphaaW.PrintMore
set_option linter.unusedVariables false
set_option linter.unusedSimpArgs false
theorem w64 {x : Int} (h1 : -9223372036854775808 ≤ x) (h2 : x ≤ 9223372036854775807) : wrap64 x = x := by unfold wrap64; omega

theorem rd_nat (xs : List Int) (j : Nat) : rd xs (j : Int) = xs.getD j 0 := by unfold rd; rw [Int.toNat_natCast]

theorem ev_shift {α : Type} {g : Nat → Option α} {r : α} (h : Ev (fun k => g (k + 1)) r) : Ev g r := by
  obtain ⟨K, hK⟩ := h
  refine ⟨K + 1, fun k hk => ?_⟩
  obtain ⟨m, rfl⟩ : ∃ m, k = m + 1 := ⟨k - 1, by omega⟩
  exact hK m (by omega)

theorem ev_bind {α β : Type} {g : Nat → Option α} {F : Nat → α → Option β} {a : α} {r : β} (h : Ev g a) (k : Ev (fun n => F n a) r) : Ev (fun n => (g n).bind (fun x => F n x)) r := Ev.bind h k

theorem ev_some {α : Type} {g : Nat → Option α} {r : α} (h : ∀ k, g k = some r) : Ev g r := ⟨0, fun k _ => h k⟩

def lst (now : List Int) : Int := rd now ((now.length : Int) - 1)
theorem lst_at (now : List Int) (j : Nat) (h : now.length = j + 1) : rd now (j : Int) = lst now := by unfold lst; rw [h]; congr 1; omega
theorem lst_snoc (now : List Int) (x : Int) : lst (now ++ [x]) = x := by
  unfold lst
  rw [show ((now ++ [x]).length : Int) - 1 = ((now.length : Nat) : Int) by rw [List.length_append, List.length_singleton]; omega, rd_nat]
  simp [List.getD]
theorem lst_mem (now : List Int) (h : 0 < now.length) : lst now ∈ now := by
  obtain ⟨j, hj⟩ : ∃ j, now.length = j + 1 := ⟨now.length - 1, by omega⟩
  rw [← lst_at now j hj, rd_nat]
  simp [List.getD, show j < now.length by omega]
def T (n : Int) : Nat → List Int → Bool
  | 0, now => decide (lst now = n)
  | d + 1, now => now.any fun a => T n d (now ++ [wrap64 (lst now + a)])
structure P (now : List Int) : Prop where
  pos : 0 < now.length
  all : ∀ x ∈ now, 1 ≤ x ∧ x ≤ lst now
  top : lst now ≤ 2 ^ now.length
theorem p14 (m : Nat) (h : m ≤ 14) : (2 : Int) ^ m ≤ 16384 := by
  have : ∀ m : Nat, m ≤ 14 → (2 : Int) ^ m ≤ 16384 := by decide
  exact this m h
theorem P.snoc {now : List Int} (h : P now) (hl : now.length ≤ 13) {a : Int} (ha : a ∈ now) : wrap64 (lst now + a) = lst now + a ∧ P (now ++ [lst now + a]) := by
  have h1 := h.all a ha
  have h2 := h.top
  have h3 := p14 now.length (by omega)
  have hs : (2 : Int) ^ (now.length + 1) = 2 * 2 ^ now.length := by rw [Int.pow_succ, Int.mul_comm]
  refine ⟨w64 (by omega) (by omega), ?_, fun x hx => ?_, ?_⟩
  · rw [List.length_append, List.length_singleton]; omega
  · rw [lst_snoc]
    rcases List.mem_append.1 hx with hx | hx
    · have := h.all x hx; omega
    · rw [List.mem_singleton] at hx; omega
  · rw [lst_snoc, List.length_append, List.length_singleton, hs]; omega
theorem shl_eq (x : Int) (d : Nat) (h0 : 0 ≤ x) (h1 : x ≤ 16384) (hd : d ≤ 14) : shl .i64 x (d : Int) = x * 2 ^ d := by
  have e : shl .i64 x (d : Int) = wrap64 (x * 2 ^ min (d : Int).toNat 64) := i64_w (x * 2 ^ min (d : Int).toNat 64)
  rw [e, Int.toNat_natCast, Nat.min_eq_left (by omega)]
  have h2 := p14 d hd
  have h3 : (0 : Int) < 2 ^ d := Int.pow_pos (by decide)
  have h4 : x * 2 ^ d ≤ 16384 * 2 ^ d := Int.mul_le_mul_of_nonneg_right h1 (by omega)
  have h5 : 0 ≤ x * 2 ^ d := Int.mul_nonneg h0 (by omega)
  exact w64 (by omega) (by omega)
theorem T_up (n : Int) : ∀ (d : Nat) (now : List Int), P now → now.length + d ≤ 14 → T n d now = true → lst now + d ≤ n ∧ n ≤ lst now * 2 ^ d := by
  intro d
  induction d with
  | zero =>
    intro now hp _ h
    have := of_decide_eq_true h
    simp only [Int.pow_zero, Int.mul_one]
    omega
  | succ d ih =>
    intro now hp hl h
    obtain ⟨a, ha, h⟩ := List.any_eq_true.1 h
    obtain ⟨hw, hpn⟩ := hp.snoc (by omega) ha
    rw [hw] at h
    have h2 := ih _ hpn (by rw [List.length_append, List.length_singleton]; omega) h
    rw [lst_snoc] at h2
    have h1 := hp.all a ha
    refine ⟨by omega, ?_⟩
    have h3 : (0 : Int) < 2 ^ d := Int.pow_pos (by decide)
    have h4 : (lst now + a) * 2 ^ d ≤ (lst now + lst now) * 2 ^ d := Int.mul_le_mul_of_nonneg_right (by omega) (by omega)
    have h5 : lst now * 2 ^ (d + 1) = (lst now + lst now) * 2 ^ d := by rw [Int.pow_succ, Int.add_mul, ← Int.mul_assoc, Int.mul_comm (lst now * 2 ^ d) 2, Int.two_mul]
    omega
theorem T_shl (n : Int) (d : Nat) (now : List Int) (hp : P now) (hl : now.length + d ≤ 14) (h : T n d now = true) : ¬ shl .i64 (lst now) (d : Int) < n := by
  have h1 := (T_up n d now hp hl h).2
  have h2 := hp.top
  have h3 := p14 now.length (by omega)
  have h4 := hp.all _ (lst_mem now hp.pos)
  rw [shl_eq _ _ (by omega) (by omega) (by omega)]
  omega
theorem Tf {b : Bool} (h : ¬ b = true) : b = false := by cases b <;> simp_all
theorem first_ev (n : Int) (K : Nat) (hK : K ≤ 12) : ∀ (d : Nat) (now s : List Int), d ≤ K → now.length = K - d + 1 → P now → ∃ r : List Int, Ev (fun k => impl_stars.f impl_firstStar.fc k n K now s) (T n d now, r) ∧ (T n d now = true → r.length = K + 1) := by
  intro d
  induction d with
  | zero =>
    intro now s hd hn hp
    have e1 : wrap64 ((now.length : Int) - 1) = K := by rw [w64 (by omega) (by omega)]; omega
    have e2 : wrap64 (wrap64 ((K : Int) - (now.length : Int)) + 1) = 0 := by rw [w64 (show -9223372036854775808 ≤ (K : Int) - (now.length : Int) by omega) (by omega), w64 (by omega) (by omega)]; omega
    have el := lst_at now K (by omega)
    by_cases c : lst now = n
    · refine ⟨now, ev_shift ?_, fun _ => by omega⟩
      simp only [impl_stars.f, e1, e2, el, if_pos (show (0 : Int) ≤ (K : Int) by omega), if_pos (show (K : Int) < (now.length : Int) by omega), if_true, if_pos c, if_pos (show now.length < 17592186044416 by omega), T, decide_eq_true c]
      exact Ev.now _
    · refine ⟨s, ev_shift ?_, fun h => absurd (of_decide_eq_true h) c⟩
      simp only [impl_stars.f, e1, e2, el, if_pos (show (0 : Int) ≤ (K : Int) by omega), if_pos (show (K : Int) < (now.length : Int) by omega), if_true, if_neg c, T, decide_eq_false c]
      exact Ev.now _
  | succ d ih =>
    intro now s hd hn hp
    have e1 : wrap64 ((now.length : Int) - 1) = ((K - (d + 1) : Nat) : Int) := by rw [w64 (by omega) (by omega)]; omega
    have e2 : wrap64 (wrap64 ((K : Int) - (now.length : Int)) + 1) = ((d + 1 : Nat) : Int) := by rw [w64 (show -9223372036854775808 ≤ (K : Int) - (now.length : Int) by omega) (by omega), w64 (by omega) (by omega)]; omega
    have el : rd now ((K - (d + 1) : Nat) : Int) = lst now := lst_at now (K - (d + 1)) (by omega)
    have loop : ∀ (e i : Nat) (s : List Int), i + e = now.length → ∃ r : List Int, Ev (fun k => impl_stars.l0 impl_firstStar.fc k n K now s (lst now) i) ((now.drop i).any (fun a => T n d (now ++ [wrap64 (lst now + a)])), r) ∧ ((now.drop i).any (fun a => T n d (now ++ [wrap64 (lst now + a)])) = true → r.length = K + 1) := by
      intro e
      induction e with
      | zero =>
        intro i s he
        rw [List.drop_of_length_le (by omega)]
        refine ⟨s, ev_shift ?_, fun h => by simp at h⟩
        simp only [impl_stars.l0, if_neg (show ¬ (i : Int) < (now.length : Int) by omega)]
        exact Ev.now _
      | succ e ih2 =>
        intro i s he
        have er : rd now (i : Int) = now[i]'(by omega) := by rw [rd_nat]; simp [List.getD, show i < now.length by omega]
        have hm : rd now (i : Int) ∈ now := by rw [er]; exact List.getElem_mem _
        obtain ⟨hw, hpn⟩ := hp.snoc (by omega) hm
        obtain ⟨r1, h1, q1⟩ := ih (now ++ [wrap64 (lst now + rd now (i : Int))]) s (by omega) (by rw [List.length_append, List.length_singleton]; omega) (by rw [hw]; exact hpn)
        rw [List.drop_eq_getElem_cons (show i < now.length by omega), List.any_cons, ← er]
        cases ht : T n d (now ++ [wrap64 (lst now + rd now (i : Int))]) with
        | true =>
          rw [ht] at h1 q1
          refine ⟨r1, ev_shift ?_, fun _ => q1 rfl⟩
          simp only [impl_stars.l0, if_pos (show (i : Int) < (now.length : Int) by omega), if_pos (show (0 : Int) ≤ (i : Int) by omega), if_pos (show now.length < 17592186044416 by omega)]
          refine ev_bind h1 ?_
          simp only [if_true, Bool.true_or]
          exact Ev.now _
        | false =>
          rw [ht] at h1
          obtain ⟨r2, h2, q2⟩ := ih2 (i + 1) r1 (by omega)
          refine ⟨r2, ev_shift ?_, fun h => q2 (by simpa using h)⟩
          simp only [impl_stars.l0, if_pos (show (i : Int) < (now.length : Int) by omega), if_pos (show (0 : Int) ≤ (i : Int) by omega), if_pos (show now.length < 17592186044416 by omega), w64 (show -9223372036854775808 ≤ (i : Int) + 1 by omega) (by omega)]
          refine ev_bind h1 ?_
          simp only [Bool.false_eq_true, if_false, Bool.false_or]
          exact h2
    by_cases c : lst now ≥ n
    · have hf : T n (d + 1) now = false := Tf fun h => by have := (T_up n (d + 1) now hp (by omega) h).1; omega
      rw [hf]
      refine ⟨s, ev_shift ?_, fun h => by cases h⟩
      simp only [impl_stars.f, e1, e2, el, if_pos (show (0 : Int) ≤ ((K - (d + 1) : Nat) : Int) by omega), if_pos (show ((K - (d + 1) : Nat) : Int) < (now.length : Int) by omega), if_neg (show ¬ ((d + 1 : Nat) : Int) = 0 by omega), if_pos c]
      exact Ev.now _
    · by_cases c2 : shl .i64 (lst now) ((d + 1 : Nat) : Int) < n
      · have hf : T n (d + 1) now = false := Tf fun h => T_shl n (d + 1) now hp (by omega) h c2
        rw [hf]
        refine ⟨s, ev_shift ?_, fun h => by cases h⟩
        simp only [impl_stars.f, e1, e2, el, if_pos (show (0 : Int) ≤ ((K - (d + 1) : Nat) : Int) by omega), if_pos (show ((K - (d + 1) : Nat) : Int) < (now.length : Int) by omega), if_neg (show ¬ ((d + 1 : Nat) : Int) = 0 by omega), if_neg c, if_pos (show (0 : Int) ≤ ((d + 1 : Nat) : Int) by omega), if_pos c2]
        exact Ev.now _
      · obtain ⟨r, h1, q1⟩ := loop now.length 0 s (by omega)
        refine ⟨r, ev_shift ?_, q1⟩
        simp only [impl_stars.f, e1, e2, el, if_pos (show (0 : Int) ≤ ((K - (d + 1) : Nat) : Int) by omega), if_pos (show ((K - (d + 1) : Nat) : Int) < (now.length : Int) by omega), if_neg (show ¬ ((d + 1 : Nat) : Int) = 0 by omega), if_neg c, if_pos (show (0 : Int) ≤ ((d + 1 : Nat) : Int) by omega), if_neg c2]
        exact h1
theorem T_no1 (n : Int) (d : Nat) (now : List Int) (hp : P now) (hl : now.length + d ≤ 14) (c : lst now > n) : T n d now = false := Tf fun h => by have := (T_up n d now hp hl h).1; omega
theorem own_if (x : List Int) : spec_l1Own.f x = if x.length < 17592186044416 then some x else none := by
  unfold spec_l1Own.f
  simp only [Option.bind_some, List.length_nil, Nat.zero_add, List.nil_append]
theorem search_ev (n : Int) : ∀ (d : Nat) (now : List Int), now.length + d ≤ 14 → P now → ∃ r : List (List Int), Ev (fun k => spec_shSearch.f k now n d 1) r ∧ r.length = if T n d now = true then 1 else 0 := by
  intro d
  induction d with
  | zero =>
    intro now hl hp
    obtain ⟨j, hj⟩ : ∃ j, now.length = j + 1 := ⟨now.length - 1, by have := hp.pos; omega⟩
    have e1 : wrap64 ((now.length : Int) - 1) = j := by rw [w64 (by omega) (by omega)]; omega
    have el := lst_at now j hj
    by_cases c : lst now = n
    · refine ⟨[now], ev_shift ?_, by rw [T, decide_eq_true c]; rfl⟩
      simp only [spec_shSearch.f, e1, el, if_pos (show (0 : Int) ≤ (j : Int) by omega), if_pos (show (j : Int) < (now.length : Int) by omega), Int.natCast_zero, Int.ofNat_zero, if_true, if_pos c, own_if, if_pos (show now.length < 17592186044416 by omega), Option.bind_some]
      exact Ev.now _
    · refine ⟨[], ev_shift ?_, by rw [T, decide_eq_false c]; rfl⟩
      simp only [spec_shSearch.f, e1, el, if_pos (show (0 : Int) ≤ (j : Int) by omega), if_pos (show (j : Int) < (now.length : Int) by omega), Int.natCast_zero, Int.ofNat_zero, if_true, if_neg c]
      exact Ev.now _
  | succ d ih =>
    intro now hl hp
    obtain ⟨j, hj⟩ : ∃ j, now.length = j + 1 := ⟨now.length - 1, by have := hp.pos; omega⟩
    have e1 : wrap64 ((now.length : Int) - 1) = j := by rw [w64 (by omega) (by omega)]; omega
    have el := lst_at now j hj
    have e2 : wrap64 (((d + 1 : Nat) : Int) - 1) = (d : Int) := by rw [w64 (by omega) (by omega)]; omega
    have loop : ∀ (e i : Nat) (out : List (List Int)), i + e = now.length → out.length ≤ 1 → ∃ r : List (List Int), Ev (fun k => spec_shSearch.l0 k now n ((d + 1 : Nat) : Int) 1 (lst now) out now now.length i) r ∧ r.length = if out.length = 1 then 1 else if (now.drop i).any (fun a => T n d (now ++ [wrap64 (lst now + a)])) = true then 1 else 0 := by
      intro e
      induction e with
      | zero =>
        intro i out he ho
        rw [List.drop_of_length_le (by omega)]
        refine ⟨out, ev_shift ?_, by simp only [List.any_nil, Bool.false_eq_true, if_false]; split <;> omega⟩
        simp only [spec_shSearch.l0, if_neg (show ¬ (i : Int) < (now.length : Int) by omega)]
        exact Ev.now _
      | succ e ih2 =>
        intro i out he ho
        have i0 : (i : Int) < (now.length : Int) := by omega
        have i1 : (0 : Int) ≤ (i : Int) := by omega
        have d0 : (0 : Int) ≤ (d : Int) := by omega
        have nl : now.length < 17592186044416 := by omega
        have z1 : wrap64 (1 - ((0 : Nat) : Int)) = 1 := w64 (by omega) (by omega)
        have ie : i + 1 + e = now.length := by omega
        have nl13 : now.length ≤ 13 := by omega
        have nld : now.length + 1 + d ≤ 14 := by omega
        have iw : -9223372036854775808 ≤ (i : Int) + 1 ∧ (i : Int) + 1 ≤ 9223372036854775807 := by omega
        have ew : wrap64 ((i : Int) + 1) = ((i + 1 : Nat) : Int) := by rw [w64 (by omega) (by omega)]; omega
        have er : rd now (i : Int) = now[i]'(by omega) := by rw [rd_nat]; simp [List.getD, show i < now.length by omega]
        have hm : rd now (i : Int) ∈ now := by rw [er]; exact List.getElem_mem _
        obtain ⟨hw, hpn⟩ := hp.snoc nl13 hm
        have hpw : P (now ++ [wrap64 (lst now + rd now (i : Int))]) := by rw [hw]; exact hpn
        have hln := Aside0.mk (show (now ++ [wrap64 (lst now + rd now (i : Int))]).length + d ≤ 14 by rw [List.length_append, List.length_singleton]; exact nld)
        rw [List.drop_eq_getElem_cons (Int.ofNat_lt.1 i0), List.any_cons, ← er]
        have skip : T n d (now ++ [wrap64 (lst now + rd now (i : Int))]) = false ∨ out.length = 1 → ∃ r : List (List Int), Ev (fun k => spec_shSearch.j1 k now n ((d + 1 : Nat) : Int) 1 (lst now) out (wrap64 (lst now + rd now (i : Int))) now now.length i true) r ∧ r.length = if out.length = 1 then 1 else if (T n d (now ++ [wrap64 (lst now + rd now (i : Int))]) || (now.drop (i + 1)).any (fun a => T n d (now ++ [wrap64 (lst now + a)]))) = true then 1 else 0 := by
          intro hs
          obtain ⟨r, h1, q1⟩ := ih2 (i + 1) out ie ho
          refine ⟨r, ev_shift ?_, ?_⟩
          · simp only [spec_shSearch.j1, if_true, ew]
            exact h1
          · rcases hs with hs | hs
            · rw [hs, Bool.false_or]; exact q1
            · rw [if_pos hs] at q1 ⊢; exact q1
        by_cases c : wrap64 (lst now + rd now (i : Int)) > n
        · obtain ⟨r, h1, q1⟩ := skip (.inl (T_no1 n d _ hpw hln.out (by rw [lst_snoc]; exact c)))
          refine ⟨r, ev_shift ?_, q1⟩
          simp only [spec_shSearch.l0, if_pos i0, if_pos i1, if_pos c]
          exact h1
        · by_cases c2 : shl .i64 (wrap64 (lst now + rd now (i : Int))) (d : Int) < n
          · obtain ⟨r, h1, q1⟩ := skip (.inl (Tf fun h => T_shl n d _ hpw hln.out h (by rw [lst_snoc]; exact c2)))
            refine ⟨r, ev_shift ?_, q1⟩
            simp only [spec_shSearch.l0, if_pos i0, if_pos i1, if_neg c, e2, if_pos d0, if_pos c2]
            exact h1
          · by_cases c3 : out.length = 1
            · obtain ⟨r, h1, q1⟩ := skip (.inr c3)
              refine ⟨r, ev_shift ?_, q1⟩
              simp only [spec_shSearch.l0, if_pos i0, if_pos i1, if_neg c, e2, if_pos d0, if_neg c2, decide_eq_true (show (out.length : Int) ≥ 1 by rw [c3]; decide)]
              exact h1
            · obtain rfl : out = [] := by
                cases out with
                | nil => rfl
                | cons x xs => exact absurd (by simp only [List.length_cons] at ho ⊢; exact congrArg (· + 1) (Nat.le_zero.1 (Nat.le_of_succ_le_succ ho))) c3
              obtain ⟨r1, h1, q1⟩ := ih _ hln.out hpw
              have r1l : r1.length ≤ 1 := by
                rw [q1]
                split
                · exact Nat.le_refl _
                · exact Nat.zero_le _
              obtain ⟨r2, h2, q2⟩ := ih2 (i + 1) r1 ie r1l
              refine ⟨r2, ev_shift ?_, ?_⟩
              · simp only [spec_shSearch.l0, if_pos i0, if_pos i1, if_neg c, e2, if_pos d0, if_neg c2, List.length_nil, decide_eq_false (show ¬ ((0 : Nat) : Int) ≥ 1 by decide)]
                refine ev_shift ?_
                simp only [spec_shSearch.j1, Bool.false_eq_true, if_false, own_if, if_pos nl, Option.bind_some, e2, List.length_nil, z1, ew]
                refine ev_bind h1 ?_
                simp only [if_pos (show 0 + r1.length < 5864062014805 from Nat.lt_of_le_of_lt (by rw [Nat.zero_add]; exact r1l) (by decide)), List.nil_append]
                exact h2
              · rw [q2, q1]
                simp only [List.length_nil]
                by_cases ht : T n d (now ++ [wrap64 (lst now + rd now (i : Int))]) = true
                · simp [ht]
                · simp [Tf ht]
    obtain ⟨r, h1, q1⟩ := loop now.length 0 [] (by omega) (by simp)
    refine ⟨r, ev_shift ?_, ?_⟩
    · simp only [spec_shSearch.f, e1, el, if_pos (show (0 : Int) ≤ (j : Int) by omega), if_pos (show (j : Int) < (now.length : Int) by omega), if_neg (show ¬ ((d + 1 : Nat) : Int) = 0 by omega)]
      exact h1
    · rw [q1, List.drop_zero]; rfl
/-- A way to n. -/
def way (n : Int) : List Int → List Int → Bool
  | [], now => decide (lst now = n)
  | a :: as_, now => now.contains a && way n as_ (now ++ [wrap64 (lst now + a)])
theorem way_T (n : Int) : ∀ (xs now : List Int), way n xs now = true → T n xs.length now = true := by
  intro xs
  induction xs with
  | nil => intro now h; exact h
  | cons a xs ih =>
    intro now h
    rw [way, Bool.and_eq_true] at h
    exact List.any_eq_true.2 ⟨a, by simpa using h.1, ih _ h.2⟩
def bin : Nat → Nat → List Int
  | 0, _ => []
  | k + 1, n => if n ≤ 1 then [] else if n % 2 = 0 then bin k (n / 2) ++ [((n / 2 : Nat) : Int)] else bin k (n / 2) ++ [((n / 2 : Nat) : Int), 1]
theorem wit : ∀ n : Nat, n < 101 → n = 0 ∨ ((bin 8 n).length ≤ 12 ∧ way n (bin 8 n) [1] = true) := by decide +kernel
theorem least (p : Nat → Bool) : ∀ k : Nat, p k = true → ∃ m, m ≤ k ∧ p m = true ∧ ∀ i, i < m → p i = false := by
  intro k
  induction k using Nat.strongRecOn with
  | _ k ih =>
    intro h
    by_cases c : ∃ i, i < k ∧ p i = true
    · obtain ⟨i, hi, hpi⟩ := c
      obtain ⟨m, h1, h2, h3⟩ := ih i hi hpi
      exact ⟨m, by omega, h2, h3⟩
    · exact ⟨k, Nat.le_refl _, h, fun i hi => Tf fun h => c ⟨i, hi, h⟩⟩
theorem P1 : P [1] := ⟨by decide, by intro x hx; simp at hx; subst hx; decide, by decide⟩
theorem both (n : Int) : ∃ (w : Int) (ok : Bool), Ev (fun k => spec_StarLength.f k n) (w, ok) ∧ Ev (fun k => impl_StarLength.f k n) (w, ok) := by
  unfold spec_StarLength.f impl_StarLength.f impl_isShort.f impl_in.f spec_shNumber.f spec_l1In.f
  by_cases h1 : n ≥ 1 ∧ n ≤ 100
  · obtain ⟨q, rfl⟩ := Int.eq_ofNat_of_zero_le (show 0 ≤ n by omega)
    rcases wit q (by omega) with h0 | ⟨hl, hw⟩
    · omega
    obtain ⟨m, hm, hT, hno⟩ := least (fun k => T q k [1]) _ (way_T q _ _ hw)
    have ls : ∀ (e i : Nat), i + e = m → Ev (fun k => spec_shLength.l0 k q i) (m : Int) := by
      intro e
      induction e with
      | zero =>
        intro i he
        obtain rfl : i = m := by omega
        obtain ⟨r, hr, hlr⟩ := search_ev q i [1] (by simp; omega) P1
        rw [if_pos hT] at hlr
        refine ev_shift ?_
        simp only [spec_shLength.l0]
        refine ev_bind hr ?_
        simp only [if_pos (show (r.length : Int) > 0 by omega)]
        exact Ev.now _
      | succ e ih =>
        intro i he
        obtain ⟨r, hr, hlr⟩ := search_ev q i [1] (by simp; omega) P1
        have this : T q i [1] = false := hno i (by omega)
        rw [this] at hlr
        simp only [Bool.false_eq_true, if_false] at hlr
        refine ev_shift ?_
        simp only [spec_shLength.l0]
        refine ev_bind hr ?_
        simp only [if_neg (show ¬ (r.length : Int) > 0 by omega), w64 (show -9223372036854775808 ≤ (i : Int) + 1 by omega) (by omega)]
        exact ih (i + 1) (by omega)
    have li : ∀ (e i : Nat), i + e = m → ∃ r : List Int, r.length = m + 1 ∧ Ev (fun k => impl_shortest.l0 k q i) r := by
      intro e
      induction e with
      | zero =>
        intro i he
        obtain rfl : i = m := by omega
        obtain ⟨r, hr, hlr⟩ := first_ev q i (by omega) i [1] [] (Nat.le_refl _) (by simp) P1
        have hT : T q i [1] = true := hT
        rw [hT] at hr
        refine ⟨r, hlr hT, ev_shift ?_⟩
        simp only [impl_shortest.l0, impl_firstStar.f]
        refine ev_bind (ev_bind hr (Ev.now _)) ?_
        simp only [if_true]
        exact Ev.now _
      | succ e ih =>
        intro i he
        obtain ⟨r, hr, hlr⟩ := first_ev q i (by omega) i [1] [] (Nat.le_refl _) (by simp) P1
        have this : T q i [1] = false := hno i (by omega)
        rw [this] at hr
        obtain ⟨r2, h2, hv2⟩ := ih (i + 1) (by omega)
        refine ⟨r2, h2, ev_shift ?_⟩
        simp only [impl_shortest.l0, impl_firstStar.f, w64 (show -9223372036854775808 ≤ (i : Int) + 1 by omega) (by omega)]
        refine ev_bind (ev_bind hr (Ev.now _)) ?_
        simp only [Bool.false_eq_true, if_false]
        exact hv2
    obtain ⟨r, hr, hv⟩ := li m 0 (by omega)
    refine ⟨m, true, ?_, ?_⟩
    · simp only [if_pos h1.1, decide_eq_true h1.2, Option.bind_some, if_true]
      exact ev_bind (ls m 0 (by omega)) (Ev.now _)
    · simp only [if_pos h1.1, decide_eq_true h1.2, Option.bind_some, if_true]
      refine ev_bind hv ?_
      rw [hr, show wrap64 (((m + 1 : Nat) : Int) - 1) = (m : Int) by rw [w64 (by omega) (by omega)]; omega]
      exact Ev.now _
  · refine ⟨0, false, ?_, ?_⟩
    · by_cases h3 : n ≥ 1
      · simp only [if_pos h3, decide_eq_false (show ¬ n ≤ 100 by omega), Option.bind_some, Bool.false_eq_true, if_false]
        exact Ev.now _
      · simp only [if_neg h3, Option.bind_some, Bool.false_eq_true, if_false]
        exact Ev.now _
    · by_cases h3 : n ≥ 1
      · simp only [if_pos h3, decide_eq_false (show ¬ n ≤ 100 by omega), Option.bind_some, Bool.false_eq_true, if_false]
        exact Ev.now _
      · simp only [if_neg h3, Option.bind_some, Bool.false_eq_true, if_false]
        exact Ev.now _
theorem FnExactStarLength : laws_FnExactStarLength.Pure := by
  intro n _
  obtain ⟨w, ok, hs, hi⟩ := both n
  refine Ev.rounds (r := true) ?_
  unfold laws_FnExactStarLength.f
  refine ev_bind hs ?_
  refine ev_bind hi ?_
  have e : (ok != ok) = false := by cases ok <;> rfl
  simp only [if_true, e, Bool.false_eq_true, if_false]
  exact Ev.now _
end Go.Proofs.Ytkhlhhpkleaphaa.Pure
