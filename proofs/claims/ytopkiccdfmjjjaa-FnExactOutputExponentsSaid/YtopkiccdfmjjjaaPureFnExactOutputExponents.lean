/- For every plan: OutputExponents of the program answers as the reference does, leaves the plan as it was, and shares no memory. -/
import Derived.Test.YtopkiccdfmjjjaaMFnExactOutputExponentsx8
namespace Go.Proofs.Ytopkiccdfmjjjaa.Pure
open Go.RowKit Go.Proofs.Ytopkiccdfmjjjaa.MFnExactOutputExponents Go.Proofs.YtopkiccdfmjjjaaW.PrintWords Go.Proofs.YtopkiccdfmjjjaaW.PrintLast Go.Proofs.YtopkiccdfmjjjaaW.PrintMore
set_option linter.unusedVariables false
set_option linter.unusedSimpArgs false
open Go.Proofs.YtopkiccdfmjjjaaH

theorem w64 {x : Int} (h1 : -9223372036854775808 ≤ x) (h2 : x ≤ 9223372036854775807) : wrap64 x = x := by unfold wrap64; omega

theorem rd_nat (xs : List Int) (j : Nat) : rd xs (j : Int) = xs.getD j 0 := by unfold rd; rw [Int.toNat_natCast]

theorem ev_shift {α : Type} {g : Nat → Option α} {r : α} (h : Ev (fun k => g (k + 1)) r) : Ev g r := by
  obtain ⟨K, hK⟩ := h
  refine ⟨K + 1, fun k hk => ?_⟩
  obtain ⟨m, rfl⟩ : ∃ m, k = m + 1 := ⟨k - 1, by omega⟩
  exact hK m (by omega)

theorem ev_bind {α β : Type} {g : Nat → Option α} {F : Nat → α → Option β} {a : α} {r : β} (h : Ev g a) (k : Ev (fun n => F n a) r) : Ev (fun n => (g n).bind (fun x => F n x)) r := Ev.bind h k

theorem ev_some {α : Type} {g : Nat → Option α} {r : α} (h : ∀ k, g k = some r) : Ev g r := ⟨0, fun k _ => h k⟩

theorem eqIntS_same (xs : List Int) (hb : xs.length ≤ 4611686018427387904) : Ev (fun k => laws_eqIntS.f k xs xs) true := by
  have loop : ∀ (d k : Nat) (i : Int), 0 ≤ i → i ≤ xs.length → (xs.length : Int) - i = d → d < k → laws_eqIntS.l0 k xs xs i = some true := by
    intro d
    induction d with
    | zero =>
      intro k i h0 h1 hd hk
      obtain ⟨k, rfl⟩ : ∃ m, k = m + 1 := ⟨k - 1, by omega⟩
      rw [laws_eqIntS.l0, if_neg (by omega)]
    | succ d ih =>
      intro k i h0 h1 hd hk
      obtain ⟨k, rfl⟩ : ∃ m, k = m + 1 := ⟨k - 1, by omega⟩
      rw [laws_eqIntS.l0, if_pos (by omega), if_pos h0, if_pos (by omega), if_pos rfl, w64 (by omega) (by omega)]
      exact ih k (i + 1) (by omega) (by omega) (by omega) (by omega)
  refine ⟨xs.length + 1, fun k hk => ?_⟩
  show laws_eqIntS.f k xs xs = some true
  unfold laws_eqIntS.f
  rw [if_pos rfl]
  exact loop xs.length k 0 (by omega) (by omega) (by omega) (by omega)

theorem toIntS_step (xs : List Int) (i : Nat) (h : i < xs.length) : (xs.take i ++ List.replicate (xs.length - i) 0).set i (xs.getD i 0) = xs.take (i + 1) ++ List.replicate (xs.length - (i + 1)) 0 := by
  have hl : (xs.take i).length = i := by simp; omega
  rw [List.set_append_right _ _ (by omega), hl, Nat.sub_self]
  obtain ⟨m, hm⟩ : ∃ m, xs.length - i = m + 1 := ⟨xs.length - i - 1, by omega⟩
  have hm2 : xs.length - (i + 1) = m := by omega
  have e : xs.getD i 0 = xs[i] := by simp [List.getD, h]
  rw [hm, hm2, List.replicate_succ, List.set_cons_zero, e, List.take_succ_eq_append_getElem h, List.append_assoc]
  rfl

theorem toIntS_ev (xs : List Int) (hb : xs.length ≤ 35184372088832) : Ev (fun k => laws_toIntS.f k xs) xs := by
  have loop : ∀ (d k i : Nat), i ≤ xs.length → xs.length - i = d → d < k → laws_toIntS.l0 k xs (xs.take i ++ List.replicate (xs.length - i) 0) i = some xs := by
    intro d
    induction d with
    | zero =>
      intro k i h1 hd hk
      obtain ⟨k, rfl⟩ : ∃ m, k = m + 1 := ⟨k - 1, by omega⟩
      obtain rfl : i = xs.length := by omega
      rw [laws_toIntS.l0, if_neg (by omega)]
      simp
    | succ d ih =>
      intro k i h1 hd hk
      obtain ⟨k, rfl⟩ : ∃ m, k = m + 1 := ⟨k - 1, by omega⟩
      have hl : (xs.take i ++ List.replicate (xs.length - i) 0).length = xs.length := by simp; omega
      rw [laws_toIntS.l0, if_pos (by omega), if_pos (by omega), hl, if_pos (by omega), Int.toNat_natCast, rd_nat, toIntS_step xs i (by omega), w64 (by omega) (by omega)]
      exact ih k (i + 1) (by omega) (by omega) (by omega)
  refine ⟨xs.length + 1, fun k hk => ?_⟩
  have h := loop xs.length k 0 (by omega) (by omega) (by omega)
  show laws_toIntS.f k xs = some xs
  unfold laws_toIntS.f
  rw [if_pos (by omega), Int.toNat_natCast, if_pos hb]
  simpa using h

theorem l1In_eq (a b c : Int) : spec_l1In.f a b c = some (decide (b ≤ a) && decide (a ≤ c)) := by
  unfold spec_l1In.f
  by_cases h : a ≥ b
  · rw [if_pos h]; simp [show b ≤ a from h]
  · rw [if_neg h]; simp [show ¬ b ≤ a from h]
def allFrom (xs : List Int) (a b : Int) : Nat → Int → Bool
  | 0, _ => true
  | d + 1, i => if a ≤ rd xs i ∧ rd xs i ≤ b then allFrom xs a b d (i + 1) else false
theorem l1All_ev (xs : List Int) (a b : Int) (hl : xs.length ≤ 100000000) : Ev (fun f => spec_l1All.f f xs a b) (allFrom xs a b xs.length 0) := by
  have loop : ∀ (d : Nat) (i : Int), 0 ≤ i → i + d = xs.length → Ev (fun f => spec_l1All.l0 f a b xs xs.length i) (allFrom xs a b d i) := by
    intro d
    induction d with
    | zero =>
      intro i h0 hd
      refine ev_shift ?_
      simp only [spec_l1All.l0, if_neg (show ¬ i < (xs.length : Int) by omega), allFrom]
      exact Ev.now _
    | succ d ih =>
      intro i h0 hd
      have hn := ih (i + 1) (by omega) (by omega)
      refine ev_shift ?_
      simp only [spec_l1All.l0, if_pos (show i < (xs.length : Int) by omega), if_pos h0, w64 (show -9223372036854775808 ≤ i + 1 by omega) (by omega), l1In_eq, Option.bind_some]
      unfold allFrom
      by_cases c : a ≤ rd xs i ∧ rd xs i ≤ b
      · rw [if_pos c]; simp only [decide_eq_true c.1, decide_eq_true c.2, Bool.and_self, if_true]; exact hn
      · rw [if_neg c]
        have e : (decide (a ≤ rd xs i) && decide (rd xs i ≤ b)) = false := by rw [Bool.and_eq_false_iff, decide_eq_false_iff_not, decide_eq_false_iff_not]; omega
        simp only [e, Bool.false_eq_true, if_false]; exact Ev.now _
  exact loop xs.length 0 (by omega) (by omega)

/-- A step of the laws, as one of the program. -/
def cv (s : S92) : S69 := ⟨s.f0, s.f1⟩
theorem take_set {α : Type} (ys : List α) (z : α) (i : Nat) (h : i < ys.length) : (ys.take i ++ List.replicate (ys.length - i) z).set i (ys.getD i z) = ys.take (i + 1) ++ List.replicate (ys.length - (i + 1)) z := by
  have hl : (ys.take i).length = i := by simp; omega
  rw [List.set_append_right _ _ (by omega), hl, Nat.sub_self]
  obtain ⟨m, hm⟩ : ∃ m, ys.length - i = m + 1 := ⟨ys.length - i - 1, by omega⟩
  have hm2 : ys.length - (i + 1) = m := by omega
  have e : ys.getD i z = ys[i] := by simp [List.getD, h]
  rw [hm, hm2, List.replicate_succ, List.set_cons_zero, e, List.take_succ_eq_append_getElem h, List.append_assoc]
  rfl
theorem rd_cv (xs : List (S92)) (i : Nat) : (⟨(rd_T92 xs (i : Int)).f0, (rd_T92 xs (i : Int)).f1⟩ : S69) = (xs.map cv).getD i z69 := by
  unfold rd_T92
  rw [Int.toNat_natCast]
  simp only [List.getD_eq_getElem?_getD, List.getElem?_map]
  cases xs[i]? <;> rfl
theorem toStepS_ev (xs : List (S92)) (hb : xs.length ≤ 1048576) : Ev (fun k => laws_toStepS.f k xs) (xs.map cv) := by
  obtain ⟨ys, hy⟩ : ∃ ys, ys = xs.map cv := ⟨_, rfl⟩
  have hyl : ys.length = xs.length := by rw [hy, List.length_map]
  have loop : ∀ (d i : Nat), i + d = xs.length → Ev (fun k => laws_toStepS.l0 k xs (ys.take i ++ List.replicate (ys.length - i) z69) i) ys := by
    intro d
    induction d with
    | zero =>
      intro i hd
      refine ev_shift ?_
      simp only [laws_toStepS.l0, if_neg (show ¬ (i : Int) < (xs.length : Int) by omega)]
      have e : ys.take i ++ List.replicate (ys.length - i) z69 = ys := by
        rw [List.take_of_length_le (by omega), Nat.sub_eq_zero_of_le (by omega)]; simp
      rw [e]
      exact Ev.now _
    | succ d ih =>
      intro i hd
      have hl : (ys.take i ++ List.replicate (ys.length - i) z69).length = ys.length := by simp; omega
      refine ev_shift ?_
      simp only [laws_toStepS.l0, laws_toStep.f, Option.bind_some, hl, if_pos (show (i : Int) < (xs.length : Int) by omega), if_pos (show (i : Int) < (ys.length : Int) by omega), if_pos (show (0 : Int) ≤ (i : Int) by omega), Int.toNat_natCast, rd_cv, ← hy, w64 (show -9223372036854775808 ≤ (i : Int) + 1 by omega) (by omega)]
      rw [take_set ys _ i (by omega)]
      exact ih (i + 1) (by omega)
  have h := loop xs.length 0 (by omega)
  unfold laws_toStepS.f
  simp only [if_pos (show (0 : Int) ≤ (xs.length : Int) by omega), Int.toNat_natCast, if_pos (show xs.length ≤ 17592186044416 by omega)]
  rw [← hy]
  simpa [hyl] using h
theorem toPlan_ev (n : Int) (l1 : List (S92)) (l2 : List Int) (h1 : l1.length ≤ 1048576) (h2 : l2.length ≤ 1048576) : Ev (fun k => laws_toPlan.f k n l1 l2) (n, l1.map cv, l2) := by
  unfold laws_toPlan.f
  exact ev_bind (toStepS_ev l1 h1) (ev_bind (toIntS_ev l2 (by omega)) (Ev.now _))
theorem eqStepS_same (xs : List (S69)) (hb : xs.length ≤ 1048576) : Ev (fun k => laws_eqStepS.f k xs xs) true := by
  have loop : ∀ (d i : Nat), i + d = xs.length → Ev (fun k => laws_eqStepS.l0 k xs xs i) true := by
    intro d
    induction d with
    | zero =>
      intro i hd
      refine ev_shift ?_
      simp only [laws_eqStepS.l0, if_neg (show ¬ (i : Int) < (xs.length : Int) by omega)]
      exact Ev.now _
    | succ d ih =>
      intro i hd
      refine ev_shift ?_
      simp only [laws_eqStepS.l0, laws_eqStep.f, Option.bind_some, if_true, if_pos (show (i : Int) < (xs.length : Int) by omega), if_pos (show (0 : Int) ≤ (i : Int) by omega), w64 (show -9223372036854775808 ≤ (i : Int) + 1 by omega) (by omega)]
      exact ih (i + 1) (by omega)
  unfold laws_eqStepS.f
  simp only [if_true]
  exact loop xs.length 0 (by omega)
theorem sz_ok (n : Int) (l1 : List (S92)) (l2 : List Int) (h : l1.length + l2.length ≤ 1048576) : laws_szPlan.f n l1 l2 1048576 = some (1048576 - (l1.length : Int) - (l2.length : Int)) := by
  unfold laws_szPlan.f laws_szStepS.f laws_szIntS.f
  rw [w64 (show -9223372036854775808 ≤ (1048576 : Int) - (l1.length : Int) by omega) (by omega), if_neg (by omega), Option.bind_some, if_neg (by omega), w64 (by omega) (by omega), if_neg (by omega), Option.bind_some, if_neg (by omega)]
theorem sz_big (n : Int) (l1 : List (S92)) (l2 : List Int) (m1 : l1.length ≤ maxLen) (m2 : l2.length ≤ maxLen) (h : ¬ l1.length + l2.length ≤ 1048576) : laws_szPlan.f n l1 l2 1048576 = some (-1) := by
  unfold maxLen at m1 m2
  unfold laws_szPlan.f laws_szStepS.f laws_szIntS.f
  rw [w64 (show -9223372036854775808 ≤ (1048576 : Int) - (l1.length : Int) by omega) (by omega)]
  by_cases c : (1048576 : Int) - (l1.length : Int) < 0
  · rw [if_pos c, Option.bind_some, if_pos (by omega)]
  · rw [if_neg c, Option.bind_some, if_neg c, w64 (by omega) (by omega), if_pos (by omega), Option.bind_some, if_pos (by omega)]

theorem eqPlan_same (n : Int) (ss : List (S69)) (os : List Int) (h1 : ss.length ≤ 1048576) (h2 : os.length ≤ 1048576) : Ev (fun k => laws_eqPlan.f k n ss os n ss os) true := by
  unfold laws_eqPlan.f
  simp only [if_true]
  refine ev_bind (eqStepS_same ss (by omega)) ?_
  simp only [if_true]
  refine ev_bind (eqIntS_same os (by omega)) ?_
  simp only [if_true]
  exact Ev.now _
/-! exponents -/
/-- Is each step from i on in order. -/
def InOrder (n : Nat) (ss : List (S69)) : Prop := ∀ i : Nat, i < ss.length → 0 ≤ (rd_T69 ss i).f0 ∧ (rd_T69 ss i).f0 ≤ (rd_T69 ss i).f1 ∧ (rd_T69 ss i).f1 < n + i
def cap2 (x : Int) : Int := if x < 1000001 then x else 1000001
def sumFrom (a b : List Int) : Nat → Int → List Int
  | 0, _ => []
  | d + 1, k => cap2 (wrap64 (rd a k + rd b k)) :: sumFrom a b d (k + 1)
theorem sumFrom_length (a b : List Int) : ∀ d k, (sumFrom a b d k).length = d
  | 0, _ => rfl
  | d + 1, k => by rw [sumFrom, List.length_cons, sumFrom_length a b d (k + 1)]
def addRow (a b : List Int) : List Int := sumFrom a b a.length 0
def row0 (n i : Nat) : List Int := (List.replicate n 0).set i 1
def base0 (n m : Nat) : List (List Int) := (List.range m).map (row0 n)
theorem base0_succ (n m : Nat) : base0 n (m + 1) = base0 n m ++ [row0 n m] := by unfold base0; rw [List.range_succ, List.map_append]; rfl
theorem base0_length (n m : Nat) : (base0 n m).length = m := by unfold base0; simp
def grow (ss : List (S69)) : Nat → Int → List (List Int) → List (List Int)
  | 0, _, rows => rows
  | d + 1, i, rows => grow ss d (i + 1) (rows ++ [addRow (rd_L3 rows (rd_T69 ss i).f0) (rd_L3 rows (rd_T69 ss i).f1)])
/-- The exponents of all values. -/
def exps (n : Nat) (ss : List (S69)) : List (List Int) := grow ss ss.length 0 (base0 n n)
def RowOk (n : Nat) (r : List Int) : Prop := r.length = n ∧ ∀ e ∈ r, 0 ≤ e ∧ e ≤ 1000001
def RowsOk (n m : Nat) (rows : List (List Int)) : Prop := rows.length = m ∧ ∀ r ∈ rows, RowOk n r
theorem rd_mem (rows : List (List Int)) (a : Int) (h0 : 0 ≤ a) (h1 : a < rows.length) : rd_L3 rows a ∈ rows := by
  unfold rd_L3
  have h : a.toNat < rows.length := by omega
  rw [show rows.getD a.toNat [] = rows[a.toNat] by simp [List.getD, h]]
  exact List.getElem_mem h
theorem rd_in (r : List Int) (n : Nat) (hr : RowOk n r) (i : Int) : 0 ≤ rd r i ∧ rd r i ≤ 1000001 := by
  unfold rd
  rw [List.getD_eq_getElem?_getD]
  cases h : r[i.toNat]? with
  | none => simp
  | some e => exact hr.2 e (List.mem_of_getElem? h)
theorem sumFrom_ok (n : Nat) (a b : List Int) (ha : RowOk n a) (hb : RowOk n b) : ∀ d k, ∀ e ∈ sumFrom a b d k, 0 ≤ e ∧ e ≤ 1000001
  | 0, _, e, h => by cases h
  | d + 1, k, e, h => by
    rw [sumFrom] at h
    rcases List.mem_cons.1 h with rfl | h
    · have := rd_in a n ha k
      have := rd_in b n hb k
      rw [w64 (by omega) (by omega)]
      unfold cap2
      split <;> omega
    · exact sumFrom_ok n a b ha hb d (k + 1) e h
theorem addRow_ok (n : Nat) (a b : List Int) (ha : RowOk n a) (hb : RowOk n b) : RowOk n (addRow a b) := ⟨by unfold addRow; rw [sumFrom_length]; exact ha.1, sumFrom_ok n a b ha hb _ _⟩
theorem base0_ok (n m : Nat) : RowsOk n m (base0 n m) := by
  refine ⟨base0_length n m, fun r hr => ?_⟩
  unfold base0 at hr
  obtain ⟨i, _, rfl⟩ := List.mem_map.1 hr
  refine ⟨by unfold row0; simp, fun e he => ?_⟩
  unfold row0 at he
  rcases List.mem_or_eq_of_mem_set he with h | rfl
  · have := (List.mem_replicate.1 h).2
    omega
  · omega
theorem RowsOk.snoc {n m : Nat} {rows : List (List Int)} {r : List Int} (h : RowsOk n m rows) (hr : RowOk n r) : RowsOk n (m + 1) (rows ++ [r]) := ⟨by rw [List.length_append, h.1]; rfl, fun q hq => by
  rcases List.mem_append.1 hq with h1 | h1
  · exact h.2 q h1
  · rw [List.mem_singleton.1 h1]; exact hr⟩
theorem grow_ok (n : Nat) (ss : List (S69)) (ho : InOrder n ss) : ∀ (d i : Nat) (rows : List (List Int)), i + d = ss.length → RowsOk n (n + i) rows → RowsOk n (n + ss.length) (grow ss d i rows) := by
  intro d
  induction d with
  | zero =>
    intro i rows hd h
    obtain rfl : i = ss.length := by omega
    exact h
  | succ d ih =>
    intro i rows hd h
    obtain ⟨h1, h2, h3⟩ := ho i (by omega)
    have hl := h.1
    rw [grow]
    exact ih (i + 1) _ (by omega) (h.snoc (addRow_ok n _ _ (h.2 _ (rd_mem rows _ h1 (by omega))) (h.2 _ (rd_mem rows _ (by omega) (by omega)))))
theorem exps_ok (n : Nat) (ss : List (S69)) (ho : InOrder n ss) : RowsOk n (n + ss.length) (exps n ss) := grow_ok n ss ho ss.length 0 _ (by omega) (base0_ok n n)

theorem plSum_ev (a b : List Int) (hl : b.length = a.length) (ha : a.length ≤ 1000) : Ev (fun k => spec_plSum.f k a b) (addRow a b) := by
  have loop : ∀ (d : Nat) (i : Int) (acc : List Int), 0 ≤ i → i + d = a.length → acc.length + d ≤ 1000000 → Ev (fun k => spec_plSum.l0 k a b acc a.length i) (acc ++ sumFrom a b d i) := by
    intro d
    induction d with
    | zero =>
      intro i acc h0 hd _
      refine ev_shift ?_
      simp only [spec_plSum.l0, if_neg (show ¬ i < (a.length : Int) by omega), sumFrom, List.append_nil]
      exact Ev.now _
    | succ d ih =>
      intro i acc h0 hd hacc
      have e : ∀ x : Int, spec_l1Least.f x 1000001 = some (cap2 x) := fun x => by
        unfold spec_l1Least.f cap2
        split <;> rfl
      refine ev_shift ?_
      simp only [spec_plSum.l0, if_pos (show i < (a.length : Int) by omega), if_pos h0, if_pos (show i < (b.length : Int) by omega), if_pos (show acc.length < 17592186044416 by omega), e, Option.bind_some, w64 (show -9223372036854775808 ≤ i + 1 by omega) (by omega), sumFrom]
      have := ih (i + 1) (acc ++ [cap2 (wrap64 (rd a i + rd b i))]) (by omega) (by omega) (by simp only [List.length_append, List.length_singleton]; omega)
      rwa [List.append_assoc, List.singleton_append] at this
  unfold spec_plSum.f addRow
  have := loop a.length 0 [] (by omega) (by omega) (by simp; omega)
  rwa [List.nil_append] at this
theorem plExponents_ev (n : Nat) (ss : List (S69)) (os : List Int) (hn : n ≤ 6) (hs : ss.length ≤ 40) (ho : InOrder n ss) : Ev (fun k => spec_plExponents.f k n ss os) (exps n ss) := by
  have second : ∀ (d i : Nat) (rows : List (List Int)), i + d = ss.length → RowsOk n (n + i) rows → Ev (fun k => spec_plExponents.l1 k rows ss ss.length i) (grow ss d i rows) := by
    intro d
    induction d with
    | zero =>
      intro i rows hd _
      refine ev_shift ?_
      simp only [spec_plExponents.l1, if_neg (show ¬ (i : Int) < (ss.length : Int) by omega), grow]
      exact Ev.now _
    | succ d ih =>
      intro i rows hd h
      obtain ⟨h1, h2, h3⟩ := ho i (by omega)
      have hl := h.1
      have ra := h.2 _ (rd_mem rows (rd_T69 ss i).f0 h1 (by omega))
      have rb := h.2 _ (rd_mem rows (rd_T69 ss i).f1 (by omega) (by omega))
      refine ev_shift ?_
      simp only [spec_plExponents.l1, if_pos (show (i : Int) < (ss.length : Int) by omega), if_pos (show (0 : Int) ≤ (i : Int) by omega), if_pos h1, if_pos (show (rd_T69 ss i).f0 < (rows.length : Int) by omega), if_pos (show 0 ≤ (rd_T69 ss i).f1 by omega), if_pos (show (rd_T69 ss i).f1 < (rows.length : Int) by omega), if_pos (show rows.length < 5864062014805 by omega), w64 (show -9223372036854775808 ≤ (i : Int) + 1 by omega) (by omega), grow]
      refine ev_bind (plSum_ev _ _ (by rw [ra.1, rb.1]) (by rw [ra.1]; omega)) ?_
      exact ih (i + 1) _ (by omega) (h.snoc (addRow_ok n _ _ ra rb))
  have first_ : ∀ (d i : Nat), i + d = n → Ev (fun k => spec_plExponents.l0 k (base0 n i) i n ss os) (exps n ss) := by
    intro d
    induction d with
    | zero =>
      intro i hd
      obtain rfl : i = n := by omega
      refine ev_shift ?_
      simp only [spec_plExponents.l0, if_neg (show ¬ (i : Int) < (i : Int) by omega)]
      exact second ss.length 0 _ (by omega) (base0_ok i i)
    | succ d ih =>
      intro i hd
      refine ev_shift ?_
      simp only [spec_plExponents.l0, if_pos (show (i : Int) < (n : Int) by omega), if_pos (show (0 : Int) ≤ (n : Int) by omega), Int.toNat_natCast, if_pos (show n ≤ 35184372088832 by omega), Option.bind_some, if_pos (show (0 : Int) ≤ (i : Int) by omega), List.length_replicate, base0_length, if_pos (show i < 5864062014805 by omega), w64 (show -9223372036854775808 ≤ (i : Int) + 1 by omega) (by omega)]
      have := ih (i + 1) (by omega)
      rw [base0_succ] at this
      exact this
  exact first_ n 0 (by omega)
theorem exponents_ev (n : Nat) (ss : List (S69)) (os : List Int) (hn : n ≤ 6) (hs : ss.length ≤ 40) (ho : InOrder n ss) : Ev (fun k => impl_Plan_exponents.f k n ss os) (exps n ss) := by
  have inner : ∀ (rows : List (List Int)) (i : Nat) (A B : Int) (r : List (List Int)), rows.length ≤ 100 → RowOk n (rd_L3 rows A) → RowOk n (rd_L3 rows B) → 0 ≤ B → B < rows.length → Ev (fun k => impl_Plan_exponents.l1 k (rows ++ [addRow (rd_L3 rows A) (rd_L3 rows B)]) ss ss.length (wrap64 ((i : Int) + 1))) r → ∀ (d : Nat) (j : Int) (acc : List Int), 0 ≤ j → j + d = (rd_L3 rows A).length → acc.length + d ≤ 1000000 → acc ++ sumFrom (rd_L3 rows A) (rd_L3 rows B) d j = addRow (rd_L3 rows A) (rd_L3 rows B) → Ev (fun k => impl_Plan_exponents.l2 k rows acc ss ss.length i (rd_L3 rows A) (rd_L3 rows A).length j A B) r := by
    intro rows i A B r hl ra rb hb0 hb1 hr d
    induction d with
    | zero =>
      intro j acc h0 hd _ he
      rw [sumFrom, List.append_nil] at he
      refine ev_shift ?_
      simp only [impl_Plan_exponents.l2, if_neg (show ¬ j < ((rd_L3 rows A).length : Int) by omega), if_pos (show rows.length < 5864062014805 by omega)]
      rw [he]
      exact hr
    | succ d ih =>
      intro j acc h0 hd hacc he
      have hlen : (rd_L3 rows B).length = (rd_L3 rows A).length := by rw [ra.1, rb.1]
      have e : ∀ x : Int, mn x 1000001 = cap2 x := fun x => by
        unfold mn cap2
        split <;> split <;> omega
      refine ev_shift ?_
      simp only [impl_Plan_exponents.l2, if_pos (show j < ((rd_L3 rows A).length : Int) by omega), if_pos h0, if_pos hb0, if_pos hb1, if_pos (show j < ((rd_L3 rows B).length : Int) by omega), if_pos (show acc.length < 17592186044416 by omega), e, w64 (show -9223372036854775808 ≤ j + 1 by omega) (by have := ra.1; omega)]
      rw [sumFrom] at he
      exact ih (j + 1) _ (by omega) (by omega) (by simp only [List.length_append, List.length_singleton]; omega) (by rw [List.append_assoc, List.singleton_append]; exact he)
  have second : ∀ (d i : Nat) (rows : List (List Int)), i + d = ss.length → RowsOk n (n + i) rows → Ev (fun k => impl_Plan_exponents.l1 k rows ss ss.length i) (grow ss d i rows) := by
    intro d
    induction d with
    | zero =>
      intro i rows hd _
      refine ev_shift ?_
      simp only [impl_Plan_exponents.l1, if_neg (show ¬ (i : Int) < (ss.length : Int) by omega), grow]
      exact Ev.now _
    | succ d ih =>
      intro i rows hd h
      obtain ⟨h1, h2, h3⟩ := ho i (by omega)
      have hl := h.1
      have ra := h.2 _ (rd_mem rows (rd_T69 ss i).f0 h1 (by omega))
      have rb := h.2 _ (rd_mem rows (rd_T69 ss i).f1 (by omega) (by omega))
      refine ev_shift ?_
      simp only [impl_Plan_exponents.l1, if_pos (show (i : Int) < (ss.length : Int) by omega), if_pos (show (0 : Int) ≤ (i : Int) by omega), if_pos h1, if_pos (show (rd_T69 ss i).f0 < (rows.length : Int) by omega), grow]
      refine inner rows i _ _ _ (by omega) ra rb (by omega) (by omega) ?_ (rd_L3 rows (rd_T69 ss i).f0).length 0 [] (by omega) (by omega) (by have := ra.1; simp; omega) (by rw [List.nil_append]; rfl)
      rw [w64 (by omega) (by omega)]
      exact ih (i + 1) _ (by omega) (h.snoc (addRow_ok n _ _ ra rb))
  have first_ : ∀ (d i : Nat), i + d = n → Ev (fun k => impl_Plan_exponents.l0 k (base0 n i) n i n ss os) (exps n ss) := by
    intro d
    induction d with
    | zero =>
      intro i hd
      obtain rfl : i = n := by omega
      refine ev_shift ?_
      simp only [impl_Plan_exponents.l0, if_neg (show ¬ (i : Int) < (i : Int) by omega)]
      exact second ss.length 0 _ (by omega) (base0_ok i i)
    | succ d ih =>
      intro i hd
      refine ev_shift ?_
      simp only [impl_Plan_exponents.l0, if_pos (show (i : Int) < (n : Int) by omega), if_pos (show (0 : Int) ≤ (n : Int) by omega), Int.toNat_natCast, if_pos (show n ≤ 35184372088832 by omega), Option.bind_some, if_pos (show (0 : Int) ≤ (i : Int) by omega), List.length_replicate, base0_length, if_pos (show i < 5864062014805 by omega), w64 (show -9223372036854775808 ≤ (i : Int) + 1 by omega) (by omega)]
      have := ih (i + 1) (by omega)
      rw [base0_succ] at this
      exact this
  exact first_ n 0 (by omega)
/-! IsPlan -/
def goodFrom (rows : List (List Int)) : Nat → Int → Bool
  | 0, _ => true
  | d + 1, i => if allFrom (rd_L3 rows i) 0 1000000 (rd_L3 rows i).length 0 = true then goodFrom rows d (i + 1) else false
def planOk (n : Int) (ss : List (S69)) (os : List Int) : Bool := impl_IsPlan.formed n ss os && goodFrom (exps n.toNat ss) (exps n.toNat ss).length 0
theorem goodFrom_all (rows : List (List Int)) : ∀ (xs pre : List (List Int)), rows = pre ++ xs → goodFrom rows xs.length (pre.length : Int) = xs.all (fun r => allFrom r 0 1000000 r.length 0)
  | [], pre, _ => rfl
  | x :: xs, pre, h => by
    have e : rd_L3 rows (pre.length : Int) = x := by
      unfold rd_L3
      rw [Int.toNat_natCast, h]
      simp [List.getD_eq_getElem?_getD]
    have := goodFrom_all rows xs (pre ++ [x]) (by rw [h, List.append_assoc]; rfl)
    rw [List.length_append] at this
    rw [List.length_cons, goodFrom, e, List.all_cons]
    cases allFrom x 0 1000000 x.length 0 with
    | true => rw [if_pos rfl, Bool.true_and, ← this]; rfl
    | false => rw [if_neg (by decide), Bool.false_and]
theorem goodFrom_eq (rows : List (List Int)) : goodFrom rows rows.length 0 = rows.all (fun r => allFrom r 0 1000000 r.length 0) := goodFrom_all rows rows [] rfl
theorem steps_order (n : Nat) (ss : List (S69)) : ∀ (d i : Nat), impl_IsPlan.steps n ss d i = true → ∀ j, i ≤ j → j < i + d → 0 ≤ (rd_T69 ss j).f0 ∧ (rd_T69 ss j).f0 ≤ (rd_T69 ss j).f1 ∧ (rd_T69 ss j).f1 < n + j := by
  intro d
  induction d with
  | zero => intro i _ j h1 h2; omega
  | succ d ih =>
    intro i h j h1 h2
    rw [impl_IsPlan.steps] at h
    by_cases k1 : (rd_T69 ss i).f0 < 0
    · rw [if_pos k1] at h; cases h
    · rw [if_neg k1] at h
      by_cases k2 : (rd_T69 ss i).f0 > (rd_T69 ss i).f1
      · rw [if_pos k2] at h; cases h
      · rw [if_neg k2] at h
        by_cases k3 : (rd_T69 ss i).f1 ≥ (n : Int) + i
        · rw [if_pos k3] at h; cases h
        · rw [if_neg k3] at h
          by_cases e : j = i
          · subst e; omega
          · exact ih (i + 1) h j (by omega) (by omega)
theorem order_of (n : Nat) (ss : List (S69)) (h : impl_IsPlan.steps n ss ss.length 0 = true) : InOrder n ss := fun i hi => steps_order n ss ss.length 0 h i (by omega) (by omega)
theorem formed_of {n : Int} {ss : List (S69)} {os : List Int} (h : impl_IsPlan.formed n ss os = true) : (1 ≤ n ∧ n ≤ 6) ∧ ss.length ≤ 40 ∧ os.length ≤ 6 ∧ impl_IsPlan.steps n ss ss.length 0 = true ∧ anyIx (impl_IsPlan.outs n ss os) os.length 0 = false := by
  unfold impl_IsPlan.formed at h
  by_cases c1 : 1 ≤ n ∧ n ≤ 6
  · rw [if_pos c1] at h
    by_cases c2 : ss.length ≤ 40
    · rw [if_pos c2] at h
      by_cases c3 : os.length ≤ 6
      · rw [if_pos c3] at h
        by_cases c4 : impl_IsPlan.steps n ss ss.length 0 = true
        · rw [if_pos c4] at h
          exact ⟨c1, c2, c3, c4, by simpa using h⟩
        · rw [if_neg c4] at h; cases h
      · rw [if_neg c3] at h; cases h
    · rw [if_neg c2] at h; cases h
  · rw [if_neg c1] at h; cases h
def maxFrom (xs : List Int) : Nat → Int → Int → Int
  | 0, _, m => m
  | d + 1, i, m => maxFrom xs d (i + 1) (mx m (rd xs i))
theorem max_ev (xs : List Int) (h0 : 0 < xs.length) (hl : xs.length ≤ 1000000) : Ev (fun k => slices_Max_int_int.f k xs) (maxFrom xs (xs.length - 1) 1 (rd xs 0)) := by
  have loop : ∀ (d : Nat) (i m : Int), 0 ≤ i → i + d = xs.length → Ev (fun k => slices_Max_int_int.l0 k xs m i) (maxFrom xs d i m) := by
    intro d
    induction d with
    | zero =>
      intro i m _ hd
      refine ev_shift ?_
      simp only [slices_Max_int_int.l0, if_neg (show ¬ i < (xs.length : Int) by omega), maxFrom]
      exact Ev.now _
    | succ d ih =>
      intro i m h0 hd
      refine ev_shift ?_
      simp only [slices_Max_int_int.l0, if_pos (show i < (xs.length : Int) by omega), if_pos h0, w64 (show -9223372036854775808 ≤ i + 1 by omega) (by omega), maxFrom]
      exact ih (i + 1) _ (by omega) (by omega)
  unfold slices_Max_int_int.f
  simp only [if_neg (show ¬ (xs.length : Int) < 1 by omega), if_pos (show (0 : Int) < (xs.length : Int) by omega)]
  exact loop (xs.length - 1) 1 _ (by omega) (by omega)
theorem max_all (n : Nat) (xs : List Int) (hx : RowOk n xs) : ∀ (d : Nat) (i m : Int), decide (maxFrom xs d i m > 1000000) = !(decide (m ≤ 1000000) && allFrom xs 0 1000000 d i)
  | 0, i, m => by
    rw [maxFrom, allFrom, Bool.and_true]
    by_cases c : m ≤ 1000000
    · rw [decide_eq_true c, decide_eq_false (by omega)]; rfl
    · rw [decide_eq_false c, decide_eq_true (by omega)]; rfl
  | d + 1, i, m => by
    have hr := rd_in xs n hx i
    rw [maxFrom, max_all n xs hx d (i + 1), allFrom]
    by_cases c : m ≤ 1000000
    · rw [decide_eq_true c]
      by_cases c2 : rd xs i ≤ 1000000
      · rw [if_pos ⟨hr.1, c2⟩, decide_eq_true (by unfold mx; split <;> omega)]
      · rw [if_neg (by omega), decide_eq_false (by unfold mx; split <;> omega)]; rfl
    · rw [decide_eq_false c, decide_eq_false (by unfold mx; split <;> omega)]; rfl
theorem top_ev (n : Nat) (hn : 1 ≤ n) (hn6 : n ≤ 6) : ∀ (rows : List (List Int)), (∀ r ∈ rows, RowOk n r) → Ev (fun k => impl_IsPlan.top k rows) (!(rows.all (fun r => allFrom r 0 1000000 r.length 0)))
  | [], _ => Ev.now _
  | x :: xs, h => by
    have hx := h x (List.mem_cons_self ..)
    have hxl := hx.1
    refine ev_bind (max_ev x (by omega) (by omega)) ?_
    refine ev_bind (top_ev n hn hn6 xs (fun r hr => h r (List.mem_cons_of_mem _ hr))) ?_
    have e : decide (maxFrom x (x.length - 1) 1 (rd x 0) > 1000000) = !(allFrom x 0 1000000 x.length 0) := by
      obtain ⟨m, hm⟩ : ∃ m, x.length = m + 1 := ⟨x.length - 1, by omega⟩
      have hr := rd_in x n hx 0
      rw [hm, Nat.add_sub_cancel, max_all n x hx, allFrom]
      by_cases c : rd x 0 ≤ 1000000
      · rw [decide_eq_true c, if_pos ⟨hr.1, c⟩, Bool.true_and]; rfl
      · rw [decide_eq_false c, if_neg (by omega)]; rfl
    have e2 : (decide (maxFrom x (x.length - 1) 1 (rd x 0) > 1000000) || !(xs.all fun r => allFrom r 0 1000000 r.length 0)) = !((x :: xs).all fun r => allFrom r 0 1000000 r.length 0) := by
      rw [e, List.all_cons, Bool.not_and]
    simp only [e2]
    exact Ev.now _
theorem isPlan_ev (n : Int) (ss : List (S69)) (os : List Int) : Ev (fun k => impl_IsPlan.f k n ss os) (planOk n ss os) := by
  unfold impl_IsPlan.f planOk
  by_cases c : impl_IsPlan.formed n ss os = true
  · obtain ⟨h1, h2, h3, h4, h5⟩ := formed_of c
    obtain ⟨m, rfl⟩ := Int.eq_ofNat_of_zero_le (show 0 ≤ n by omega)
    have ho := order_of m ss h4
    have hok := exps_ok m ss ho
    simp only [c, if_true, Bool.true_and, Int.toNat_natCast]
    refine ev_bind (exponents_ev m ss os (by omega) h2 ho) ?_
    refine ev_bind (top_ev m (by omega) (by omega) _ hok.2) ?_
    rw [goodFrom_eq, Bool.not_not]
    exact Ev.now _
  · simp only [Bool.eq_false_iff.mpr c, Bool.false_and]
    exact Ev.now _
theorem outs_all (n : Int) (ss : List (S69)) (os : List Int) : ∀ (d i : Nat), anyIx (impl_IsPlan.outs n ss os) d i = !(allFrom os 0 (n + ss.length - 1) d i)
  | 0, _ => rfl
  | d + 1, i => by
    have ih := outs_all n ss os d (i + 1)
    rw [anyIx, allFrom, ih]
    unfold impl_IsPlan.outs
    by_cases c : 0 ≤ rd os i ∧ rd os i ≤ n + ss.length - 1
    · rw [if_pos c, decide_eq_true c.1, decide_eq_true c.2]; rfl
    · rw [if_neg c]
      have e : (decide (0 ≤ rd os (i : Int)) && decide (rd os (i : Int) ≤ n + ss.length - 1)) = false := by rw [Bool.and_eq_false_iff, decide_eq_false_iff_not, decide_eq_false_iff_not]; omega
      rw [e]; rfl
theorem plGood_ev (n : Int) (ss : List (S69)) (os : List Int) : Ev (fun k => spec_plGood.f k n ss os) (planOk n ss os) := by
  have no : ∀ b : Bool, planOk n ss os = false → b = true → Ev (fun k => spec_plGood.j0 k b n ss os) (planOk n ss os) := by
    intro b h hb
    subst hb
    refine ev_shift ?_
    simp only [spec_plGood.j0, if_true, h]
    exact Ev.now _
  unfold spec_plGood.f
  simp only [l1In_eq, Option.bind_some]
  by_cases c1 : 1 ≤ n ∧ n ≤ 6
  · simp only [decide_eq_true c1.1, decide_eq_true c1.2, Bool.and_self, if_true]
    by_cases c2 : ss.length ≤ 40
    · simp only [if_neg (show ¬ (ss.length : Int) > 40 by omega)]
      by_cases c3 : os.length ≤ 6
      · have e3 : decide ((os.length : Int) > 6) = false := decide_eq_false (by omega)
        simp only [e3]
        obtain ⟨m, rfl⟩ := Int.eq_ofNat_of_zero_le (show 0 ≤ n by omega)
        refine ev_shift ?_
        simp only [spec_plGood.j0, Bool.false_eq_true, if_false]
        have rows : ∀ (rs : List (List Int)), rs.length ≤ 1000 → (∀ r ∈ rs, RowOk m r) → ∀ (d : Nat) (i : Int), 0 ≤ i → i + d = rs.length → Ev (fun k => spec_plGood.l1 k rs rs.length i m ss os) (goodFrom rs d i && allFrom os 0 ((m : Int) + ss.length - 1) os.length 0) := by
          intro rs hl hok d
          induction d with
          | zero =>
            intro i h0 hd
            refine ev_shift ?_
            simp only [spec_plGood.l1, if_neg (show ¬ i < (rs.length : Int) by omega), goodFrom, Bool.true_and]
            rw [w64 (show -9223372036854775808 ≤ (m : Int) + (ss.length : Int) by omega) (by omega), w64 (by omega) (by omega)]
            exact ev_bind (l1All_ev os 0 _ (by omega)) (Ev.now _)
          | succ d ih =>
            intro i h0 hd
            have hr := (hok _ (rd_mem rs i h0 (by omega))).1
            refine ev_shift ?_
            simp only [spec_plGood.l1, if_pos (show i < (rs.length : Int) by omega), if_pos h0, w64 (show -9223372036854775808 ≤ i + 1 by omega) (by omega), goodFrom]
            refine ev_bind (l1All_ev _ 0 1000000 (by omega)) ?_
            by_cases c : allFrom (rd_L3 rs i) 0 1000000 (rd_L3 rs i).length 0 = true
            · simp only [c, if_true]
              exact ih (i + 1) (by omega) (by omega)
            · simp only [if_neg c, Bool.false_and]
              exact Ev.now _
        have steps : ∀ (r : Bool) (d i : Nat), i + d = ss.length → (impl_IsPlan.steps m ss d i = true → Ev (fun k => (spec_plExponents.f k m ss os).bind fun t => spec_plGood.l1 k t t.length 0 m ss os) r) → (impl_IsPlan.steps m ss d i = false → r = false) → Ev (fun k => spec_plGood.l0 k ss ss.length i m ss os) r := by
          intro r d
          induction d with
          | zero =>
            intro i hd h1 _
            refine ev_shift ?_
            simp only [spec_plGood.l0, if_neg (show ¬ (i : Int) < (ss.length : Int) by omega)]
            exact h1 rfl
          | succ d ih =>
            intro i hd h1 h2
            rw [impl_IsPlan.steps] at h1 h2
            refine ev_shift ?_
            simp only [spec_plGood.l0, if_pos (show (i : Int) < (ss.length : Int) by omega), if_pos (show (0 : Int) ≤ (i : Int) by omega), l1In_eq, Option.bind_some, w64 (show -9223372036854775808 ≤ (m : Int) + (i : Int) by omega) (by omega), w64 (show -9223372036854775808 ≤ (i : Int) + 1 by omega) (by omega)]
            by_cases k1 : (rd_T69 ss i).f0 < 0
            · rw [if_pos k1] at h2
              rw [h2 rfl]
              simp only [decide_eq_false (show ¬ 0 ≤ (rd_T69 ss i).f0 by omega), Bool.false_and, Bool.false_eq_true, if_false]
              exact Ev.now _
            · rw [if_neg k1] at h1 h2
              by_cases k2 : (rd_T69 ss i).f0 > (rd_T69 ss i).f1
              · rw [if_pos k2] at h2
                rw [h2 rfl]
                simp only [decide_eq_false (show ¬ (rd_T69 ss i).f0 ≤ (rd_T69 ss i).f1 by omega), Bool.and_false, Bool.false_eq_true, if_false]
                exact Ev.now _
              · rw [if_neg k2] at h1 h2
                simp only [decide_eq_true (show 0 ≤ (rd_T69 ss i).f0 by omega), decide_eq_true (show (rd_T69 ss i).f0 ≤ (rd_T69 ss i).f1 by omega), Bool.and_self, if_true]
                by_cases k3 : (rd_T69 ss i).f1 ≥ (m : Int) + i
                · rw [if_pos k3] at h2
                  rw [h2 rfl]
                  simp only [if_pos k3]
                  exact Ev.now _
                · rw [if_neg k3] at h1 h2
                  simp only [if_neg k3]
                  exact ih (i + 1) (by omega) h1 h2
        refine steps _ ss.length 0 (by omega) (fun hs => ?_) (fun hs => ?_)
        · have ho := order_of m ss hs
          have hok := exps_ok m ss ho
          have hlen := hok.1
          refine ev_bind (plExponents_ev m ss os (by omega) c2 ho) ?_
          have := rows (exps m ss) (by omega) hok.2 (exps m ss).length 0 (by omega) (by omega)
          have e : planOk m ss os = (goodFrom (exps m ss) (exps m ss).length 0 && allFrom os 0 ((m : Int) + ss.length - 1) os.length 0) := by
            unfold planOk impl_IsPlan.formed
            rw [if_pos c1, if_pos c2, if_pos c3, if_pos hs, outs_all, Bool.not_not, Bool.and_comm, Int.toNat_natCast]
            rfl
          rw [e]
          exact this
        · unfold planOk impl_IsPlan.formed
          rw [if_pos c1, if_pos c2, if_pos c3, if_neg (by rw [hs]; decide), Bool.false_and]
      · exact no _ (by unfold planOk impl_IsPlan.formed; rw [if_pos c1, if_pos c2, if_neg c3, Bool.false_and]) (decide_eq_true (by omega))
    · simp only [if_pos (show (ss.length : Int) > 40 by omega)]
      exact no _ (by unfold planOk impl_IsPlan.formed; rw [if_pos c1, if_neg c2, Bool.false_and]) rfl
  · have e : (decide (1 ≤ n) && decide (n ≤ 6)) = false := by rw [Bool.and_eq_false_iff, decide_eq_false_iff_not, decide_eq_false_iff_not]; omega
    simp only [e, Bool.false_eq_true, if_false]
    exact no _ (by unfold planOk impl_IsPlan.formed; rw [if_neg c1, Bool.false_and]) rfl
theorem planOk_of {n : Int} {ss : List (S69)} {os : List Int} (h : planOk n ss os = true) : ∃ m : Nat, n = m ∧ 1 ≤ m ∧ m ≤ 6 ∧ ss.length ≤ 40 ∧ os.length ≤ 6 ∧ InOrder m ss ∧ (∀ j : Nat, j < os.length → 0 ≤ rd os j ∧ rd os j ≤ (m : Int) + ss.length - 1) ∧ ∀ r ∈ exps m ss, ∀ e ∈ r, 0 ≤ e ∧ e ≤ 1000000 := by
  unfold planOk at h
  rw [Bool.and_eq_true] at h
  obtain ⟨h1, h2, h3, h4, h5⟩ := formed_of h.1
  obtain ⟨m, rfl⟩ := Int.eq_ofNat_of_zero_le (show 0 ≤ n by omega)
  have all_rd : ∀ (xs : List Int) (a b : Int) (d i : Nat), allFrom xs a b d i = true → ∀ j : Nat, i ≤ j → j < i + d → a ≤ rd xs j ∧ rd xs j ≤ b := by
    intro xs a b d
    induction d with
    | zero => intro i _ j h1 h2; omega
    | succ d ih =>
      intro i h j h1 h2
      rw [allFrom] at h
      by_cases c : a ≤ rd xs i ∧ rd xs i ≤ b
      · rw [if_pos c] at h
        by_cases e : j = i
        · subst e; exact c
        · exact ih (i + 1) h j (by omega) (by omega)
      · rw [if_neg c] at h; cases h
  refine ⟨m, rfl, by omega, by omega, h2, h3, order_of m ss h4, fun j hj => ?_, fun r hr e he => ?_⟩
  · rw [outs_all, Bool.not_eq_false'] at h5
    exact all_rd os _ _ os.length 0 h5 j (by omega) (by omega)
  · have h6 := h.2
    rw [Int.toNat_natCast, goodFrom_eq] at h6
    have h7 := List.all_eq_true.1 h6 r hr
    obtain ⟨j, hj, rfl⟩ := List.mem_iff_getElem.1 he
    have := all_rd r 0 1000000 r.length 0 h7 j (by omega) (by omega)
    rw [rd_nat] at this
    simpa [List.getD_eq_getElem?_getD, hj] using this
theorem sz_gen (n : Int) (l1 : List (S92)) (l2 : List Int) (a : Int) (h0 : 0 ≤ a) (ha : a ≤ 1048576) (m1 : l1.length ≤ maxLen) (m2 : l2.length ≤ maxLen) : laws_szPlan.f n l1 l2 a = some (if (l1.length : Int) + l2.length ≤ a then a - (l1.length : Int) - (l2.length : Int) else -1) := by
  unfold maxLen at m1 m2
  unfold laws_szPlan.f laws_szStepS.f laws_szIntS.f
  rw [w64 (show -9223372036854775808 ≤ a - (l1.length : Int) by omega) (by omega)]
  by_cases c : a - (l1.length : Int) < 0
  · rw [if_pos c, Option.bind_some, if_pos (by omega), if_neg (by omega)]
  · rw [if_neg c, Option.bind_some, if_neg c, w64 (by omega) (by omega)]
    by_cases c2 : a - (l1.length : Int) - (l2.length : Int) < 0
    · rw [if_pos c2, Option.bind_some, if_pos (by omega), if_neg (by omega)]
    · rw [if_neg c2, Option.bind_some, if_neg c2, if_pos (by omega)]
def marked (n : Nat) (a : Int) : List Int := (List.range n).map (fun j : Nat => a + (j : Int))
theorem marked_length (n : Nat) (a : Int) : (marked n a).length = n := by simp [marked]
theorem marked_succ (n : Nat) (a : Int) : marked (n + 1) a = marked n a ++ [a + n] := by simp [marked, List.range_succ]
theorem marked_get (n : Nat) (a : Int) (j : Nat) (h : j < n) : (marked n a).getD j 0 = a + j := by simp [marked, List.getD, h]

theorem marked_step (xs : List Int) (a : Int) (i : Nat) (h : i < xs.length) : (marked i a ++ xs.drop i).set i (a + i) = marked (i + 1) a ++ xs.drop (i + 1) := by
  rw [List.set_append_right _ _ (by rw [marked_length]; exact Nat.le_refl _), marked_length, Nat.sub_self, List.drop_eq_getElem_cons h, List.set_cons_zero, marked_succ]
  simp

theorem markIntS_ev (xs : List Int) (a : Int) (h0 : 0 ≤ a) (ha : a + xs.length ≤ 4611686018427387904) : Ev (fun k => laws_markIntS.f k xs a) (a + xs.length, marked xs.length a) := by
  have loop : ∀ (d k i : Nat), i ≤ xs.length → xs.length - i = d → d < k → laws_markIntS.l0 k (marked i a ++ xs.drop i) (a + i) i = some (a + xs.length, marked xs.length a) := by
    intro d
    induction d with
    | zero =>
      intro k i h1 hd hk
      obtain ⟨k, rfl⟩ : ∃ m, k = m + 1 := ⟨k - 1, by omega⟩
      obtain rfl : i = xs.length := by omega
      have hl : (marked xs.length a ++ xs.drop xs.length).length = xs.length := by simp [marked_length]
      rw [laws_markIntS.l0, hl, if_neg (by omega)]
      simp
    | succ d ih =>
      intro k i h1 hd hk
      obtain ⟨k, rfl⟩ : ∃ m, k = m + 1 := ⟨k - 1, by omega⟩
      have hl : (marked i a ++ xs.drop i).length = xs.length := by simp [marked_length]; omega
      rw [laws_markIntS.l0, hl, if_pos (by omega), if_pos (by omega), Int.toNat_natCast, marked_step xs a i (by omega), w64 (by omega) (by omega), w64 (by omega) (by omega)]
      have e : a + (i : Int) + 1 = a + ((i + 1 : Nat) : Int) := by omega
      rw [e]
      exact ih k (i + 1) (by omega) (by omega) (by omega)
  refine ⟨xs.length + 1, fun k hk => ?_⟩
  have h := loop xs.length k 0 (by omega) (by omega) (by omega)
  simpa [marked, laws_markIntS.f] using h

theorem heldIntS_ev (n : Nat) (a : Int) (h0 : 0 ≤ a) (ha : a + n ≤ 4611686018427387904) : Ev (fun k => laws_heldIntS.f k (marked n a) a) (a + n) := by
  have loop : ∀ (d k i : Nat), i ≤ n → n - i = d → d < k → laws_heldIntS.l0 k (marked n a) (a + i) i = some (a + n) := by
    intro d
    induction d with
    | zero =>
      intro k i h1 hd hk
      obtain ⟨k, rfl⟩ : ∃ m, k = m + 1 := ⟨k - 1, by omega⟩
      obtain rfl : i = n := by omega
      rw [laws_heldIntS.l0, marked_length, if_neg (by omega)]
    | succ d ih =>
      intro k i h1 hd hk
      obtain ⟨k, rfl⟩ : ∃ m, k = m + 1 := ⟨k - 1, by omega⟩
      rw [laws_heldIntS.l0, marked_length, if_pos (by omega), if_pos (by omega), rd_nat, marked_get n a i (by omega), if_pos rfl, w64 (by omega) (by omega), w64 (by omega) (by omega)]
      have e : a + (i : Int) + 1 = a + ((i + 1 : Nat) : Int) := by omega
      rw [e]
      exact ih k (i + 1) (by omega) (by omega) (by omega)
  refine ⟨n + 1, fun k hk => ?_⟩
  have h := loop n k 0 (by omega) (by omega) (by omega)
  simpa [laws_heldIntS.f] using h

abbrev St := S69
abbrev rdS (ss : List St) (i : Int) : St := rd_T69 ss i
def markedS (n : Nat) (a : Int) : List St := (List.range n).map (fun j : Nat => (⟨a + 2 * (j : Int), a + 2 * (j : Int) + 1⟩ : St))
theorem markedS_length (n : Nat) (a : Int) : (markedS n a).length = n := by simp [markedS]
theorem markedS_succ (n : Nat) (a : Int) : markedS (n + 1) a = markedS n a ++ [⟨a + 2 * (n : Int), a + 2 * (n : Int) + 1⟩] := by simp [markedS, List.range_succ]
theorem rdS_nat (ss : List St) (j : Nat) : rdS ss (j : Int) = ss.getD j z69 := by unfold rdS rd_T69; rw [Int.toNat_natCast]
theorem markedS_get (n : Nat) (a : Int) (j : Nat) (h : j < n) : rdS (markedS n a) (j : Int) = ⟨a + 2 * (j : Int), a + 2 * (j : Int) + 1⟩ := by rw [rdS_nat]; simp [markedS, List.getD, h]

theorem setS (l : List St) (x : St) (y : St) (t : List St) : (l ++ x :: t).set l.length y = l ++ y :: t := by
  rw [List.set_append_right _ _ (Nat.le_refl _), Nat.sub_self, List.set_cons_zero]
theorem getS (l : List St) (x : St) (t : List St) : rdS (l ++ x :: t) (l.length : Int) = x := by
  rw [rdS_nat]; simp [List.getD]

theorem markStepS_ev (xs : List St) (a : Int) (h0 : 0 ≤ a) (ha : a + 2 * xs.length ≤ 4611686018427387904) : Ev (fun k => laws_markStepS.f k xs a) (a + 2 * xs.length, markedS xs.length a) := by
  have loop : ∀ (d k i : Nat), i ≤ xs.length → xs.length - i = d → d < k → laws_markStepS.l0 k (markedS i a ++ xs.drop i) (a + 2 * i) i = some (a + 2 * xs.length, markedS xs.length a) := by
    intro d
    induction d with
    | zero =>
      intro k i h1 hd hk
      obtain ⟨k, rfl⟩ : ∃ m, k = m + 1 := ⟨k - 1, by omega⟩
      obtain rfl : i = xs.length := by omega
      have hl : (markedS xs.length a ++ xs.drop xs.length).length = xs.length := by simp [markedS_length]
      rw [laws_markStepS.l0, hl, if_neg (by omega)]
      simp
    | succ d ih =>
      intro k i h1 hd hk
      obtain ⟨k, rfl⟩ : ∃ m, k = m + 1 := ⟨k - 1, by omega⟩
      have hlt : i < xs.length := by omega
      have hl : (markedS i a ++ xs.drop i).length = xs.length := by simp [markedS_length]; omega
      have hm := markedS_length i a
      rw [laws_markStepS.l0, hl, if_pos (by omega), if_pos (by omega), Int.toNat_natCast, List.drop_eq_getElem_cons hlt]
      have e1 := setS (markedS i a) xs[i] ⟨a + 2 * (i : Int), (rdS (markedS i a ++ xs[i] :: xs.drop (i + 1)) (i : Int)).f1⟩ (xs.drop (i + 1))
      rw [hm] at e1
      unfold rdS at e1
      rw [e1]
      simp only [Option.bind_some]
      have e2 := getS (markedS i a) ⟨a + 2 * (i : Int), (rdS (markedS i a ++ xs[i] :: xs.drop (i + 1)) (i : Int)).f1⟩ (xs.drop (i + 1))
      rw [hm] at e2
      unfold rdS at e2
      rw [e2]
      have e3 := setS (markedS i a) ⟨a + 2 * (i : Int), (rdS (markedS i a ++ xs[i] :: xs.drop (i + 1)) (i : Int)).f1⟩ ⟨a + 2 * (i : Int), a + 2 * (i : Int) + 1⟩ (xs.drop (i + 1))
      rw [hm] at e3
      unfold rdS at e3
      rw [w64 (show -9223372036854775808 ≤ a + 2 * (i : Int) + 1 by omega) (by omega), e3, w64 (show -9223372036854775808 ≤ a + 2 * (i : Int) + 1 + 1 by omega) (by omega), w64 (show -9223372036854775808 ≤ (i : Int) + 1 by omega) (by omega)]
      have h := ih k (i + 1) (by omega) (by omega) (by omega)
      rw [markedS_succ, List.append_assoc, List.singleton_append] at h
      have e4 : a + 2 * ((i + 1 : Nat) : Int) = a + 2 * (i : Int) + 1 + 1 := by omega
      rw [e4] at h
      exact h
  refine ⟨xs.length + 1, fun k hk => ?_⟩
  have h := loop xs.length k 0 (by omega) (by omega) (by omega)
  simpa [markedS, laws_markStepS.f] using h

theorem markPlan_ev (n : Int) (ss : List St) (os : List Int) (h1 : ss.length ≤ 2000000) (h2 : os.length ≤ 2000000) : Ev (fun k => laws_markPlan.f k n ss os 1) (1 + 2 * ss.length + os.length, markedS ss.length 1, marked os.length (1 + 2 * ss.length)) := by
  unfold laws_markPlan.f
  refine ev_bind (markStepS_ev ss 1 (by omega) (by omega)) ?_
  refine ev_bind (markIntS_ev os (1 + 2 * ss.length) (by omega) (by omega)) ?_
  exact Ev.now _
theorem l1Own_eq (xs : List Int) (h : xs.length < 17592186044416) : spec_l1Own.f xs = some xs := by
  unfold spec_l1Own.f
  simp only [Option.bind_some, List.length_nil, Nat.zero_add, if_pos h, List.nil_append]

theorem clone_eq (xs : List Int) (h : xs.length < 17592186044416) : slices_Clone_int_int.f xs = some xs := by
  unfold slices_Clone_int_int.f
  rw [if_pos h]

/-! the exponents of the outputs -/
def powersOf (m : Nat) (ss : List St) (os : List Int) : List (List Int) := os.map (rd_L3 (exps m ss))
theorem powersOf_length (m : Nat) (ss : List St) (os : List Int) : (powersOf m ss os).length = os.length := by unfold powersOf; simp
theorem powersOf_row (m : Nat) (ss : List St) (os : List Int) (ho : InOrder m ss) (hos : ∀ j : Nat, j < os.length → 0 ≤ rd os j ∧ rd os j ≤ (m : Int) + ss.length - 1) : ∀ r ∈ powersOf m ss os, r.length = m := fun r hr => by
  obtain ⟨x, hx, rfl⟩ := List.mem_map.1 hr
  obtain ⟨i, hi, rfl⟩ := List.mem_iff_getElem.1 hx
  have h := hos i hi
  rw [rd_nat, show os.getD i 0 = os[i] by simp [List.getD, hi]] at h
  have hok := exps_ok m ss ho
  exact (hok.2 _ (rd_mem (exps m ss) os[i] h.1 (by rw [hok.1]; omega))).1
theorem outputExponents_ev (m : Nat) (ss : List St) (os : List Int) (h2 : m ≤ 6) (h3 : ss.length ≤ 40) (h4 : os.length ≤ 6) (ho : InOrder m ss) (hos : ∀ j : Nat, j < os.length → 0 ≤ rd os j ∧ rd os j ≤ (m : Int) + ss.length - 1) : Ev (fun k => impl_Plan_outputExponents.f k m ss os) (powersOf m ss os) := by
  unfold impl_Plan_outputExponents.f powersOf
  refine ev_bind (exponents_ev m ss os h2 h3 ho) ?_
  have hok := exps_ok m ss ho
  generalize exps m ss = rows at hok ⊢
  have loop : ∀ (d i : Nat), i + d = os.length → Ev (fun k => impl_Plan_outputExponents.l0 k rows ((os.take i).map (rd_L3 rows)) os os.length i) (os.map (rd_L3 rows)) := by
    intro d
    induction d with
    | zero =>
      intro i hd
      refine ev_shift ?_
      simp only [impl_Plan_outputExponents.l0, if_neg (show ¬ (i : Int) < (os.length : Int) by omega)]
      rw [List.take_of_length_le (by omega)]
      exact Ev.now _
    | succ d ih =>
      intro i hd
      obtain ⟨o1, o2⟩ := hos i (by omega)
      have hr := (hok.2 _ (rd_mem rows (rd os i) o1 (by rw [hok.1]; omega))).1
      have hc : slices_Clone_int_int.f (rd_L3 rows (rd os (i : Int))) = some (rd_L3 rows (rd os (i : Int))) := by unfold slices_Clone_int_int.f; rw [if_pos (by omega)]
      have e : rd os (i : Int) = os[i]'(by omega) := by rw [rd_nat]; simp [List.getD, show i < os.length by omega]
      have hn := ih (i + 1) (by omega)
      rw [List.take_succ_eq_append_getElem (by omega), List.map_append, ← e] at hn
      refine ev_shift ?_
      simp only [impl_Plan_outputExponents.l0, if_pos (show (i : Int) < (os.length : Int) by omega), if_pos (show (0 : Int) ≤ (i : Int) by omega), if_pos o1, if_pos (show rd os (i : Int) < (rows.length : Int) by rw [hok.1]; omega), hc, Option.bind_some, if_pos (show ((os.take i).map (rd_L3 rows)).length < 5864062014805 by rw [List.length_map, List.length_take]; omega), w64 (show -9223372036854775808 ≤ (i : Int) + 1 by omega) (by omega)]
      exact hn
  exact loop os.length 0 (by omega)
theorem plPowers_ev (m : Nat) (ss : List St) (os : List Int) (h2 : m ≤ 6) (h3 : ss.length ≤ 40) (h4 : os.length ≤ 6) (ho : InOrder m ss) (hos : ∀ j : Nat, j < os.length → 0 ≤ rd os j ∧ rd os j ≤ (m : Int) + ss.length - 1) : Ev (fun k => spec_plPowers.f k m ss os) (powersOf m ss os) := by
  unfold spec_plPowers.f powersOf
  refine ev_bind (plExponents_ev m ss os h2 h3 ho) ?_
  have hok := exps_ok m ss ho
  generalize exps m ss = rows at hok ⊢
  have loop : ∀ (d i : Nat), i + d = os.length → Ev (fun k => spec_plPowers.l0 k rows ((os.take i).map (rd_L3 rows)) os os.length i) (os.map (rd_L3 rows)) := by
    intro d
    induction d with
    | zero =>
      intro i hd
      refine ev_shift ?_
      simp only [spec_plPowers.l0, if_neg (show ¬ (i : Int) < (os.length : Int) by omega)]
      rw [List.take_of_length_le (by omega)]
      exact Ev.now _
    | succ d ih =>
      intro i hd
      obtain ⟨o1, o2⟩ := hos i (by omega)
      have hr := (hok.2 _ (rd_mem rows (rd os i) o1 (by rw [hok.1]; omega))).1
      have e : rd os (i : Int) = os[i]'(by omega) := by rw [rd_nat]; simp [List.getD, show i < os.length by omega]
      have hn := ih (i + 1) (by omega)
      rw [List.take_succ_eq_append_getElem (by omega), List.map_append, ← e] at hn
      refine ev_shift ?_
      simp only [spec_plPowers.l0, if_pos (show (i : Int) < (os.length : Int) by omega), if_pos (show (0 : Int) ≤ (i : Int) by omega), if_pos o1, if_pos (show rd os (i : Int) < (rows.length : Int) by rw [hok.1]; omega), l1Own_eq (rd_L3 rows (rd os (i : Int))) (by omega), Option.bind_some, if_pos (show ((os.take i).map (rd_L3 rows)).length < 5864062014805 by rw [List.length_map, List.length_take]; omega), w64 (show -9223372036854775808 ≤ (i : Int) + 1 by omega) (by omega)]
      exact hn
  exact loop os.length 0 (by omega)
def tot : List (List Int) → Nat
  | [] => 0
  | x :: xs => x.length + tot xs
def markedSS : List (List Int) → Int → List (List Int)
  | [], _ => []
  | x :: xs, a => marked x.length a :: markedSS xs (a + x.length)
theorem markedSS_length : ∀ (xs : List (List Int)) (a : Int), (markedSS xs a).length = xs.length
  | [], _ => rfl
  | x :: xs, a => by rw [markedSS, List.length_cons, markedSS_length xs, List.length_cons]
theorem tot_le (c : Nat) : ∀ (xs : List (List Int)), (∀ r ∈ xs, r.length ≤ c) → tot xs ≤ xs.length * c
  | [], _ => by simp [tot]
  | x :: xs, h => by
    have h1 := h x (List.mem_cons_self ..)
    have h2 := tot_le c xs (fun r hr => h r (List.mem_cons_of_mem _ hr))
    rw [tot, List.length_cons, Nat.succ_mul]
    omega
theorem markGo_ev : ∀ (xs : List (List Int)) (a : Int), 0 ≤ a → a + tot xs ≤ 100000000 → Ev (fun k => laws_markIntSS.go k xs a) (a + tot xs, markedSS xs a)
  | [], a, _, _ => by
    have e : a + ((tot [] : Nat) : Int) = a := by simp [tot]
    rw [e]
    exact Ev.now _
  | x :: xs, a, h0, h1 => by
    rw [tot] at h1 ⊢
    have i1 := markIntS_ev x a h0 (by omega)
    have i2 := markGo_ev xs (a + x.length) (by omega) (by omega)
    have e : a + ((x.length + tot xs : Nat) : Int) = a + x.length + tot xs := by omega
    rw [e, markedSS]
    unfold laws_markIntSS.go
    refine ev_bind i1 ?_
    refine ev_bind i2 ?_
    exact Ev.now _
theorem row_at : ∀ (xs : List (List Int)) (a : Int) (i : Nat), i < xs.length → (markedSS xs a).getD i [] = marked (xs.getD i []).length (a + tot (xs.take i))
  | [], _, i, h => by simp at h
  | x :: xs, a, 0, _ => by simp [markedSS, tot]
  | x :: xs, a, i + 1, h => by
    have := row_at xs (a + x.length) i (by simpa using h)
    rw [markedSS, List.getD_cons_succ, List.getD_cons_succ, this, List.take_succ_cons, tot]
    congr 1
    omega
theorem tot_take (xs : List (List Int)) : ∀ (i : Nat), i < xs.length → tot (xs.take (i + 1)) = tot (xs.take i) + (xs.getD i []).length := by
  induction xs with
  | nil => intro i h; simp at h
  | cons x xs ih =>
    intro i h
    cases i with
    | zero => simp [tot]
    | succ i =>
      have := ih i (by simpa using h)
      rw [List.take_succ_cons, List.take_succ_cons, tot, tot, this, List.getD_cons_succ]
      omega
theorem tot_mono (xs : List (List Int)) (i : Nat) : tot (xs.take i) ≤ tot xs := by
  induction xs generalizing i with
  | nil => simp [tot]
  | cons x xs ih =>
    cases i with
    | zero => simp [tot]
    | succ i => rw [List.take_succ_cons, tot, tot]; have := ih i; omega
theorem held_ev (xs : List (List Int)) (hl : xs.length ≤ 1000) (ht : tot xs ≤ 1000000) : Ev (fun k => laws_heldIntSS.f k (markedSS xs 1) 1) (1 + (tot xs : Int)) := by
  have hml := markedSS_length xs 1
  have loop : ∀ (d i : Nat), i + d = xs.length → Ev (fun k => laws_heldIntSS.l0 k (markedSS xs 1) (1 + (tot (xs.take i) : Int)) i) (1 + (tot xs : Int)) := by
    intro d
    induction d with
    | zero =>
      intro i hd
      refine ev_shift ?_
      rw [List.take_of_length_le (by omega)]
      simp only [laws_heldIntSS.l0, if_neg (show ¬ (i : Int) < ((markedSS xs 1).length : Int) by omega)]
      exact Ev.now _
    | succ d ih =>
      intro i hd
      have hi : i < xs.length := by omega
      have hr : rd_L3 (markedSS xs 1) (i : Int) = marked (xs.getD i []).length (1 + (tot (xs.take i) : Int)) := by unfold rd_L3; rw [Int.toNat_natCast, row_at xs 1 i hi]
      have ht1 := tot_take xs i hi
      have ht2 := tot_mono xs (i + 1)
      have hh := heldIntS_ev (xs.getD i []).length (1 + (tot (xs.take i) : Int)) (by omega) (by omega)
      have i1 := ih (i + 1) (by omega)
      have e : (1 + (tot (xs.take i) : Int)) + ((xs.getD i []).length : Int) = 1 + (tot (xs.take (i + 1)) : Int) := by omega
      rw [e] at hh
      have n0 : ¬ (1 + (tot (xs.take (i + 1)) : Int)) < 0 := by omega
      refine ev_shift ?_
      simp only [laws_heldIntSS.l0, if_pos (show (i : Int) < ((markedSS xs 1).length : Int) by omega), if_pos (show (0 : Int) ≤ (i : Int) by omega), hr, w64 (show -9223372036854775808 ≤ (i : Int) + 1 by omega) (by omega)]
      refine ev_bind hh ?_
      simp only [if_neg n0]
      exact i1
  have := loop xs.length 0 (by omega)
  rw [List.take_zero] at this
  exact this
theorem eqSS_ev (xs : List (List Int)) (hl : xs.length ≤ 1000) (hr : ∀ r ∈ xs, r.length ≤ 1000) : Ev (fun k => laws_eqIntSS.f k xs xs) true := by
  unfold laws_eqIntSS.f
  simp only [if_true]
  have loop : ∀ (d i : Nat), i + d = xs.length → Ev (fun k => laws_eqIntSS.l0 k xs xs i) true := by
    intro d
    induction d with
    | zero =>
      intro i hd
      refine ev_shift ?_
      simp only [laws_eqIntSS.l0, if_neg (show ¬ (i : Int) < (xs.length : Int) by omega)]
      exact Ev.now _
    | succ d ih =>
      intro i hd
      have e : rd_L3 xs (i : Int) = xs[i]'(by omega) := by unfold rd_L3; rw [Int.toNat_natCast]; simp [List.getD, show i < xs.length by omega]
      have hs := eqIntS_same (xs[i]'(by omega)) (by have := hr _ (List.getElem_mem (show i < xs.length by omega)); omega)
      have i1 := ih (i + 1) (by omega)
      refine ev_shift ?_
      simp only [laws_eqIntSS.l0, if_pos (show (i : Int) < (xs.length : Int) by omega), if_pos (show (0 : Int) ≤ (i : Int) by omega), e, w64 (show -9223372036854775808 ≤ (i : Int) + 1 by omega) (by omega)]
      refine ev_bind hs ?_
      simp only [if_true]
      exact i1
  exact loop xs.length 0 (by omega)
def answer (n : Int) (ss : List St) (os : List Int) : List (List Int) × Bool := if planOk n ss os = true then (powersOf n.toNat ss os, true) else ([], false)
theorem answer_len (n : Int) (ss : List St) (os : List Int) : (answer n ss os).1.length ≤ 6 ∧ ∀ r ∈ (answer n ss os).1, r.length ≤ 6 := by
  unfold answer
  by_cases c : planOk n ss os = true
  · rw [if_pos c]
    obtain ⟨m, rfl, h1, h2, h3, h4, ho, hos, _⟩ := planOk_of c
    rw [Int.toNat_natCast]
    exact ⟨by rw [powersOf_length]; exact h4, fun r hr => by rw [powersOf_row m ss os ho hos r hr]; exact h2⟩
  · rw [if_neg c]
    exact ⟨Nat.zero_le _, fun r hr => by cases hr⟩
theorem spec_ev (n : Int) (ss : List St) (os : List Int) : Ev (fun k => spec_OutputExponents.f k n ss os) (answer n ss os) := by
  unfold spec_OutputExponents.f answer
  refine ev_bind (plGood_ev n ss os) ?_
  by_cases c : planOk n ss os = true
  · obtain ⟨m, rfl, h1, h2, h3, h4, ho, hos, _⟩ := planOk_of c
    simp only [c, if_true, Int.toNat_natCast]
    exact ev_bind (plPowers_ev m ss os h2 h3 h4 ho hos) (Ev.now _)
  · simp only [if_neg c]
    exact Ev.now _
theorem impl_ev (n : Int) (ss : List St) (os : List Int) : Ev (fun k => impl_OutputExponents.f k n ss os) (answer n ss os) := by
  unfold impl_OutputExponents.f answer
  refine ev_bind (isPlan_ev n ss os) ?_
  by_cases c : planOk n ss os = true
  · obtain ⟨m, rfl, h1, h2, h3, h4, ho, hos, _⟩ := planOk_of c
    simp only [c, if_true, Int.toNat_natCast]
    exact ev_bind (outputExponents_ev m ss os h2 h3 h4 ho hos) (Ev.now _)
  · simp only [if_neg c]
    exact Ev.now _
theorem markSS_ev (xs : List (List Int)) (hl : xs.length ≤ 1000) (ht : tot xs ≤ 1000000) : Ev (fun k => laws_markIntSS.f k xs 1) (1 + (tot xs : Int), markedSS xs 1) := by
  unfold laws_markIntSS.f
  simp only [if_pos (show xs.length ≤ 1000000 by omega)]
  exact markGo_ev xs 1 (by omega) (by omega)
theorem FnExactOutputExponents : laws_FnExactOutputExponents.Pure := by
  intro n l1 l2 _ _ m1 _ m2
  have s1 := sz_gen n l1 l2 1048576 (by omega) (by omega) m1 m2
  by_cases hl : l1.length + l2.length ≤ 1048576
  · rw [if_pos (by omega)] at s1
    refine Ev.rounds (r := true) ?_
    have hp := toPlan_ev n l1 l2 (by omega) (by omega)
    have hcl : (l1.map cv).length ≤ 1048576 := by rw [List.length_map]; omega
    have hpe := eqPlan_same n (l1.map cv) l2 hcl (by omega)
    have hs := spec_ev n (l1.map cv) l2
    have hi := impl_ev n (l1.map cv) l2
    have hal := answer_len n (l1.map cv) l2
    have hmp := markPlan_ev n (l1.map cv) l2 (by omega) (by omega)
    generalize answer n (l1.map cv) l2 = a at hs hi hal
    obtain ⟨ar, ab⟩ := a
    dsimp only at hal
    have htt : tot ar ≤ 1000000 := Nat.le_trans (tot_le 6 ar hal.2) (by have := hal.1; omega)
    have hq := eqSS_ev ar (by have := hal.1; omega) (fun r hr => by have := hal.2 r hr; omega)
    have hm := markSS_ev ar (by have := hal.1; omega) htt
    have hh := held_ev ar (by have := hal.1; omega) htt
    have e : ∀ b : Bool, (b != b) = false := fun b => by cases b <;> rfl
    have n1 : ¬ (1048576 - (l1.length : Int) - (l2.length : Int)) < 0 := by omega
    have n2 : ¬ 1 + 2 * ((l1.map cv).length : Int) + (l2.length : Int) < 0 := by omega
    have n3 : ¬ (1 + (tot ar : Int)) < 0 := by omega
    unfold laws_FnExactOutputExponents.f
    simp only [s1, Option.bind_some, if_neg n1]
    refine ev_bind hp ?_
    refine ev_bind hs ?_
    refine ev_bind hp ?_
    refine ev_bind hi ?_
    refine ev_bind hq ?_
    simp only [if_true, e, Bool.false_eq_true, if_false]
    refine ev_bind hp ?_
    refine ev_bind hpe ?_
    simp only [if_true]
    refine ev_bind hmp ?_
    simp only [if_neg n2]
    refine ev_bind hq ?_
    simp only [if_true]
    refine ev_bind hm ?_
    refine ev_bind hh ?_
    simp only [if_neg n3, if_true]
    refine ev_bind hp ?_
    refine ev_bind hi ?_
    refine ev_bind hq ?_
    simp only [if_true, e, Bool.false_eq_true, if_false]
    refine ev_bind hh ?_
    simp only [if_neg n3, if_true]
    exact Ev.now _
  · rw [if_neg (by omega)] at s1
    refine ⟨0, ?_⟩
    unfold laws_FnExactOutputExponents.f
    simp only [s1, Option.bind_some]
    exact if_pos (by decide)
end Go.Proofs.Ytopkiccdfmjjjaa.Pure
