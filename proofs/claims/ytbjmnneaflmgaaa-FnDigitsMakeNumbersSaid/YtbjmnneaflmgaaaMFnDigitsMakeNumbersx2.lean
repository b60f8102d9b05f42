-- Written by wip/mine.py (a program of this repo) for this claim.
import Derived.Test.YtbjmnneaflmgaaaMFnDigitsMakeNumbersx0
import Derived.Test.YtbjmnneaflmgaaaMFnDigitsMakeNumbersx1
namespace Go.Proofs.Ytbjmnneaflmgaaa.MFnDigitsMakeNumbers
open Go.RowKit Go.Proofs.YtbjmnneaflmgaaaW.PrintWords Go.Proofs.YtbjmnneaflmgaaaW.PrintLast Go.Proofs.YtbjmnneaflmgaaaW.PrintMore Go.Proofs.YtbjmnneaflmgaaaV
attribute [local go_sem] max2_int min2_int max_two min_two max_three min_three max_four min_four   -- for this text's walks alone
set_option linter.unusedVariables false
set_option linter.unusedSimpArgs false

/-! ### impl_DigitsOf: function 20 -/
def impl_DigitsOf.f (k : Nat) (a0 : Int) (a1 : Int) : Option (List Int × Bool) := (impl_isNumber.f a0).bind fun t159 => (if t159 = true then ((impl_baseOk.f a1).bind fun t160 => (if t160 = true then ((impl_digits.f k a0 a1).bind fun t161 => (some (t161, true))) else (some (([] : List Int), false)))) else (some (([] : List Int), false)))
theorem impl_DigitsOf.mono : ∀ a0 a1 k, LeO (impl_DigitsOf.f k a0 a1) (impl_DigitsOf.f (k + 1) a0 a1) := by
  intro a0 a1 k
  unfold impl_DigitsOf.f
  repeat' first
      | (with_reducible exact impl_digits.mono _ _ _)
      | (with_reducible exact LeO.refl _)
      | (with_reducible exact LeO.none _)
      | (with_reducible refine LeO.ite ?_ ?_)
      | (with_reducible refine LeO.bind ?_ (fun _ => ?_))
      | exact impl_digits.mono _ _ _
      | exact LeO.none _
      | refine LeO.ite ?_ ?_
      | refine LeO.bind ?_ (fun _ => ?_)
set_option maxHeartbeats 8000000 in
set_option maxRecDepth 100000 in
theorem impl_DigitsOf.calls (k : Nat) (a0 : Int) (a1 : Int) (r1 : List Int) (r2 : Bool) (w : World) (h : impl_DigitsOf.f k a0 a1 = some (r1, r2)) :
    Calls Try.prog 20 #[.int .i64 a0, .int .i64 a1] w fun e w' => ∃ v0_ : Value, e = .returned (.tuple #[v0_, .bool r2]) ∧ Kd.R (Kd.int .i64) 3 w' w.heap.size (fun _ => True) v0_ r1 ∧ Below w.heap.size w w' := by
  have HB := Aside0.mk (Below.refl w.heap.size w)
  have H : ((impl_isNumber.f a0).bind fun t159 => (if t159 = true then ((impl_baseOk.f a1).bind fun t160 => (if t160 = true then ((impl_digits.f k a0 a1).bind fun t161 => (some (t161, true))) else (some (([] : List Int), false)))) else (some (([] : List Int), false)))) = some (r1, r2) := h
  clear h
  replace H := Option.bind_eq_some_iff.mp H
  obtain ⟨t159, A30, H⟩ := H
  replace H : (if t159 = true then ((impl_baseOk.f a1).bind fun t160 => (if t160 = true then ((impl_digits.f k a0 a1).bind fun t161 => (some (t161, true))) else (some (([] : List Int), false)))) else (some (([] : List Int), false))) = some (r1, r2) := H
  have A3 := Aside0.mk A30
  clear A30
  by_cases c4 : t159 = true
  · subst c4
    have H1 : ((impl_baseOk.f a1).bind fun t160 => (if t160 = true then ((impl_digits.f k a0 a1).bind fun t161 => (some (t161, true))) else (some (([] : List Int), false)))) = some (r1, r2) := by rw [if_pos rfl] at H; exact H
    clear H
    have H := H1
    clear H1
    replace H := Option.bind_eq_some_iff.mp H
    obtain ⟨t160, A50, H⟩ := H
    replace H : (if t160 = true then ((impl_digits.f k a0 a1).bind fun t161 => (some (t161, true))) else (some (([] : List Int), false))) = some (r1, r2) := H
    have A5 := Aside0.mk A50
    clear A50
    by_cases c6 : t160 = true
    · subst c6
      have H1 : ((impl_digits.f k a0 a1).bind fun t161 => (some (t161, true))) = some (r1, r2) := by rw [if_pos rfl] at H; exact H
      clear H
      have H := H1
      clear H1
      replace H := Option.bind_eq_some_iff.mp H
      obtain ⟨t161, A70, H⟩ := H
      replace H : (some (t161, true)) = some (r1, r2) := H
      have A7 := Aside0.mk A70
      clear A70
      simp only [Option.some.injEq, Prod.mk.injEq] at H
      obtain ⟨rfl, rfl⟩ := H
      go_enter Try.func20, Try.ntmps20
      go_wp2_with (first | ((with_reducible refine gate_callee (f := 39) rfl ?_); refine goesL_ (some 7) rfl rfl Try.func39 (by kernel_rfl) rfl #[.int .i64 a0] rfl (by (try simp only [List.map_toArray, List.map_cons, List.map_nil]); first | done | rfl | (simp only [List.length_drop, List.length_take]; rfl)) ?_; (with_reducible refine (impl_isNumber.calls a0 true _ A3.out).mono ?_); rintro e w' ⟨rfl, ⟨nd, rfl⟩⟩; refine ⟨_, rfl, ?_⟩) | (go_at_call 40; (with_reducible refine (impl_baseOk.calls a1 true _ A5.out).mono ?_); rintro e w' ⟨rfl, ⟨nd, rfl⟩⟩) | ((with_reducible refine gate_callee (f := 41) rfl ?_); refine goesL_ (some 16) rfl rfl Try.func41 (by kernel_rfl) rfl #[.int .i64 a0, .int .i64 a1] rfl (by (try simp only [List.map_toArray, List.map_cons, List.map_nil]); first | done | rfl | (simp only [List.length_drop, List.length_take]; rfl)) ?_; (with_reducible refine (impl_digits.calls k a0 a1 t161 _ A7.out).mono ?_); rintro e w8 ⟨v162, rfl, ho0, hb⟩; refine ⟨_, rfl, ?_⟩; have n0_ := Aside0.mk (Kd.R_lower ho0 (below_size (by repeat (first | (with_reducible first | exact HB.out | apply below_alloc | apply pw_below_drewN | apply below_drew1) | exact HB.out)))); have n1_ := Aside0.mk (below_step (by repeat (first | (with_reducible first | exact HB.out | apply below_alloc | apply pw_below_drewN | apply below_drew1) | exact HB.out)) hb); clear HB; have HO163 := n0_; have HB := n1_; clear n0_ n1_; (try clear hb); (try clear ho0)))
      go_ret2
      exact ⟨_, by first | rfl | (simp [errW_none, errW_some] <;> rfl) | (simp [*, errW_none, errW_some] <;> rfl), by (with_reducible repeat (first | apply Kd.R_alloc | apply Kd.R_drewN | apply Kd.R_drew)); exact HO163.out, by repeat (first | (with_reducible first | exact HB.out | apply below_alloc | apply pw_below_drewN | apply below_drew1) | exact HB.out)⟩
    · replace c6 := Bool.eq_false_iff.mpr c6
      subst c6
      have H1 : (some (([] : List Int), false)) = some (r1, r2) := by rw [if_neg (show ¬ (false = true) by decide)] at H; exact H
      clear H
      have H := H1
      clear H1
      simp only [Option.some.injEq, Prod.mk.injEq] at H
      obtain ⟨rfl, rfl⟩ := H
      go_enter Try.func20, Try.ntmps20
      go_wp2_with (first | ((with_reducible refine gate_callee (f := 39) rfl ?_); refine goesL_ (some 7) rfl rfl Try.func39 (by kernel_rfl) rfl #[.int .i64 a0] rfl (by (try simp only [List.map_toArray, List.map_cons, List.map_nil]); first | done | rfl | (simp only [List.length_drop, List.length_take]; rfl)) ?_; (with_reducible refine (impl_isNumber.calls a0 true _ A3.out).mono ?_); rintro e w' ⟨rfl, ⟨nd, rfl⟩⟩; refine ⟨_, rfl, ?_⟩) | (go_at_call 40; (with_reducible refine (impl_baseOk.calls a1 false _ A5.out).mono ?_); rintro e w' ⟨rfl, ⟨nd, rfl⟩⟩))
      go_ret2
      exact ⟨_, by first | rfl | (simp [errW_none, errW_some] <;> rfl) | (simp [*, errW_none, errW_some] <;> rfl), by first | exact Kd.R_nil _ _ _ _ _ | exact Kd.N_nil _ _ _ _ _ | exact Kd.V_nil _ _ _ _ _ | exact Kd.Q_nil _ _ _ _ _ | exact Kd.S_nil _ _ _ _ _, by repeat (first | (with_reducible first | exact HB.out | apply below_alloc | apply pw_below_drewN | apply below_drew1) | exact HB.out)⟩
  · replace c4 := Bool.eq_false_iff.mpr c4
    subst c4
    have H1 : (some (([] : List Int), false)) = some (r1, r2) := by rw [if_neg (show ¬ (false = true) by decide)] at H; exact H
    clear H
    have H := H1
    clear H1
    simp only [Option.some.injEq, Prod.mk.injEq] at H
    obtain ⟨rfl, rfl⟩ := H
    go_enter Try.func20, Try.ntmps20
    go_wp2_with (first | ((with_reducible refine gate_callee (f := 39) rfl ?_); refine goesL_ (some 7) rfl rfl Try.func39 (by kernel_rfl) rfl #[.int .i64 a0] rfl (by (try simp only [List.map_toArray, List.map_cons, List.map_nil]); first | done | rfl | (simp only [List.length_drop, List.length_take]; rfl)) ?_; (with_reducible refine (impl_isNumber.calls a0 false _ A3.out).mono ?_); rintro e w' ⟨rfl, ⟨nd, rfl⟩⟩; refine ⟨_, rfl, ?_⟩))
    go_ret2
    exact ⟨_, by first | rfl | (simp [errW_none, errW_some] <;> rfl) | (simp [*, errW_none, errW_some] <;> rfl), by first | exact Kd.R_nil _ _ _ _ _ | exact Kd.N_nil _ _ _ _ _ | exact Kd.V_nil _ _ _ _ _ | exact Kd.Q_nil _ _ _ _ _ | exact Kd.S_nil _ _ _ _ _, by repeat (first | (with_reducible first | exact HB.out | apply below_alloc | apply pw_below_drewN | apply below_drew1) | exact HB.out)⟩

/-! ### spec_l1In: function 25 -/
def spec_l1In.f (a0 : Int) (a1 : Int) (a2 : Int) : Option (Bool) := if a0 ≥ a1 then (some (decide (a0 ≤ a2))) else (some false)
set_option maxHeartbeats 8000000 in
set_option maxRecDepth 100000 in
theorem spec_l1In.calls (a0 : Int) (a1 : Int) (a2 : Int) (r : Bool) (w : World) (h : spec_l1In.f a0 a1 a2 = some r) :
    Calls Try.prog 25 #[.int .i64 a0, .int .i64 a1, .int .i64 a2] w fun e w' => e = .returned (.bool r) ∧ Drawn0 w w' := by
  have H : (if a0 ≥ a1 then (some (decide (a0 ≤ a2))) else (some false)) = some r := h
  clear h
  by_cases c4 : a0 ≥ a1
  · rw [if_pos c4] at H
    have c4b0 : decide (a1 ≤ a0) = true := decide_eq_true c4
    clear c4
    obtain rfl := Option.some.inj H
    go_enter Try.func25, Try.ntmps25
    go_wp2
    go_ret
    exact ⟨by first | rfl | (simp; done) | (simp [*]; done), by repeat (first | exact Drawn0.refl _ | apply Drawn0.step)⟩
  · rw [if_neg c4] at H
    have c4b0 : decide (a1 ≤ a0) = false := decide_eq_false c4
    clear c4
    obtain rfl := Option.some.inj H
    go_enter Try.func25, Try.ntmps25
    go_wp2
    go_ret
    exact ⟨by first | rfl | (simp; done) | (simp [*]; done), by repeat (first | exact Drawn0.refl _ | apply Drawn0.step)⟩

/-! ### spec_chNumber: function 42 -/
def spec_chNumber.f (a0 : Int) : Option (Bool) := (spec_l1In.f a0 1 1000000).bind fun t164 => (some t164)
set_option maxHeartbeats 8000000 in
set_option maxRecDepth 100000 in
theorem spec_chNumber.calls (a0 : Int) (r : Bool) (w : World) (h : spec_chNumber.f a0 = some r) :
    Calls Try.prog 42 #[.int .i64 a0] w fun e w' => e = .returned (.bool r) ∧ Drawn0 w w' := by
  have H : ((spec_l1In.f a0 1 1000000).bind fun t164 => (some t164)) = some r := h
  clear h
  replace H := Option.bind_eq_some_iff.mp H
  obtain ⟨t164, A20, H⟩ := H
  replace H : (some t164) = some r := H
  have A2 := Aside0.mk A20
  clear A20
  obtain rfl := Option.some.inj H
  go_enter Try.func42, Try.ntmps42
  go_wp2_with (first | ((with_reducible refine gate_callee (f := 25) rfl ?_); refine goesL_ (some 4) rfl rfl Try.func25 (by kernel_rfl) rfl #[.int .i64 a0, .int .i64 1, .int .i64 1000000] rfl (by (try simp only [List.map_toArray, List.map_cons, List.map_nil]); first | done | rfl | (simp only [List.length_drop, List.length_take]; rfl)) ?_; (with_reducible refine (spec_l1In.calls a0 1 1000000 t164 _ A2.out).mono ?_); rintro e w' ⟨rfl, ⟨nd, rfl⟩⟩; refine ⟨_, rfl, ?_⟩))
  go_ret
  exact ⟨by first | rfl | (simp; done) | (simp [*]; done), by repeat (first | exact Drawn0.refl _ | apply Drawn0.step)⟩

/-! ### spec_meDigits: function 43 -/
def spec_meDigits.l0 : Nat → Int → Int → List Int → Option (List Int)
  | 0, _, _, _ => none
  | k + 1, x0, x1, x5 => if x0 > 0 then (if x1 = 0 then (none) else (if x5.length < 17592186044416 then (spec_meDigits.l0 k (wrap64 (Int.tdiv x0 x1)) x1 (x5 ++ [Int.tmod x0 x1])) else (none))) else (some x5)
def spec_meDigits.f (k : Nat) (a0 : Int) (a1 : Int) : Option (List Int) := spec_meDigits.l0 k a0 a1 ([] : List Int)
theorem spec_meDigits.mono_l : ∀ k, (∀ y0 y1 y2, LeO (spec_meDigits.l0 k y0 y1 y2) (spec_meDigits.l0 (k + 1) y0 y1 y2))
  | 0 => fun _ _ _ r h => by simp [spec_meDigits.l0] at h
  | k + 1 => by
    have ih0 := spec_meDigits.mono_l k
    · intro y0 y1 y2
      unfold spec_meDigits.l0
      repeat' first
      | (with_reducible exact ih0 _ _ _)
      | (with_reducible exact LeO.refl _)
      | (with_reducible exact LeO.none _)
      | (with_reducible refine LeO.ite ?_ ?_)
      | (with_reducible refine LeO.bind ?_ (fun _ => ?_))
      | exact ih0 _ _ _
      | exact LeO.none _
      | refine LeO.ite ?_ ?_
      | refine LeO.bind ?_ (fun _ => ?_)
theorem spec_meDigits.mono : ∀ a0 a1 k, LeO (spec_meDigits.f k a0 a1) (spec_meDigits.f (k + 1) a0 a1) := by
  intro a0 a1 k
  have ih0 := spec_meDigits.mono_l k
  unfold spec_meDigits.f
  repeat' first
      | (with_reducible exact ih0 _ _ _)
      | (with_reducible exact LeO.refl _)
      | (with_reducible exact LeO.none _)
      | (with_reducible refine LeO.ite ?_ ?_)
      | (with_reducible refine LeO.bind ?_ (fun _ => ?_))
      | exact ih0 _ _ _
      | exact LeO.none _
      | refine LeO.ite ?_ ?_
      | refine LeO.bind ?_ (fun _ => ?_)
set_option maxHeartbeats 8000000 in
set_option maxRecDepth 100000 in
theorem spec_meDigits.calls (k : Nat) (a0 : Int) (a1 : Int) (r : List Int) (w : World) (h : spec_meDigits.f k a0 a1 = some r) :
    Calls Try.prog 43 #[.int .i64 a0, .int .i64 a1] w fun e w' => ∃ v0_ : Value, e = .returned (v0_) ∧ Kd.R (Kd.int .i64) 3 w' w.heap.size (fun _ => True) v0_ r ∧ Below w.heap.size w w' := by
  have HB := Aside0.mk (Below.refl w.heap.size w)
  have H : (spec_meDigits.l0 k a0 a1 ([] : List Int)) = some r := h
  clear h
  have H' := Aside0.mk H
  clear H
  go_enter Try.func43, Try.ntmps43
  go_wp2
  go_loopg [0, 5] k (fun kq v0 v5 w' => ∃ (x0_1 : Int) (x5_1 : List Int), v0 = .int .i64 x0_1 ∧ Aside0 (spec_meDigits.l0 kq x0_1 a1 x5_1 = some r) ∧ Aside0 (kq ≤ k) ∧ Aside0 (Kd.R (Kd.int .i64) 3 w' w.heap.size (fun _ => True) v5 x5_1) ∧ Aside0 (Below w.heap.size w w'))
  case atStart => exact ⟨(a0), (([] : List Int)), (by first | rfl | (simp; done) | (simp [*]; done)), H', ⟨Nat.le_refl _⟩, ⟨by first | exact Kd.R_nil _ _ _ _ _ | exact Kd.N_nil _ _ _ _ _ | exact Kd.V_nil _ _ _ _ _ | exact Kd.Q_nil _ _ _ _ _ | exact Kd.S_nil _ _ _ _ _⟩, ⟨by repeat (first | (with_reducible first | exact HB.out | apply below_alloc | apply pw_below_drewN | apply below_drew1) | exact HB.out)⟩⟩
  case round =>
    clear H'
    try clear p2
    obtain ⟨x0_1, x5_1, rfl, HA, HK1, HO_5, HB⟩ := hrel
    cases gk with
    | zero => exact absurd HA.out (by simp [spec_meDigits.l0])
    | succ k1 =>
      have H := HA.out
      clear HA
      simp only [spec_meDigits.l0] at H
      by_cases c3 : x0_1 > 0
      · rw [if_pos c3] at H
        have c3b0 : decide (0 < x0_1) = true := decide_eq_true c3
        clear c3
        by_cases c4 : a1 = 0
        · rw [if_pos c4] at H
          exact absurd H (by simp)
        · rw [if_neg c4] at H
          have c4b0 : (a1 == 0) = false := beq_eq_false_iff_ne.mpr c4
          have c4b1 : (a1 != 0) = true := bne_iff_ne.mpr c4
          by_cases c5 : x5_1.length < 17592186044416
          · rw [if_pos c5] at H
            have LMc5 := Aside0.mk c5
            clear c5
            obtain ⟨y165, hy165⟩ : ∃ y_ : List Int, y_ = (x5_1 ++ [Int.tmod x0_1 a1]) := ⟨_, rfl⟩
            replace H : (spec_meDigits.l0 k1 (wrap64 (Int.tdiv x0_1 a1)) a1 y165) = some r := by first | (rw [hy165]; with_reducible exact H) | (have H2_ := (Option.bind_some _ _).symm.trans H; rw [hy165]; with_reducible exact H2_) | (have H2_ := (Option.bind_some _ _).symm.trans H; with_reducible exact H2_) | with_reducible exact H | (rw [hy165]; exact H) | exact H
            have Ny165 := Aside0.mk hy165
            clear hy165
            have H' := Aside0.mk H
            clear H
            go_wp2_with (first | ((with_reducible refine gate_builtin (b := .append) (xs := #[.tmp 11, .tmp 15]) rfl ?_); at_builtin; refine Kd.R_append (Kd.int .i64) (w0 := w) w.heap.size rfl (.tmp 11) (.tmp 15) 22 3 (.int .i64 0) 8 rfl Try.underlying22 info3 rfl (by decide) (by omega) u5 x5_1 (Int.tmod x0_1 a1) [.int .i64 (Int.tmod x0_1 a1)] (fun _ => True) (fun _ => False) rfl rfl ?aP (fun _ hk => hk.elim) ?aF ?aO ?aB ?aS ?aL ?_; (case aP => exact rfl); (case aB => exact (by repeat (first | (with_reducible first | exact HB.out | apply below_alloc | apply pw_below_drewN | apply below_drew1) | exact HB.out))); (case aF => exact (fun _ _ => trivial)); (case aO => exact (by (with_reducible repeat (first | apply Kd.R_alloc | apply Kd.R_drewN | apply Kd.R_drew)); exact HO_5.out)); (case aS => exact (below_size (by repeat (first | (with_reducible first | exact HB.out | apply below_alloc | apply pw_below_drewN | apply below_drew1) | exact HB.out)))); (case aL => have := LMc5.out; omega); intro v166 w6 ho hb hg hat; rw [← Ny165.out] at ho; have n0_ := Aside0.mk (hb); have n1_ := Aside0.mk (ho); clear HB; clear HO_5; have HB := n0_; have HO167 := n1_; clear n0_ n1_; clear ho hb hg hat))
            go_roundg k1
            case measure => have := HK1.out; omega
            case rel => exact ⟨(wrap64 (Int.tdiv x0_1 a1)), (y165), (by first | rfl | (simp; done) | (simp [*]; done)), H', ⟨by have := HK1.out; omega⟩, ⟨by (with_reducible repeat (first | apply Kd.R_alloc | apply Kd.R_drewN | apply Kd.R_drew)); exact HO167.out⟩, ⟨by repeat (first | (with_reducible first | exact HB.out | apply below_alloc | apply pw_below_drewN | apply below_drew1) | exact HB.out)⟩⟩
          · rw [if_neg c5] at H
            exact absurd H (by simp)
      · rw [if_neg c3] at H
        have c3b0 : decide (0 < x0_1) = false := decide_eq_false c3
        clear c3
        obtain rfl := Option.some.inj H
        go_wp2
        go_ret
        exact ⟨_, by first | rfl | (simp [errW_none, errW_some] <;> rfl) | (simp [*, errW_none, errW_some] <;> rfl), by (with_reducible repeat (first | apply Kd.R_alloc | apply Kd.R_drewN | apply Kd.R_drew)); exact HO_5.out, by repeat (first | (with_reducible first | exact HB.out | apply below_alloc | apply pw_below_drewN | apply below_drew1) | exact HB.out)⟩

/-! ### spec_DigitsOf: function 21 -/
def spec_DigitsOf.f (k : Nat) (a0 : Int) (a1 : Int) : Option (List Int × Bool) := (spec_chNumber.f a0).bind fun t168 => (if t168 = true then ((spec_l1In.f a1 2 64).bind fun t169 => (if t169 = true then ((spec_meDigits.f k a0 a1).bind fun t170 => (some (t170, true))) else (some (([] : List Int), false)))) else (some (([] : List Int), false)))
theorem spec_DigitsOf.mono : ∀ a0 a1 k, LeO (spec_DigitsOf.f k a0 a1) (spec_DigitsOf.f (k + 1) a0 a1) := by
  intro a0 a1 k
  unfold spec_DigitsOf.f
  repeat' first
      | (with_reducible exact spec_meDigits.mono _ _ _)
      | (with_reducible exact LeO.refl _)
      | (with_reducible exact LeO.none _)
      | (with_reducible refine LeO.ite ?_ ?_)
      | (with_reducible refine LeO.bind ?_ (fun _ => ?_))
      | exact spec_meDigits.mono _ _ _
      | exact LeO.none _
      | refine LeO.ite ?_ ?_
      | refine LeO.bind ?_ (fun _ => ?_)
set_option maxHeartbeats 8000000 in
set_option maxRecDepth 100000 in
theorem spec_DigitsOf.calls (k : Nat) (a0 : Int) (a1 : Int) (r1 : List Int) (r2 : Bool) (w : World) (h : spec_DigitsOf.f k a0 a1 = some (r1, r2)) :
    Calls Try.prog 21 #[.int .i64 a0, .int .i64 a1] w fun e w' => ∃ v0_ : Value, e = .returned (.tuple #[v0_, .bool r2]) ∧ Kd.R (Kd.int .i64) 3 w' w.heap.size (fun _ => True) v0_ r1 ∧ Below w.heap.size w w' := by
  have HB := Aside0.mk (Below.refl w.heap.size w)
  have H : ((spec_chNumber.f a0).bind fun t168 => (if t168 = true then ((spec_l1In.f a1 2 64).bind fun t169 => (if t169 = true then ((spec_meDigits.f k a0 a1).bind fun t170 => (some (t170, true))) else (some (([] : List Int), false)))) else (some (([] : List Int), false)))) = some (r1, r2) := h
  clear h
  replace H := Option.bind_eq_some_iff.mp H
  obtain ⟨t168, A30, H⟩ := H
  replace H : (if t168 = true then ((spec_l1In.f a1 2 64).bind fun t169 => (if t169 = true then ((spec_meDigits.f k a0 a1).bind fun t170 => (some (t170, true))) else (some (([] : List Int), false)))) else (some (([] : List Int), false))) = some (r1, r2) := H
  have A3 := Aside0.mk A30
  clear A30
  by_cases c4 : t168 = true
  · subst c4
    have H1 : ((spec_l1In.f a1 2 64).bind fun t169 => (if t169 = true then ((spec_meDigits.f k a0 a1).bind fun t170 => (some (t170, true))) else (some (([] : List Int), false)))) = some (r1, r2) := by rw [if_pos rfl] at H; exact H
    clear H
    have H := H1
    clear H1
    replace H := Option.bind_eq_some_iff.mp H
    obtain ⟨t169, A50, H⟩ := H
    replace H : (if t169 = true then ((spec_meDigits.f k a0 a1).bind fun t170 => (some (t170, true))) else (some (([] : List Int), false))) = some (r1, r2) := H
    have A5 := Aside0.mk A50
    clear A50
    by_cases c6 : t169 = true
    · subst c6
      have H1 : ((spec_meDigits.f k a0 a1).bind fun t170 => (some (t170, true))) = some (r1, r2) := by rw [if_pos rfl] at H; exact H
      clear H
      have H := H1
      clear H1
      replace H := Option.bind_eq_some_iff.mp H
      obtain ⟨t170, A70, H⟩ := H
      replace H : (some (t170, true)) = some (r1, r2) := H
      have A7 := Aside0.mk A70
      clear A70
      simp only [Option.some.injEq, Prod.mk.injEq] at H
      obtain ⟨rfl, rfl⟩ := H
      go_enter Try.func21, Try.ntmps21
      go_wp2_with (first | ((with_reducible refine gate_callee (f := 42) rfl ?_); refine goesL_ (some 7) rfl rfl Try.func42 (by kernel_rfl) rfl #[.int .i64 a0] rfl (by (try simp only [List.map_toArray, List.map_cons, List.map_nil]); first | done | rfl | (simp only [List.length_drop, List.length_take]; rfl)) ?_; (with_reducible refine (spec_chNumber.calls a0 true _ A3.out).mono ?_); rintro e w' ⟨rfl, ⟨nd, rfl⟩⟩; refine ⟨_, rfl, ?_⟩) | (go_at_call 25; (with_reducible refine (spec_l1In.calls a1 2 64 true _ A5.out).mono ?_); rintro e w' ⟨rfl, ⟨nd, rfl⟩⟩) | ((with_reducible refine gate_callee (f := 43) rfl ?_); refine goesL_ (some 16) rfl rfl Try.func43 (by kernel_rfl) rfl #[.int .i64 a0, .int .i64 a1] rfl (by (try simp only [List.map_toArray, List.map_cons, List.map_nil]); first | done | rfl | (simp only [List.length_drop, List.length_take]; rfl)) ?_; (with_reducible refine (spec_meDigits.calls k a0 a1 t170 _ A7.out).mono ?_); rintro e w8 ⟨v171, rfl, ho0, hb⟩; refine ⟨_, rfl, ?_⟩; have n0_ := Aside0.mk (Kd.R_lower ho0 (below_size (by repeat (first | (with_reducible first | exact HB.out | apply below_alloc | apply pw_below_drewN | apply below_drew1) | exact HB.out)))); have n1_ := Aside0.mk (below_step (by repeat (first | (with_reducible first | exact HB.out | apply below_alloc | apply pw_below_drewN | apply below_drew1) | exact HB.out)) hb); clear HB; have HO172 := n0_; have HB := n1_; clear n0_ n1_; (try clear hb); (try clear ho0)))
      go_ret2
      exact ⟨_, by first | rfl | (simp [errW_none, errW_some] <;> rfl) | (simp [*, errW_none, errW_some] <;> rfl), by (with_reducible repeat (first | apply Kd.R_alloc | apply Kd.R_drewN | apply Kd.R_drew)); exact HO172.out, by repeat (first | (with_reducible first | exact HB.out | apply below_alloc | apply pw_below_drewN | apply below_drew1) | exact HB.out)⟩
    · replace c6 := Bool.eq_false_iff.mpr c6
      subst c6
      have H1 : (some (([] : List Int), false)) = some (r1, r2) := by rw [if_neg (show ¬ (false = true) by decide)] at H; exact H
      clear H
      have H := H1
      clear H1
      simp only [Option.some.injEq, Prod.mk.injEq] at H
      obtain ⟨rfl, rfl⟩ := H
      go_enter Try.func21, Try.ntmps21
      go_wp2_with (first | ((with_reducible refine gate_callee (f := 42) rfl ?_); refine goesL_ (some 7) rfl rfl Try.func42 (by kernel_rfl) rfl #[.int .i64 a0] rfl (by (try simp only [List.map_toArray, List.map_cons, List.map_nil]); first | done | rfl | (simp only [List.length_drop, List.length_take]; rfl)) ?_; (with_reducible refine (spec_chNumber.calls a0 true _ A3.out).mono ?_); rintro e w' ⟨rfl, ⟨nd, rfl⟩⟩; refine ⟨_, rfl, ?_⟩) | (go_at_call 25; (with_reducible refine (spec_l1In.calls a1 2 64 false _ A5.out).mono ?_); rintro e w' ⟨rfl, ⟨nd, rfl⟩⟩))
      go_ret2
      exact ⟨_, by first | rfl | (simp [errW_none, errW_some] <;> rfl) | (simp [*, errW_none, errW_some] <;> rfl), by first | exact Kd.R_nil _ _ _ _ _ | exact Kd.N_nil _ _ _ _ _ | exact Kd.V_nil _ _ _ _ _ | exact Kd.Q_nil _ _ _ _ _ | exact Kd.S_nil _ _ _ _ _, by repeat (first | (with_reducible first | exact HB.out | apply below_alloc | apply pw_below_drewN | apply below_drew1) | exact HB.out)⟩
  · replace c4 := Bool.eq_false_iff.mpr c4
    subst c4
    have H1 : (some (([] : List Int), false)) = some (r1, r2) := by rw [if_neg (show ¬ (false = true) by decide)] at H; exact H
    clear H
    have H := H1
    clear H1
    simp only [Option.some.injEq, Prod.mk.injEq] at H
    obtain ⟨rfl, rfl⟩ := H
    go_enter Try.func21, Try.ntmps21
    go_wp2_with (first | ((with_reducible refine gate_callee (f := 42) rfl ?_); refine goesL_ (some 7) rfl rfl Try.func42 (by kernel_rfl) rfl #[.int .i64 a0] rfl (by (try simp only [List.map_toArray, List.map_cons, List.map_nil]); first | done | rfl | (simp only [List.length_drop, List.length_take]; rfl)) ?_; (with_reducible refine (spec_chNumber.calls a0 false _ A3.out).mono ?_); rintro e w' ⟨rfl, ⟨nd, rfl⟩⟩; refine ⟨_, rfl, ?_⟩))
    go_ret2
    exact ⟨_, by first | rfl | (simp [errW_none, errW_some] <;> rfl) | (simp [*, errW_none, errW_some] <;> rfl), by first | exact Kd.R_nil _ _ _ _ _ | exact Kd.N_nil _ _ _ _ _ | exact Kd.V_nil _ _ _ _ _ | exact Kd.Q_nil _ _ _ _ _ | exact Kd.S_nil _ _ _ _ _, by repeat (first | (with_reducible first | exact HB.out | apply below_alloc | apply pw_below_drewN | apply below_drew1) | exact HB.out)⟩


/-! ### impl_FromDigits: function 22 -/
section
open Go.Shelf Go.Proofs.YtbjmnneaflmgaaaBI
attribute [local go_sem] Oper.semAt_some
def impl_FromDigits.bad (base : Int) (l : List Int) (j : Nat) : Bool := !(decide (0 ≤ rd l j) && decide (rd l j ≤ wrap64 (base - 1)))
def impl_FromDigits.step (base : Int) (l : List Int) (o : Option Int) (x : Nat) : Option Int := o.bind fun n => if 1000000 < wrap64 (wrap64 (n * base) + rd l x) then none else some (wrap64 (wrap64 (n * base) + rd l x))
def impl_FromDigits.run (base : Int) (l : List Int) (xs : List Nat) : Option Int := xs.foldl (impl_FromDigits.step base l) (some 0)
def impl_FromDigits.res : Option Int → Value
  | some n => .tuple #[.int .i64 n, .bool true]
  | none => .tuple #[.int .i64 0, .bool false]
theorem impl_FromDigits.run_snoc (base : Int) (l : List Int) (xs : List Nat) (x : Nat) : impl_FromDigits.run base l (xs ++ [x]) = impl_FromDigits.step base l (impl_FromDigits.run base l xs) x := by unfold impl_FromDigits.run; rw [List.foldl_append]; rfl
theorem impl_FromDigits.run_none (base : Int) (l : List Int) : ∀ xs : List Nat, xs.foldl (impl_FromDigits.step base l) none = none
  | [] => rfl
  | _ :: xs => impl_FromDigits.run_none base l xs
theorem impl_FromDigits.run_app (base : Int) (l : List Int) (xs ys : List Nat) (h : impl_FromDigits.run base l xs = none) : impl_FromDigits.run base l (xs ++ ys) = none := by
  unfold impl_FromDigits.run at h ⊢
  rw [List.foldl_append, h, impl_FromDigits.run_none]
theorem impl_FromDigits.down_split (L k : Nat) (h : k ≤ L) : ∃ ys, down L L = down L k ++ ys := by
  refine ⟨(down L L).drop k, ?_⟩
  have e : (down L L).take k = down L k := by
    unfold down
    rw [← List.map_take, List.take_range, Nat.min_eq_left h]
  rw [← e, List.take_append_drop]
def impl_FromDigits.good (l : List Int) (base : Int) : Bool := decide (2 ≤ base) && decide (base ≤ 64) && !(Go.Proofs.YtbjmnneaflmgaaaH.anyIx (impl_FromDigits.bad base l) l.length 0) && !(decide (l.length = 0)) && !(decide (rd l (l.length - 1 : Int) = 0))
def impl_FromDigits.f (l : List Int) (base : Int) : Option (Int × Bool) :=
  if l.length ≤ 1000000000000 then
    (if impl_FromDigits.good l base = true then (match impl_FromDigits.run base l (down l.length l.length) with | some n => some (n, true) | none => some (0, false)) else some (0, false))
  else none
set_option maxHeartbeats 2000000 in
set_option maxRecDepth 100000 in
theorem impl_FromDigits.bad_calls (B : Nat) (base v : Int) (w : World) (hc : w.cell? ⟨B, 0, none⟩ = some (.int .i64 base)) :
    Calls Try.prog 45 #[.int .i64 v, .pointer (some ⟨B, 0, none⟩)] w fun e w' => e = .returned (.bool (!(decide (0 ≤ v) && decide (v ≤ wrap64 (base - 1))))) ∧ Below w.heap.size w w' := by
  obtain ⟨r, hr⟩ : ∃ r, r = (decide (0 ≤ v) && decide (v ≤ wrap64 (base - 1))) := ⟨_, rfl⟩
  have hin : impl_in.f v 0 (wrap64 (base - 1)) = some r := by
    unfold impl_in.f
    by_cases c : v ≥ 0
    · rw [if_pos c, hr, decide_eq_true (show 0 ≤ v from c), Bool.true_and]
    · rw [if_neg c, hr, decide_eq_false (show ¬ 0 ≤ v from c), Bool.false_and]
  rw [← hr]
  have HIN := Aside0.mk hin
  clear hr hin
  go_enter Try.func45, Try.ntmps45
  go_wp2_with (go_at_call 27; refine (impl_in.calls _ _ _ r _ HIN.out).mono ?_; rintro e w2 ⟨rfl, hd2⟩; have HD2 := Aside0.mk hd2; clear hd2)
  go_ret
  exact ⟨rfl, HD2.out.below⟩
theorem impl_FromDigits.has_calls (w0 w : World) (B : Nat) (base : Int) (A0 : Option Addr) (c0 : Nat) (l0 : List Int) (hr0 : Kd.C (Kd.int .i64) w0 A0 l0.length l0) (hl : l0.length ≤ 1000000000000) (hb : Below w0.heap.size w0 w) (hB : Boxed w B 3 (.int .i64 base)) :
    Calls Try.prog 44 #[.slice A0 l0.length c0, .func (.func 45) #[] #[.pointer (some ⟨B, 0, none⟩)]] w fun e w' => e = .returned (.bool (Go.Proofs.YtbjmnneaflmgaaaH.anyIx (impl_FromDigits.bad base l0) l0.length 0)) ∧ Below w.heap.size w w' := by
  refine Go.Proofs.YtbjmnneaflmgaaaH.contains_f55 w A0 l0.length c0 (fun j => .int .i64 (rd l0 j)) (impl_FromDigits.bad base l0) 45 #[.pointer (some ⟨B, 0, none⟩)] (enters_of Try.func45 (by kernel_rfl) rfl) (by omega) (fun hp => ?_) (fun j hj W hW => ?_)
  · obtain ⟨ad, e, _⟩ := Kd.at_int hr0 (0 : Int) (by omega) (by omega)
    subst e
    refine ⟨ad, rfl, fun j hj => ?_⟩
    obtain ⟨ad', e', h'⟩ := Kd.at_int hr0 (j : Int) (by omega) (by omega)
    obtain rfl : ad = ad' := by injection e'
    rw [Int.toNat_natCast] at h'
    exact pw_cell_below hb h'
  · exact impl_FromDigits.bad_calls B base (rd l0 j) W (pw_cell_below hW hB.cell)
/-- The world between two steps: the base's variable, the results'. -/
def impl_FromDigits.St (w0 W : World) (B3 B4 B5 : Nat) (base v : Int) (b : Bool) : Prop :=
  Boxed W B3 3 (.int .i64 base) ∧ Boxed W B4 3 (.int .i64 v) ∧ Boxed W B5 4 (.bool b) ∧ Below w0.heap.size w0 W ∧ w0.heap.size ≤ B3 ∧ B3 < B4 ∧ B4 < B5
theorem impl_FromDigits.St.below {w0 W W' : World} {B3 B4 B5 : Nat} {base v : Int} {b : Bool} (h : impl_FromDigits.St w0 W B3 B4 B5 base v b) (hw : Below W.heap.size W W') : impl_FromDigits.St w0 W' B3 B4 B5 base v b := by
  obtain ⟨h1, h2, h3, h4, h5⟩ := h
  exact ⟨(hw.block _ h1.lt).trans h1, (hw.block _ h2.lt).trans h2, (hw.block _ h3.lt).trans h3, h4.trans (hw.mono h4.size), h5⟩
theorem impl_FromDigits.St.grown {w0 W W' : World} {B3 B4 B5 : Nat} {base v : Int} {b : Bool} {row : Option Nat} (h : impl_FromDigits.St w0 W B3 B4 B5 base v b) (hg : W.grownBy W' row) (hr : ∀ r, row = some r → w0.heap.size ≤ r ∧ ∃ o : Obj, W.heap[r]? = some o ∧ o.isCells = false) : impl_FromDigits.St w0 W' B3 B4 B5 base v b := by
  obtain ⟨h1, h2, h3, h4, h5⟩ := h
  have ne : ∀ {k : Nat} {u : Value} {t : TypeId}, Boxed W k t u → some k ≠ row := by
    intro k u t hk e
    obtain ⟨_, o, ho, hc⟩ := hr k e.symm
    rw [show W.heap[k]? = _ from hk] at ho
    cases ho
    cases hc
  exact ⟨h1.kept hg (ne h1), h2.kept hg (ne h2), h3.kept hg (ne h3), h4.grown hg h4.size (fun k e => (hr k e).1), h5⟩
theorem impl_FromDigits.St.set4 {w0 W : World} {B3 B4 B5 : Nat} {base v : Int} {b : Bool} (v' : Int) (h : impl_FromDigits.St w0 W B3 B4 B5 base v b) : impl_FromDigits.St w0 (W.setCell ⟨B4, 0, none⟩ (.int .i64 v')) B3 B4 B5 base v' b := by
  obtain ⟨h1, h2, h3, h4, h5, h6, h7⟩ := h
  exact ⟨h1.other (by omega) _, h2.set _, h3.other (by omega) _, below_set h4 (by omega), h5, h6, h7⟩
theorem impl_FromDigits.St.set5 {w0 W : World} {B3 B4 B5 : Nat} {base v : Int} {b : Bool} (b' : Bool) (h : impl_FromDigits.St w0 W B3 B4 B5 base v b) : impl_FromDigits.St w0 (W.setCell ⟨B5, 0, none⟩ (.bool b')) B3 B4 B5 base v b' := by
  obtain ⟨h1, h2, h3, h4, h5, h6, h7⟩ := h
  exact ⟨h1.other (by omega) _, h2.other (by omega) _, h3.set _, below_set h4 (by omega), h5, h6, h7⟩
theorem impl_FromDigits.results_cells {fn : Func} {p p' : Tmp} (h : fn.results = #[.cell p 3, .cell p' 4]) (tmps : Array Value) (w : World) (b b' : Nat) (v v' : Value) (hp : tmps.getD p undef = .pointer (some ⟨b, 0, none⟩)) (hp' : tmps.getD p' undef = .pointer (some ⟨b', 0, none⟩)) (hc : w.cell? ⟨b, 0, none⟩ = some v) (hc' : w.cell? ⟨b', 0, none⟩ = some v') :
    (results fn tmps).run Try.prog w = .ok (.tuple #[v, v']) w := by
  have h1 : tmps[p]?.getD undef = .pointer (some ⟨b, 0, none⟩) := by simpa using hp
  have h2 : tmps[p']?.getD undef = .pointer (some ⟨b', 0, none⟩) := by simpa using hp'
  simp [results, h, h1, h2, asAddr, loadVar, Try.underlying3, Try.underlying4, hc, hc']
theorem impl_FromDigits.St.start {w0 w4 : World} {B3 : Nat} {base : Int} (hg : w0.heap.size ≤ B3) (h : Boxed w4 B3 3 (.int .i64 base)) (hb : Below w0.heap.size w0 w4) :
    impl_FromDigits.St w0 ((w4.alloc (Obj.cells #[.int .i64 0] 3)).alloc (Obj.cells #[.bool false] 4)) B3 w4.heap.size (w4.heap.size + 1) base 0 false := by
  refine ⟨(h.alloc _).alloc _, (Boxed.new w4 _ _).alloc _, ?_, below_alloc (below_alloc hb _) _, hg, h.lt, by omega⟩
  have := Boxed.new (w4.alloc (Obj.cells #[.int .i64 0] 3)) 4 (.bool false)
  rwa [show (w4.alloc (Obj.cells #[.int .i64 0] 3)).heap.size = w4.heap.size + 1 by simp] at this
set_option maxHeartbeats 2000000 in
set_option maxRecDepth 100000 in
theorem impl_FromDigits.base_fails (A0 : Option Addr) (c0 : Nat) (l0 : List Int) (a1 : Int) (w : World) (hr0 : Kd.C (Kd.int .i64) w A0 l0.length l0) (hl : l0.length ≤ 1000000000000) (hb : ¬ (2 ≤ a1 ∧ a1 ≤ 64)) :
    Calls Try.prog 22 #[.slice A0 l0.length c0, .int .i64 a1] w fun e w' => e = .returned (.tuple #[.int .i64 0, .bool false]) ∧ Below w.heap.size w w' := by
  have HOK := Aside0.mk (show impl_baseOk.f a1 = some false by unfold impl_baseOk.f impl_in.f; by_cases h : a1 ≥ 2; rw [if_pos h, decide_eq_false (by omega)]; rfl; rw [if_neg h]; rfl)
  have HR := Aside0.mk hr0
  clear hr0
  go_enter Try.func22, Try.ntmps22
  go_wp2_with (first | ((with_reducible refine gate_dst (N := 3) rfl ?_); refine box_event ?hg (N := 3) ?hd (cs := #[.int .i64 a1]) (t := 3) ?hr ?_; (case hd => rfl); (case hg => rfl); (case hr => first | (go_simp; done) | (go_simp; rfl)); intro B3 hg w4 hbox hb4; have HBX4 := Aside0.mk (show Boxed w4 B3 3 _ from hbox); have HB4 := Aside0.mk hb4; have HG := Aside0.mk hg; clear hb4 hbox hg) | (go_at_call 44; refine (impl_FromDigits.has_calls w _ B3 a1 A0 c0 l0 HR.out hl (below_alloc (below_alloc HB4.out _) _) ((HBX4.out.alloc _).alloc _)).mono ?_; rintro e w6 ⟨rfl, hb6⟩; have HS := Aside0.mk (impl_FromDigits.St.below (impl_FromDigits.St.start (Nat.le_of_eq HG.out.symm) HBX4.out HB4.out) hb6); have x3 : w6.cell? ⟨B3, 0, none⟩ = some (.int .i64 a1) := HS.out.1.cell; clear hb6) | (go_at_call 40; refine (impl_baseOk.calls _ _ _ HOK.out).mono ?_; rintro e w7 ⟨rfl, hd7⟩; have HS7 := Aside0.mk (impl_FromDigits.St.below HS.out hd7.below); have x4 : w7.cell? ⟨w4.heap.size, 0, none⟩ = some (.int .i64 0) := HS7.out.2.1.cell; have x5 : w7.cell? ⟨w4.heap.size + 1, 0, none⟩ = some (.bool false) := HS7.out.2.2.1.cell; have y4 := HS7.out.2.1.frozen; have y5 := HS7.out.2.2.1.frozen; have y6 := (HS7.out.set4 0).2.2.1.frozen; have x6 := (HS7.out.set4 0).2.2.1.cell; clear hd7))
  refine bodyPost_ret (impl_FromDigits.results_cells rfl _ _ w4.heap.size (w4.heap.size + 1) _ _ rfl rfl ((HS7.out.set4 0).set5 false).2.1.cell ((HS7.out.set4 0).set5 false).2.2.1.cell) rfl ?_
  exact ⟨rfl, ((HS7.out.set4 0).set5 false).2.2.2.1⟩
set_option maxHeartbeats 2000000 in
set_option maxRecDepth 100000 in
theorem impl_FromDigits.bad_fails (A0 : Option Addr) (c0 : Nat) (l0 : List Int) (a1 : Int) (w : World) (hr0 : Kd.C (Kd.int .i64) w A0 l0.length l0) (hl : l0.length ≤ 1000000000000) (hb : 2 ≤ a1 ∧ a1 ≤ 64) (hbad : Go.Proofs.YtbjmnneaflmgaaaH.anyIx (impl_FromDigits.bad a1 l0) l0.length 0 = true) :
    Calls Try.prog 22 #[.slice A0 l0.length c0, .int .i64 a1] w fun e w' => e = .returned (.tuple #[.int .i64 0, .bool false]) ∧ Below w.heap.size w w' := by
  have HOK := Aside0.mk (show impl_baseOk.f a1 = some true by unfold impl_baseOk.f impl_in.f; rw [if_pos (show a1 ≥ 2 by omega), decide_eq_true hb.2]; rfl)
  have HR := Aside0.mk hr0
  clear hr0
  have HBAD := Aside0.mk hbad
  clear hbad
  go_enter Try.func22, Try.ntmps22
  go_wp2_with (first | ((with_reducible refine gate_dst (N := 3) rfl ?_); refine box_event ?hg (N := 3) ?hd (cs := #[.int .i64 a1]) (t := 3) ?hr ?_; (case hd => rfl); (case hg => rfl); (case hr => first | (go_simp; done) | (go_simp; rfl)); intro B3 hg w4 hbox hb4; have HBX4 := Aside0.mk (show Boxed w4 B3 3 _ from hbox); have HB4 := Aside0.mk hb4; have HG := Aside0.mk hg; clear hb4 hbox hg) | (go_at_call 44; refine (impl_FromDigits.has_calls w _ B3 a1 A0 c0 l0 HR.out hl (below_alloc (below_alloc HB4.out _) _) ((HBX4.out.alloc _).alloc _)).mono ?_; rw [HBAD.out]; rintro e w6 ⟨rfl, hb6⟩; have HS := Aside0.mk (impl_FromDigits.St.below (impl_FromDigits.St.start (Nat.le_of_eq HG.out.symm) HBX4.out HB4.out) hb6); have x3 : w6.cell? ⟨B3, 0, none⟩ = some (.int .i64 a1) := HS.out.1.cell; clear hb6) | (go_at_call 40; refine (impl_baseOk.calls _ _ _ HOK.out).mono ?_; rintro e w7 ⟨rfl, hd7⟩; have HS7 := Aside0.mk (impl_FromDigits.St.below HS.out hd7.below); have x4 : w7.cell? ⟨w4.heap.size, 0, none⟩ = some (.int .i64 0) := HS7.out.2.1.cell; have x5 : w7.cell? ⟨w4.heap.size + 1, 0, none⟩ = some (.bool false) := HS7.out.2.2.1.cell; have y4 := HS7.out.2.1.frozen; have y5 := HS7.out.2.2.1.frozen; have y6 := (HS7.out.set4 0).2.2.1.frozen; have x6 := (HS7.out.set4 0).2.2.1.cell; clear hd7))
  refine bodyPost_ret (impl_FromDigits.results_cells rfl _ _ w4.heap.size (w4.heap.size + 1) _ _ rfl rfl ((HS7.out.set4 0).set5 false).2.1.cell ((HS7.out.set4 0).set5 false).2.2.1.cell) rfl ?_
  exact ⟨rfl, ((HS7.out.set4 0).set5 false).2.2.2.1⟩
set_option maxHeartbeats 2000000 in
set_option maxRecDepth 100000 in
theorem impl_FromDigits.nil_fails (A0 : Option Addr) (c0 : Nat) (a1 : Int) (w : World) (hr0 : Kd.C (Kd.int .i64) w A0 0 []) (hb : 2 ≤ a1 ∧ a1 ≤ 64) :
    Calls Try.prog 22 #[.slice A0 0 c0, .int .i64 a1] w fun e w' => e = .returned (.tuple #[.int .i64 0, .bool false]) ∧ Below w.heap.size w w' := by
  have HOK := Aside0.mk (show impl_baseOk.f a1 = some true by unfold impl_baseOk.f impl_in.f; rw [if_pos (show a1 ≥ 2 by omega), decide_eq_true hb.2]; rfl)
  have HR := Aside0.mk hr0
  clear hr0
  have hbad : Go.Proofs.YtbjmnneaflmgaaaH.anyIx (impl_FromDigits.bad a1 []) 0 0 = false := rfl
  have HBAD := Aside0.mk hbad
  clear hbad
  go_enter Try.func22, Try.ntmps22
  go_wp2_with (first | ((with_reducible refine gate_dst (N := 3) rfl ?_); refine box_event ?hg (N := 3) ?hd (cs := #[.int .i64 a1]) (t := 3) ?hr ?_; (case hd => rfl); (case hg => rfl); (case hr => first | (go_simp; done) | (go_simp; rfl)); intro B3 hg w4 hbox hb4; have HBX4 := Aside0.mk (show Boxed w4 B3 3 _ from hbox); have HB4 := Aside0.mk hb4; have HG := Aside0.mk hg; clear hb4 hbox hg) | (go_at_call 44; refine (impl_FromDigits.has_calls w _ B3 a1 A0 c0 [] HR.out (Nat.zero_le _) (below_alloc (below_alloc HB4.out _) _) ((HBX4.out.alloc _).alloc _)).mono ?_; rw [show ([] : List Int).length = 0 from rfl, HBAD.out]; rintro e w6 ⟨rfl, hb6⟩; have HS := Aside0.mk (impl_FromDigits.St.below (impl_FromDigits.St.start (Nat.le_of_eq HG.out.symm) HBX4.out HB4.out) hb6); have x3 : w6.cell? ⟨B3, 0, none⟩ = some (.int .i64 a1) := HS.out.1.cell; clear hb6) | (go_at_call 40; refine (impl_baseOk.calls _ _ _ HOK.out).mono ?_; rintro e w7 ⟨rfl, hd7⟩; have HS7 := Aside0.mk (impl_FromDigits.St.below HS.out hd7.below); have x4 : w7.cell? ⟨w4.heap.size, 0, none⟩ = some (.int .i64 0) := HS7.out.2.1.cell; have x5 : w7.cell? ⟨w4.heap.size + 1, 0, none⟩ = some (.bool false) := HS7.out.2.2.1.cell; have y4 := HS7.out.2.1.frozen; have y5 := HS7.out.2.2.1.frozen; have y6 := (HS7.out.set4 0).2.2.1.frozen; have x6 := (HS7.out.set4 0).2.2.1.cell; clear hd7))
  refine bodyPost_ret (impl_FromDigits.results_cells rfl _ _ w4.heap.size (w4.heap.size + 1) _ _ rfl rfl ((HS7.out.set4 0).set5 false).2.1.cell ((HS7.out.set4 0).set5 false).2.2.1.cell) rfl ?_
  exact ⟨rfl, ((HS7.out.set4 0).set5 false).2.2.2.1⟩
set_option maxHeartbeats 2000000 in
set_option maxRecDepth 100000 in
theorem impl_FromDigits.last_fails (A0 : Option Addr) (c0 : Nat) (l0 : List Int) (a1 : Int) (w : World) (hr0 : Kd.C (Kd.int .i64) w A0 l0.length l0) (hl : l0.length ≤ 1000000000000) (hb : 2 ≤ a1 ∧ a1 ≤ 64) (hbad : Go.Proofs.YtbjmnneaflmgaaaH.anyIx (impl_FromDigits.bad a1 l0) l0.length 0 = false) (hn : l0.length ≠ 0) (hz : rd l0 (l0.length - 1 : Int) = 0) :
    Calls Try.prog 22 #[.slice A0 l0.length c0, .int .i64 a1] w fun e w' => e = .returned (.tuple #[.int .i64 0, .bool false]) ∧ Below w.heap.size w w' := by
  have HOK := Aside0.mk (show impl_baseOk.f a1 = some true by unfold impl_baseOk.f impl_in.f; rw [if_pos (show a1 ≥ 2 by omega), decide_eq_true hb.2]; rfl)
  have HR := Aside0.mk hr0
  clear hr0
  have HBAD := Aside0.mk hbad
  clear hbad
  obtain ⟨ad, ea, hx⟩ := Kd.at_int HR.out (l0.length - 1 : Int) (by omega) (by omega)
  subst ea
  rw [hz, show ((l0.length : Int) - 1).toNat = l0.length - 1 by omega] at hx
  have n4 : ((l0.length : Int) == 0) = false := by rw [beq_eq_false_iff_ne]; omega
  have n0 : decide ((l0.length : Int) = 0) = false := decide_eq_false (by omega)
  have n1 : wrap64 ((l0.length : Int) - 1) = (l0.length : Int) - 1 := by unfold wrap64; omega
  have n2 : (0 : Int) ≤ (l0.length : Int) - 1 := by omega
  have n3 : (l0.length : Int) - 1 < (l0.length : Int) := by omega
  go_enter Try.func22, Try.ntmps22
  go_wp2_with (first | ((with_reducible refine gate_dst (N := 3) rfl ?_); refine box_event ?hg (N := 3) ?hd (cs := #[.int .i64 a1]) (t := 3) ?hr ?_; (case hd => rfl); (case hg => rfl); (case hr => first | (go_simp; done) | (go_simp; rfl)); intro B3 hg w4 hbox hb4; have HBX4 := Aside0.mk (show Boxed w4 B3 3 _ from hbox); have HB4 := Aside0.mk hb4; have HG := Aside0.mk hg; clear hb4 hbox hg) | (go_at_call 44; refine (impl_FromDigits.has_calls w _ B3 a1 (some ad) c0 l0 HR.out hl (below_alloc (below_alloc HB4.out _) _) ((HBX4.out.alloc _).alloc _)).mono ?_; rw [HBAD.out]; rintro e w6 ⟨rfl, hb6⟩; have HS := Aside0.mk (impl_FromDigits.St.below (impl_FromDigits.St.start (Nat.le_of_eq HG.out.symm) HBX4.out HB4.out) hb6); have x3 : w6.cell? ⟨B3, 0, none⟩ = some (.int .i64 a1) := HS.out.1.cell; clear hb6) | (go_at_call 40; refine (impl_baseOk.calls _ _ _ HOK.out).mono ?_; rintro e w7 ⟨rfl, hd7⟩; have HS7 := Aside0.mk (impl_FromDigits.St.below HS.out hd7.below); have x4 : w7.cell? ⟨w4.heap.size, 0, none⟩ = some (.int .i64 0) := HS7.out.2.1.cell; have x5 : w7.cell? ⟨w4.heap.size + 1, 0, none⟩ = some (.bool false) := HS7.out.2.2.1.cell; have y4 := HS7.out.2.1.frozen; have y5 := HS7.out.2.2.1.frozen; have y6 := (HS7.out.set4 0).2.2.1.frozen; have x6 := (HS7.out.set4 0).2.2.1.cell; have xl := pw_cell_below HS7.out.2.2.2.1 hx; clear hd7))
  refine bodyPost_ret (impl_FromDigits.results_cells rfl _ _ w4.heap.size (w4.heap.size + 1) _ _ rfl rfl ((HS7.out.set4 0).set5 false).2.1.cell ((HS7.out.set4 0).set5 false).2.2.1.cell) rfl ?_
  exact ⟨rfl, ((HS7.out.set4 0).set5 false).2.2.2.1⟩
/-- .. with the number that is read. -/
def impl_FromDigits.Sn (w0 W : World) (B3 B4 B5 B7 : Nat) (base v : Int) (b : Bool) (n : Int) : Prop := impl_FromDigits.St w0 W B3 B4 B5 base v b ∧ Boxed W B7 3 (.int .i64 n) ∧ B5 < B7
theorem impl_FromDigits.Sn.below {w0 W W' : World} {B3 B4 B5 B7 : Nat} {base v n : Int} {b : Bool} (h : impl_FromDigits.Sn w0 W B3 B4 B5 B7 base v b n) (hw : Below W.heap.size W W') : impl_FromDigits.Sn w0 W' B3 B4 B5 B7 base v b n :=
  ⟨h.1.below hw, (hw.block _ h.2.1.lt).trans h.2.1, h.2.2⟩
theorem impl_FromDigits.Sn.grown {w0 W W' : World} {B3 B4 B5 B7 : Nat} {base v n : Int} {b : Bool} {row : Option Nat} (h : impl_FromDigits.Sn w0 W B3 B4 B5 B7 base v b n) (hg : W.grownBy W' row) (hr : ∀ r, row = some r → w0.heap.size ≤ r ∧ ∃ o : Obj, W.heap[r]? = some o ∧ o.isCells = false) : impl_FromDigits.Sn w0 W' B3 B4 B5 B7 base v b n :=
  ⟨h.1.grown hg hr, h.2.1.kept hg (fun e => by
    obtain ⟨_, o, ho, hc⟩ := hr B7 e.symm
    rw [show W.heap[B7]? = _ from h.2.1] at ho
    cases ho
    cases hc), h.2.2⟩
theorem impl_FromDigits.Sn.set4 {w0 W : World} {B3 B4 B5 B7 : Nat} {base v n : Int} {b : Bool} (v' : Int) (h : impl_FromDigits.Sn w0 W B3 B4 B5 B7 base v b n) : impl_FromDigits.Sn w0 (W.setCell ⟨B4, 0, none⟩ (.int .i64 v')) B3 B4 B5 B7 base v' b n :=
  ⟨h.1.set4 v', h.2.1.other (by have := h.1.2.2.2.2.2.2; have := h.2.2; omega) _, h.2.2⟩
theorem impl_FromDigits.Sn.set5 {w0 W : World} {B3 B4 B5 B7 : Nat} {base v n : Int} {b : Bool} (b' : Bool) (h : impl_FromDigits.Sn w0 W B3 B4 B5 B7 base v b n) : impl_FromDigits.Sn w0 (W.setCell ⟨B5, 0, none⟩ (.bool b')) B3 B4 B5 B7 base v b' n :=
  ⟨h.1.set5 b', h.2.1.other (by have := h.2.2; omega) _, h.2.2⟩
theorem impl_FromDigits.Sn.set7 {w0 W : World} {B3 B4 B5 B7 : Nat} {base v n : Int} {b : Bool} (n' : Int) (h : impl_FromDigits.Sn w0 W B3 B4 B5 B7 base v b n) : impl_FromDigits.Sn w0 (W.setCell ⟨B7, 0, none⟩ (.int .i64 n')) B3 B4 B5 B7 base v b n' := by
  obtain ⟨⟨h1, h2, h3, h4, h5, h6, h7⟩, h8, h9⟩ := h
  exact ⟨⟨h1.other (by omega) _, h2.other (by omega) _, h3.other (by omega) _, below_set h4 (by omega), h5, h6, h7⟩, h8.set _, h9⟩
set_option maxHeartbeats 2000000 in
set_option maxRecDepth 100000 in
theorem impl_FromDigits.good_calls (A0 : Option Addr) (c0 : Nat) (l0 : List Int) (a1 : Int) (w : World) (hr0 : Kd.C (Kd.int .i64) w A0 l0.length l0) (hl : l0.length ≤ 1000000000000) (hb : 2 ≤ a1 ∧ a1 ≤ 64) (hbad : Go.Proofs.YtbjmnneaflmgaaaH.anyIx (impl_FromDigits.bad a1 l0) l0.length 0 = false) (hn : l0.length ≠ 0) (hz : rd l0 (l0.length - 1 : Int) ≠ 0) :
    Calls Try.prog 22 #[.slice A0 l0.length c0, .int .i64 a1] w fun e w' => e = .returned (impl_FromDigits.res (impl_FromDigits.run a1 l0 (down l0.length l0.length))) ∧ Below w.heap.size w w' := by
  have HOK := Aside0.mk (show impl_baseOk.f a1 = some true by unfold impl_baseOk.f impl_in.f; rw [if_pos (show a1 ≥ 2 by omega), decide_eq_true hb.2]; rfl)
  have HR := Aside0.mk hr0
  clear hr0
  obtain ⟨R, hR⟩ : ∃ R, R = impl_FromDigits.res (impl_FromDigits.run a1 l0 (down l0.length l0.length)) := ⟨_, rfl⟩
  rw [← hR]
  have HRR := Aside0.mk hR
  clear hR
  have HBAD := Aside0.mk hbad
  clear hbad
  obtain ⟨ad, ea, hx⟩ := Kd.at_int HR.out (l0.length - 1 : Int) (by omega) (by omega)
  subst ea
  rw [show ((l0.length : Int) - 1).toNat = l0.length - 1 by omega] at hx
  have n4 : ((l0.length : Int) == 0) = false := by rw [beq_eq_false_iff_ne]; omega
  have n5 : (rd l0 (l0.length - 1 : Int) == 0) = false := by rw [beq_eq_false_iff_ne]; exact hz
  generalize rd l0 (l0.length - 1 : Int) = z at *
  have n0 : decide ((l0.length : Int) = 0) = false := decide_eq_false (by omega)
  have n1 : wrap64 ((l0.length : Int) - 1) = (l0.length : Int) - 1 := by unfold wrap64; omega
  have n2 : (0 : Int) ≤ (l0.length : Int) - 1 := by omega
  have n3 : (l0.length : Int) - 1 < (l0.length : Int) := by omega
  refine (callsIn_wide (n := 8)).1 (callsIn_of_wp_marks Try.func22 rfl trivial ?_ rfl)
  refine wpIn_wide.2 ?_
  simp only [Try.ntmps22, List.size_toArray, List.length_cons, List.length_nil, Nat.reduceAdd, Nat.reduceSub, Array.replicate_succ, Array.replicate_zero, List.push_toArray, List.append_toArray, List.nil_append, List.cons_append]
  go_wp2_with (first | ((with_reducible refine gate_dst (N := 3) rfl ?_); refine box_event ?hg (N := 3) ?hd (cs := #[.int .i64 a1]) (t := 3) ?hr ?_; (case hd => rfl); (case hg => rfl); (case hr => first | (go_simp; done) | (go_simp; rfl)); intro B3 hg w4 hbox hb4; have HBX4 := Aside0.mk (show Boxed w4 B3 3 _ from hbox); have HB4 := Aside0.mk hb4; have HG := Aside0.mk hg; clear hb4 hbox hg) | (go_at_call 44; refine (impl_FromDigits.has_calls w _ B3 a1 (some ad) c0 l0 HR.out hl (below_alloc (below_alloc HB4.out _) _) ((HBX4.out.alloc _).alloc _)).mono ?_; rw [HBAD.out]; rintro e w6 ⟨rfl, hb6⟩; have HS := Aside0.mk (impl_FromDigits.St.below (impl_FromDigits.St.start (Nat.le_of_eq HG.out.symm) HBX4.out HB4.out) hb6); have x3 : w6.cell? ⟨B3, 0, none⟩ = some (.int .i64 a1) := HS.out.1.cell; clear hb6) | (go_at_call 40; refine (impl_baseOk.calls _ _ _ HOK.out).mono ?_; rintro e w7 ⟨rfl, hd7⟩; have HS7 := Aside0.mk (impl_FromDigits.St.below HS.out hd7.below); have x4 : w7.cell? ⟨w4.heap.size, 0, none⟩ = some (.int .i64 0) := HS7.out.2.1.cell; have x5 : w7.cell? ⟨w4.heap.size + 1, 0, none⟩ = some (.bool false) := HS7.out.2.2.1.cell; have y4 := HS7.out.2.1.frozen; have y5 := HS7.out.2.2.1.frozen; have y6 := (HS7.out.set4 0).2.2.1.frozen; have x6 := (HS7.out.set4 0).2.2.1.cell; have xl := pw_cell_below HS7.out.2.2.2.1 hx; clear hd7) | (go_at_call 46; refine (back_f46 _ _ _ _).mono ?_; rintro e w' ⟨rfl, rfl⟩))
  have hadb : ad.block < w.heap.size := by
    obtain ⟨ad', ea, hx'⟩ := Kd.at_int HR.out (0 : Int) (by omega) (by omega)
    obtain rfl : ad = ad' := by injection ea
    have := World.block_lt_of_cell? _ _ hx'
    rwa [add_block] at this
  have HCL := Aside0.mk (show ∀ j : Nat, j < l0.length → w.cell? (ad.add j) = some (.int .i64 (rd l0 (j : Int))) from fun j hj => by
    obtain ⟨ad', ea, hx'⟩ := Kd.at_int HR.out (j : Int) (by omega) (by omega)
    obtain rfl : ad = ad' := by injection ea
    rw [Int.toNat_natCast] at hx'
    exact hx')
  obtain ⟨B4, hB4⟩ : ∃ B4, w4.heap.size = B4 := ⟨_, rfl⟩
  obtain ⟨B7, hB7⟩ : ∃ B7, w7.heap.size = B7 := ⟨_, rfl⟩
  have hlt7 : B4 + 1 < B7 := by rw [← hB4, ← hB7]; exact HS7.out.2.2.1.lt
  obtain ⟨W0, hW0⟩ : ∃ W0, (w7.alloc (Obj.cells #[.int .i64 0] 3)).alloc (Obj.cells #[.slice (some ad) l0.length c0] 22) = W0 := ⟨_, rfl⟩
  have hS0 : impl_FromDigits.Sn w W0 B3 B4 (B4 + 1) B7 a1 0 false 0 := by
    rw [← hW0, ← hB4]
    exact ⟨HS7.out.below (below_alloc (below_alloc (Below.refl _ _) _) _), by rw [← hB7]; exact (Boxed.new w7 _ _).alloc _, by rw [hB4]; exact hlt7⟩
  have hBs : Boxed W0 (B7 + 1) 22 (.slice (some ad) l0.length c0) := by
    rw [← hW0, ← hB7]
    have := Boxed.new (w7.alloc (Obj.cells #[.int .i64 0] 3)) 22 (.slice (some ad) l0.length c0)
    rwa [show (w7.alloc (Obj.cells #[.int .i64 0] 3)).heap.size = w7.heap.size + 1 by simp] at this
  have hsz : W0.heap.size = B7 + 2 := by rw [← hW0, ← hB7]; simp
  have hw0 : w.heap.size ≤ W0.heap.size := hS0.1.2.2.2.1.size
  have hge : w.heap.size ≤ B3 ∧ B3 < B4 := ⟨hS0.1.2.2.2.2.1, hS0.1.2.2.2.2.2.1⟩
  rw [hW0, hB4, hB7]
  clear x3 x4 x5 y4 y5 y6 x6 xl HS7 HS hW0 HBX4 HB4 HG
  refine (wpIn_wide (n := 8)).1 ?_
  refine wpIn_rangeFunc_ownH rfl (by decide) (gf := 56) (lb := #[.pointer (some ⟨B7 + 1, 0, none⟩)]) rfl trivial (enters_of Try.func56 (by kernel_rfl) rfl)
    (back_stops_f46 Fence.wide 7 trivial rfl (by decide) (B7 + 1) (some ad) l0.length c0 (fun j => rd l0 (j : Int)) hl W0 hBs ?cells)
    (fun h k => Keeps.trans h k) ?hKb (Below.refl _ _) (fun _ => rfl)
    (fun pre W => ∃ n, impl_FromDigits.run a1 l0 (pre.map Fin.val) = some n ∧ impl_FromDigits.Sn w W B3 B4 (B4 + 1) B7 a1 0 false n ∧ W0.heap.size ≤ W.heap.size)
    (fun c pre W => c = Code.ret ∧ impl_FromDigits.run a1 l0 (pre.map Fin.val) = none ∧ ∃ n, impl_FromDigits.Sn w W B3 B4 (B4 + 1) B7 a1 0 false n ∧ W0.heap.size ≤ W.heap.size) ?hI ?hIx ⟨0, rfl, hS0, Nat.le_refl _⟩
    (fun x a' _ => a' = { tmps := #[Value.slice (some ad) l0.length c0, Value.int IntKind.i64 a1, undef,
          Value.pointer (some { block := B3, off := 0 }), Value.pointer (some { block := B4, off := 0 }),
          Value.pointer (some { block := B4 + 1, off := 0 }), Value.bool false,
          Value.pointer (some { block := B7, off := 0 }), undef, Value.int IntKind.i64 (rd l0 (x.1 : Int)), Value.slice (some ad) l0.length c0,
          Value.func (Fn.func 45) #[] #[Value.pointer (some { block := B3, off := 0 })], Value.bool false,
          Value.int IntKind.i64 a1, Value.bool true, Value.bool false, Value.bool false, Value.bool false,
          Value.bool false, Value.bool false, Value.slice (some ad) l0.length c0, Value.int IntKind.i64 ↑l0.length,
          Value.bool false, Value.bool false, Value.bool false, Value.slice (some ad) l0.length c0,
          Value.slice (some ad) l0.length c0, Value.int IntKind.i64 ↑l0.length, Value.int IntKind.i64 (↑l0.length - 1),
          Value.pointer (some (ad.add (l0.length - 1))), Value.int IntKind.i64 z, Value.bool false, Value.bool false,
          Value.slice (some ad) l0.length c0,
          Value.func (Fn.func 56) #[] #[Value.pointer (some { block := B7 + 1, off := 0 })], Value.int IntKind.i64 (x.1 : Int), Value.int IntKind.i64 (rd l0 (x.1 : Int)),
          undef, undef, undef, undef, undef, undef, undef, undef], defers := [] })
    ?hAx ?assign ?body ?done ?stop
  case cells =>
    intro _
    exact ⟨ad, rfl, Nat.lt_of_lt_of_le hadb hw0, fun j hj => pw_cell_below hS0.1.2.2.2.1 (HCL.out j hj)⟩
  case hKb => exact fun W ll o o' hle ho h1 h2 i hi => World.putObj_heap_other (by rcases hi with rfl | ⟨_, ad', ea, rfl⟩; omega; cases ea; omega)
  case hI =>
    intro s A B row hs hg hr
    obtain ⟨n, e, hs, hz⟩ := hs
    exact ⟨n, e, hs.grown hg (fun r e => ⟨Nat.le_trans hw0 (hr r e).1, (hr r e).2⟩), Nat.le_trans hz hg.size⟩
  case hIx =>
    intro c s A B row hs hg hr
    obtain ⟨e0, e, n, hs, hz⟩ := hs
    exact ⟨e0, e, n, hs.grown hg (fun r e => ⟨Nat.le_trans hw0 (hr r e).1, (hr r e).2⟩), Nat.le_trans hz hg.size⟩
  case hAx =>
    intro x a' s A B row hs hg hr
    exact hs
  case assign =>
    rintro ll pre x W K hi hK
    gi_wp2
    exact hK _ _ (KeepsFrom.refl _ _) (fun i hi => rfl) hi rfl
  case body =>
    rintro ll pre x a' W hll hrec ⟨n, en, hs, hz⟩ rfl hlt
    have e3 : W.cell? ⟨B3, 0, none⟩ = some (.int .i64 a1) := hs.1.1.cell
    have e7 : W.cell? ⟨B7, 0, none⟩ = some (.int .i64 n) := hs.2.1.cell
    have f7 := hs.2.1.frozen
    obtain ⟨m, hm⟩ : ∃ m, wrap64 (wrap64 (n * a1) + rd l0 (x.1 : Int)) = m := ⟨_, rfl⟩
    have hst : impl_FromDigits.run a1 l0 ((pre ++ [x]).map Fin.val) = if 1000000 < m then none else some m := by
      rw [List.map_append, List.map_singleton, impl_FromDigits.run_snoc, en]
      unfold impl_FromDigits.step
      rw [Option.bind_some, hm]
    have g4 := (hs.set7 m).1.2.1.cell
    have g5 := (hs.set7 m).1.2.2.1.cell
    have f4 := (hs.set7 m).1.2.1.frozen
    have f5 := (hs.set7 m).1.2.2.1.frozen
    have g6 := ((hs.set7 m).set4 0).1.2.2.1.cell
    have f6 := ((hs.set7 m).set4 0).1.2.2.1.frozen
    have g7 := (hs.set7 m).2.1.cell
    have HSN := Aside0.mk hs
    have HM := Aside0.mk hst
    clear hs hst
    by_cases hc : 1000000 < m
    · have b0 : decide (1000000 < m) = true := decide_eq_true hc
      gi_wp2
      exact ⟨(((KeepsOthers.setCell _ _ _).trans (KeepsOthers.setCell _ _ _)).trans (KeepsOthers.setCell _ _ _)).from _, rfl, by rw [HM.out, if_pos hc], m, ((HSN.out.set7 m).set4 0).set5 false, by simpa using hz⟩
    · have b0 : decide (1000000 < m) = false := decide_eq_false hc
      gi_wp2
      refine ⟨(KeepsOthers.setCell _ _ _).from _, fun i hi => Below.heap_setCell _ ⟨B7, 0, none⟩ _ i ?_, m, by rw [HM.out, if_neg (by omega)], HSN.out.set7 m, by simp; omega⟩
      show i ≠ B7
      rcases hi with h | ⟨_, h⟩
      · omega
      · first | omega | (obtain ⟨_, e, h⟩ := h; cases e; omega)
  case done =>
    rintro D xs W hD hxs ⟨n, en, hs, hz⟩ hK
    rw [hxs] at en
    have hRn : R = .tuple #[.int .i64 n, .bool true] := by rw [HRR.out, en]; rfl
    subst hRn
    have e7 : W.cell? ⟨B7, 0, none⟩ = some (.int .i64 n) := hs.2.1.cell
    have e4 : W.cell? ⟨B4, 0, none⟩ = some (.int .i64 0) := hs.1.2.1.cell
    have f4 := hs.1.2.1.frozen
    have e5 := (hs.set4 n).1.2.2.1.cell
    have f5 := (hs.set4 n).1.2.2.1.frozen
    have hD4 : ¬ D = B4 := by omega
    have hD5 : ¬ D = B4 + 1 := by omega
    have HSN := Aside0.mk hs
    have HKK := Aside0.mk (show ((W.setCell ⟨B4, 0, none⟩ (.int .i64 n)).setCell ⟨B4 + 1, 0, none⟩ (.bool true)).heap[D]? = some (.deferred (some [])) from (Below.heap_setCell _ ⟨B4 + 1, 0, none⟩ _ D hD5).trans ((Below.heap_setCell _ ⟨B4, 0, none⟩ _ D hD4).trans hK))
    clear hs hK hD4 hD5
    go_wp2
    refine ⟨by simp, .inl ⟨_, _, rfl, run_takeDeferred HKK.out, ?_⟩⟩
    have hs2 := ((HSN.out.set4 n).set5 true).grown (grownBy_putObj' _ D (.deferred none)) (fun r e => by cases e; exact ⟨Nat.le_trans hw0 hD, _, HKK.out, rfl⟩)
    refine ⟨_, impl_FromDigits.results_cells rfl _ _ B4 (B4 + 1) _ _ rfl rfl hs2.1.2.1.cell hs2.1.2.2.1.cell, ?_⟩
    exact ⟨rfl, hs2.1.2.2.2.1⟩
  case stop =>
    rintro D c pre W hD ⟨k, hk, hpre⟩ ⟨rfl, en, n, hs, hz⟩ hK
    have hRn : R = .tuple #[.int .i64 0, .bool false] := by
      obtain ⟨ys, e⟩ := impl_FromDigits.down_split l0.length k hk
      rw [HRR.out, e, impl_FromDigits.run_app a1 l0 _ ys (by rw [← hpre]; exact en)]
      rfl
    subst hRn
    have HSN := Aside0.mk hs
    have HKK := Aside0.mk hK
    clear hs hK
    gi_wp2
    refine ⟨by simp, .inl ⟨_, _, rfl, run_takeDeferred HKK.out, ?_⟩⟩
    have hs2 := HSN.out.grown (grownBy_putObj' _ D (.deferred none)) (fun r e => by cases e; exact ⟨Nat.le_trans hw0 hD, _, HKK.out, rfl⟩)
    refine ⟨_, impl_FromDigits.results_cells rfl _ _ B4 (B4 + 1) _ _ rfl rfl hs2.1.2.1.cell hs2.1.2.2.1.cell, ?_⟩
    exact ⟨rfl, hs2.1.2.2.2.1⟩
set_option maxHeartbeats 2000000 in
theorem impl_FromDigits.calls (A0 : Option Addr) (c0 : Nat) (l0 : List Int) (a1 : Int) (r1 : Int) (r2 : Bool) (w : World) (hr0 : Kd.C (Kd.int .i64) w A0 l0.length l0) (hc0 : l0.length ≤ c0) (h : impl_FromDigits.f l0 a1 = some (r1, r2)) :
    Calls Try.prog 22 #[.slice A0 l0.length c0, .int .i64 a1] w fun e w' => e = .returned (.tuple #[.int .i64 r1, .bool r2]) ∧ Below w.heap.size w w' := by
  unfold impl_FromDigits.f at h
  by_cases hl : l0.length ≤ 1000000000000
  · rw [if_pos hl] at h
    unfold impl_FromDigits.good at h
    have fin : ∀ b : Bool, b = false → (if b = true then (match impl_FromDigits.run a1 l0 (down l0.length l0.length) with | some n => some (n, true) | none => some (0, false)) else some ((0 : Int), false)) = some (r1, r2) → r1 = 0 ∧ r2 = false := fun b hb h => by
      subst hb
      simp only [Bool.false_eq_true, if_false] at h
      have := Option.some.inj h
      exact ⟨(congrArg Prod.fst this).symm, (congrArg Prod.snd this).symm⟩
    by_cases hb : 2 ≤ a1 ∧ a1 ≤ 64
    · cases hx : Go.Proofs.YtbjmnneaflmgaaaH.anyIx (impl_FromDigits.bad a1 l0) l0.length 0 with
      | true =>
        obtain ⟨rfl, rfl⟩ := fin _ (by rw [hx]; simp) h
        exact impl_FromDigits.bad_fails A0 c0 l0 a1 w hr0 hl hb hx
      | false =>
        by_cases hn : l0.length = 0
        · obtain ⟨rfl, rfl⟩ := fin _ (by rw [decide_eq_true hn]; simp) h
          obtain rfl := List.length_eq_zero_iff.1 hn
          exact impl_FromDigits.nil_fails A0 c0 a1 w hr0 hb
        · obtain ⟨ad, ea, _⟩ := Kd.at_int hr0 (0 : Int) (by omega) (by omega)
          subst ea
          by_cases hz : rd l0 (l0.length - 1 : Int) = 0
          · obtain ⟨rfl, rfl⟩ := fin _ (by rw [decide_eq_true hz]; simp) h
            exact impl_FromDigits.last_fails ad c0 l0 a1 w hr0 hl hb hx hn hz
          · rw [if_pos (by rw [hx, decide_eq_true hb.1, decide_eq_true hb.2, decide_eq_false hn, decide_eq_false hz]; rfl)] at h
            refine (impl_FromDigits.good_calls ad c0 l0 a1 w hr0 hl hb hx hn hz).mono ?_
            rintro e w' ⟨rfl, hw⟩
            refine ⟨?_, hw⟩
            cases hrun : impl_FromDigits.run a1 l0 (down l0.length l0.length) with
            | some n => rw [hrun] at h; cases h; rfl
            | none => rw [hrun] at h; cases h; rfl
    · obtain ⟨rfl, rfl⟩ := fin _ (by by_cases h1 : 2 ≤ a1; rw [decide_eq_false (show ¬ a1 ≤ 64 by omega)]; simp; rw [decide_eq_false h1]; simp) h
      exact impl_FromDigits.base_fails A0 c0 l0 a1 w hr0 hl hb
  · rw [if_neg hl] at h
    cases h
end


/-! ### spec_l1Most: function 47 -/
def spec_l1Most.f (a0 : Int) (a1 : Int) : Option (Int) := if a0 > a1 then (some a0) else (some a1)
set_option maxHeartbeats 8000000 in
set_option maxRecDepth 100000 in
theorem spec_l1Most.calls (a0 : Int) (a1 : Int) (r : Int) (w : World) (h : spec_l1Most.f a0 a1 = some r) :
    Calls Try.prog 47 #[.int .i64 a0, .int .i64 a1] w fun e w' => e = .returned (.int .i64 r) ∧ Drawn0 w w' := by
  have H : (if a0 > a1 then (some a0) else (some a1)) = some r := h
  clear h
  by_cases c3 : a0 > a1
  · rw [if_pos c3] at H
    have c3b0 : decide (a1 < a0) = true := decide_eq_true c3
    clear c3
    obtain rfl := Option.some.inj H
    go_enter Try.func47, Try.ntmps47
    go_wp2
    go_ret
    exact ⟨by first | rfl | (simp; done) | (simp [*]; done), by repeat (first | exact Drawn0.refl _ | apply Drawn0.step)⟩
  · rw [if_neg c3] at H
    have c3b0 : decide (a1 < a0) = false := decide_eq_false c3
    clear c3
    obtain rfl := Option.some.inj H
    go_enter Try.func47, Try.ntmps47
    go_wp2
    go_ret
    exact ⟨by first | rfl | (simp; done) | (simp [*]; done), by repeat (first | exact Drawn0.refl _ | apply Drawn0.step)⟩

end Go.Proofs.Ytbjmnneaflmgaaa.MFnDigitsMakeNumbers
