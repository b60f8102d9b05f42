-- Written by wip/mine.py (a program of this repo) for this claim.
import Derived.Test.YtkhlhhpkleaphaaMFnExactStarLengthx0
namespace Go.Proofs.Ytkhlhhpkleaphaa.MFnExactStarLength
open Go.RowKit Go.Proofs.YtkhlhhpkleaphaaW.PrintWords Go.Proofs.YtkhlhhpkleaphaaW.PrintLast Go.Proofs.YtkhlhhpkleaphaaW.PrintMore Go.Proofs.YtkhlhhpkleaphaaV
attribute [local go_sem] max2_int min2_int max_two min_two max_three min_three max_four min_four   -- for this text's walks alone
set_option linter.unusedVariables false
set_option linter.unusedSimpArgs false

/-! ### spec_l1In: function 47 -/
def spec_l1In.f (a0 : Int) (a1 : Int) (a2 : Int) : Option (Bool) := if a0 ≥ a1 then (some (decide (a0 ≤ a2))) else (some false)
set_option maxHeartbeats 8000000 in
set_option maxRecDepth 100000 in
theorem spec_l1In.calls (a0 : Int) (a1 : Int) (a2 : Int) (r : Bool) (w : World) (h : spec_l1In.f a0 a1 a2 = some r) :
    Calls Try.prog 47 #[.int .i64 a0, .int .i64 a1, .int .i64 a2] w fun e w' => e = .returned (.bool r) ∧ Drawn0 w w' := by
  have H : (if a0 ≥ a1 then (some (decide (a0 ≤ a2))) else (some false)) = some r := h
  clear h
  by_cases c4 : a0 ≥ a1
  · rw [if_pos c4] at H
    have c4b0 : decide (a1 ≤ a0) = true := decide_eq_true c4
    clear c4
    obtain rfl := Option.some.inj H
    go_enter Try.func47, Try.ntmps47
    go_wp2
    go_ret
    exact ⟨by first | rfl | (simp; done) | (simp [*]; done), by repeat (first | exact Drawn0.refl _ | apply Drawn0.step)⟩
  · rw [if_neg c4] at H
    have c4b0 : decide (a1 ≤ a0) = false := decide_eq_false c4
    clear c4
    obtain rfl := Option.some.inj H
    go_enter Try.func47, Try.ntmps47
    go_wp2
    go_ret
    exact ⟨by first | rfl | (simp; done) | (simp [*]; done), by repeat (first | exact Drawn0.refl _ | apply Drawn0.step)⟩

/-! ### spec_shNumber: function 66 -/
def spec_shNumber.f (a0 : Int) : Option (Bool) := (spec_l1In.f a0 1 100).bind fun t101 => (some t101)
set_option maxHeartbeats 8000000 in
set_option maxRecDepth 100000 in
theorem spec_shNumber.calls (a0 : Int) (r : Bool) (w : World) (h : spec_shNumber.f a0 = some r) :
    Calls Try.prog 66 #[.int .i64 a0] w fun e w' => e = .returned (.bool r) ∧ Drawn0 w w' := by
  have H : ((spec_l1In.f a0 1 100).bind fun t101 => (some t101)) = some r := h
  clear h
  replace H := Option.bind_eq_some_iff.mp H
  obtain ⟨t101, A20, H⟩ := H
  replace H : (some t101) = some r := H
  have A2 := Aside0.mk A20
  clear A20
  obtain rfl := Option.some.inj H
  go_enter Try.func66, Try.ntmps66
  go_wp2_with (first | ((with_reducible refine gate_callee (f := 47) rfl ?_); refine goesL_ (some 4) rfl rfl Try.func47 (by kernel_rfl) rfl #[.int .i64 a0, .int .i64 1, .int .i64 100] rfl (by (try simp only [List.map_toArray, List.map_cons, List.map_nil]); first | done | rfl | (simp only [List.length_drop, List.length_take]; rfl)) ?_; (with_reducible refine (spec_l1In.calls a0 1 100 t101 _ A2.out).mono ?_); rintro e w' ⟨rfl, ⟨nd, rfl⟩⟩; refine ⟨_, rfl, ?_⟩))
  go_ret
  exact ⟨by first | rfl | (simp; done) | (simp [*]; done), by repeat (first | exact Drawn0.refl _ | apply Drawn0.step)⟩

/-! ### spec_l1Own: function 83 -/
def spec_l1Own.f (l0 : List Int) : Option (List Int) := (some (([] : List Int) : List Int)).bind fun y102 => (if y102.length + l0.length < 17592186044416 then (some (y102 ++ l0)) else (none))
set_option maxHeartbeats 8000000 in
set_option maxRecDepth 100000 in
theorem spec_l1Own.calls (A0 : Option Addr) (c0 : Nat) (l0 : List Int) (r : List Int) (w : World) (hr0 : Kd.C (Kd.int .i64) w A0 l0.length l0) (hc0 : l0.length ≤ c0) (h : spec_l1Own.f l0 = some r) :
    Calls Try.prog 83 #[.slice A0 l0.length c0] w fun e w' => ∃ v0_ : Value, e = .returned (v0_) ∧ Kd.R (Kd.int .i64) 3 w' w.heap.size (fun _ => True) v0_ r ∧ Below w.heap.size w w' := by
  have HR0 := Aside0.mk hr0
  have HC0 := Aside0.mk hc0
  clear hr0 hc0
  have HB := Aside0.mk (Below.refl w.heap.size w)
  have H : ((some (([] : List Int) : List Int)).bind fun y102 => (if y102.length + l0.length < 17592186044416 then (some (y102 ++ l0)) else (none))) = some r := h
  clear h
  obtain ⟨y102, hy102⟩ : ∃ y_ : List Int, y_ = (([] : List Int)) := ⟨_, rfl⟩
  replace H : (if y102.length + l0.length < 17592186044416 then (some (y102 ++ l0)) else (none)) = some r := by first | (rw [hy102]; with_reducible exact H) | (have H2_ := (Option.bind_some _ _).symm.trans H; rw [hy102]; with_reducible exact H2_) | (have H2_ := (Option.bind_some _ _).symm.trans H; with_reducible exact H2_) | with_reducible exact H | (rw [hy102]; exact H) | exact H
  have Ny102 := Aside0.mk hy102
  clear hy102
  by_cases c2 : y102.length + l0.length < 17592186044416
  · rw [if_pos c2] at H
    have LMc2 := Aside0.mk c2
    clear c2
    obtain ⟨y105, hy105⟩ : ∃ y_ : List Int, y_ = (y102 ++ l0) := ⟨_, rfl⟩
    replace H : (some y105) = some r := by first | (rw [hy105]; with_reducible exact H) | (have H2_ := (Option.bind_some _ _).symm.trans H; rw [hy105]; with_reducible exact H2_) | (have H2_ := (Option.bind_some _ _).symm.trans H; with_reducible exact H2_) | with_reducible exact H | (rw [hy105]; exact H) | exact H
    have Ny105 := Aside0.mk hy105
    clear hy105
    obtain rfl := Option.some.inj H
    go_enter Try.func83, Try.ntmps83
    go_wp2_with (first | ((with_reducible refine gate_dst (N := 3) rfl ?_); refine Kd.R_lit (Kd.int .i64) _ 3 ?hg (N := 3) ?hd (xs := ([] : List Int)) (inner := []) (ok := fun _ => True) (okp := fun _ => True) ?hr ?hp (fun _ hk => hk) trivial (Below.refl _ _) (Nat.le_refl _) (by simp) ?_; (case hd => rfl); (case hg => rfl); (case hr => first | (go_simp; done) | (go_simp; rfl)); (case hp => exact (Reps.none _ _)); intro v103 w3 ho4 hb hg_ hnew_; clear hg_ hnew_; (first | rw [← Ny102.out] at ho4 | (simp only [Int.reduceToNat] at ho4; rw [← Ny102.out] at ho4)); have n0_ := Aside0.mk (Kd.R_lower ho4 (below_size (by repeat (first | (with_reducible first | exact HB.out | apply below_alloc | apply pw_below_drewN | apply below_drew1) | exact HB.out)))); have n1_ := Aside0.mk (below_step (by repeat (first | (with_reducible first | exact HB.out | apply below_alloc | apply pw_below_drewN | apply below_drew1) | exact HB.out)) hb); clear HB; have HO104 := n0_; have HB := n1_; clear n0_ n1_; clear hb ho4) | ((with_reducible refine gate_builtin (b := .append) (xs := #[.tmp 3, .tmp 4]) rfl ?_); at_builtin; refine Kd.R_append_rows (Kd.int .i64) (w0 := w) w.heap.size rfl (.tmp 3) (.tmp 4) 26 3 (.int .i64 0) 8 rfl Try.underlying26 info3 rfl (by decide) (by omega) v103 y102 l0 _ _ _ (fun _ => True) (fun _ => False) rfl rfl ?aO ?aR (fun _ _ h => h) (fun _ h => h.elim) ?aF ?aB ?aS ?aL ?_; (case aR => repeat (first | exact (Kd.C_below HR0.out HB.out) | (with_reducible refine Kd.C_alloc ?_ _) | (with_reducible refine Kd.C_drewN ?_ _) | (with_reducible refine Kd.C_drew ?_))); (case aB => exact (by repeat (first | (with_reducible first | exact HB.out | apply below_alloc | apply pw_below_drewN | apply below_drew1) | exact HB.out))); (case aF => exact (fun _ _ => trivial)); (case aO => exact (by (with_reducible repeat (first | apply Kd.R_alloc | apply Kd.R_drewN | apply Kd.R_drew)); exact HO104.out)); (case aS => exact (below_size (by repeat (first | (with_reducible first | exact HB.out | apply below_alloc | apply pw_below_drewN | apply below_drew1) | exact HB.out)))); (case aL => have := LMc2.out; omega); intro v106 w5 ho hb hg hat; rw [← Ny105.out] at ho; have n0_ := Aside0.mk (hb); have n1_ := Aside0.mk (ho); clear HB; clear HO104; have HB := n0_; have HO107 := n1_; clear n0_ n1_; clear ho hb hg hat))
    go_ret
    exact ⟨_, by first | rfl | (simp [errW_none, errW_some] <;> rfl) | (simp [*, errW_none, errW_some] <;> rfl), by (with_reducible repeat (first | apply Kd.R_alloc | apply Kd.R_drewN | apply Kd.R_drew)); exact HO107.out, by repeat (first | (with_reducible first | exact HB.out | apply below_alloc | apply pw_below_drewN | apply below_drew1) | exact HB.out)⟩
  · rw [if_neg c2] at H
    exact absurd H (by simp)

/-! ### spec_shSearch: function 84 -/
mutual
def spec_shSearch.l0 : Nat → List Int → Int → Int → Int → Int → List (List Int) → List Int → Int → Int → Option ((List (List Int)))
  | 0, _, _, _, _, _, _, _, _, _ => none
  | k + 1, x0, x1, x2, x3, x9, x10, x28, x29, x30 => if x30 < x29 then (if 0 ≤ x30 then (if x30 < (x28.length : Int) then (if (wrap64 (x9 + (rd x28 x30))) > x1 then (spec_shSearch.j1 k x0 x1 x2 x3 x9 x10 (wrap64 (x9 + (rd x28 x30))) x28 x29 x30 true) else (if 0 ≤ (wrap64 (x2 - 1)) then (if (shl .i64 (wrap64 (x9 + (rd x28 x30))) (wrap64 (x2 - 1))) < x1 then (spec_shSearch.j1 k x0 x1 x2 x3 x9 x10 (wrap64 (x9 + (rd x28 x30))) x28 x29 x30 true) else (spec_shSearch.j1 k x0 x1 x2 x3 x9 x10 (wrap64 (x9 + (rd x28 x30))) x28 x29 x30 (decide ((x10.length : Int) ≥ x3)))) else (none))) else (none)) else (none)) else (some x10)
def spec_shSearch.j1 : Nat → List Int → Int → Int → Int → Int → List (List Int) → Int → List Int → Int → Int → Bool → Option ((List (List Int)))
  | 0, _, _, _, _, _, _, _, _, _, _, _ => none
  | k + 1, x0, x1, x2, x3, x9, x10, x13, x28, x29, x30, x53 => if x53 = true then (spec_shSearch.l0 k x0 x1 x2 x3 x9 x10 x28 x29 (wrap64 (x30 + 1))) else ((spec_l1Own.f x0).bind fun t116 => (if t116.length < 17592186044416 then ((spec_shSearch.f k (t116 ++ [x13]) x1 (wrap64 (x2 - 1)) (wrap64 (x3 - (x10.length : Int)))).bind fun t122 => (if x10.length + t122.length < 5864062014805 then (spec_shSearch.l0 k x0 x1 x2 x3 x9 (x10 ++ t122) x28 x29 (wrap64 (x30 + 1))) else (none))) else (none)))
def spec_shSearch.f : Nat → List Int → Int → Int → Int → Option ((List (List Int)))
  | 0, _, _, _, _ => none
  | k + 1, l0, a1, a2, a3 => if 0 ≤ (wrap64 ((l0.length : Int) - 1)) then (if (wrap64 ((l0.length : Int) - 1)) < (l0.length : Int) then (if a2 = 0 then (if (rd l0 (wrap64 ((l0.length : Int) - 1))) = a1 then ((spec_l1Own.f l0).bind fun t109 => (some (([t109] : List (List Int))))) else (some ([] : List (List Int)))) else (spec_shSearch.l0 k l0 a1 a2 a3 (rd l0 (wrap64 ((l0.length : Int) - 1))) ([] : List (List Int)) l0 (l0.length : Int) 0)) else (none)) else (none)
end
theorem spec_shSearch.mono_l : ∀ k, (∀ y0 y1 y2 y3, LeO (spec_shSearch.f k y0 y1 y2 y3) (spec_shSearch.f (k + 1) y0 y1 y2 y3)) ∧ (∀ y0 y1 y2 y3 y4 y5 y6 y7 y8, LeO (spec_shSearch.l0 k y0 y1 y2 y3 y4 y5 y6 y7 y8) (spec_shSearch.l0 (k + 1) y0 y1 y2 y3 y4 y5 y6 y7 y8)) ∧ (∀ y0 y1 y2 y3 y4 y5 y6 y7 y8 y9 y10, LeO (spec_shSearch.j1 k y0 y1 y2 y3 y4 y5 y6 y7 y8 y9 y10) (spec_shSearch.j1 (k + 1) y0 y1 y2 y3 y4 y5 y6 y7 y8 y9 y10))
  | 0 => ⟨fun _ _ _ _ r h => by simp [spec_shSearch.f] at h, fun _ _ _ _ _ _ _ _ _ r h => by simp [spec_shSearch.l0] at h, fun _ _ _ _ _ _ _ _ _ _ _ r h => by simp [spec_shSearch.j1] at h⟩
  | k + 1 => by
    obtain ⟨ih0, ih1, ih2⟩ := spec_shSearch.mono_l k
    refine ⟨?_, ?_, ?_⟩
    · intro y0 y1 y2 y3
      unfold spec_shSearch.f
      repeat' first
      | (with_reducible exact ih0 _ _ _ _)
      | (with_reducible exact ih1 _ _ _ _ _ _ _ _ _)
      | (with_reducible exact ih2 _ _ _ _ _ _ _ _ _ _ _)
      | (with_reducible exact LeO.refl _)
      | (with_reducible exact LeO.none _)
      | (with_reducible refine LeO.ite ?_ ?_)
      | (with_reducible refine LeO.bind ?_ (fun _ => ?_))
      | exact ih0 _ _ _ _
      | exact ih1 _ _ _ _ _ _ _ _ _
      | exact ih2 _ _ _ _ _ _ _ _ _ _ _
      | exact LeO.none _
      | refine LeO.ite ?_ ?_
      | refine LeO.bind ?_ (fun _ => ?_)
    · intro y0 y1 y2 y3 y4 y5 y6 y7 y8
      unfold spec_shSearch.l0
      repeat' first
      | (with_reducible exact ih0 _ _ _ _)
      | (with_reducible exact ih1 _ _ _ _ _ _ _ _ _)
      | (with_reducible exact ih2 _ _ _ _ _ _ _ _ _ _ _)
      | (with_reducible exact LeO.refl _)
      | (with_reducible exact LeO.none _)
      | (with_reducible refine LeO.ite ?_ ?_)
      | (with_reducible refine LeO.bind ?_ (fun _ => ?_))
      | exact ih0 _ _ _ _
      | exact ih1 _ _ _ _ _ _ _ _ _
      | exact ih2 _ _ _ _ _ _ _ _ _ _ _
      | exact LeO.none _
      | refine LeO.ite ?_ ?_
      | refine LeO.bind ?_ (fun _ => ?_)
    · intro y0 y1 y2 y3 y4 y5 y6 y7 y8 y9 y10
      unfold spec_shSearch.j1
      repeat' first
      | (with_reducible exact ih0 _ _ _ _)
      | (with_reducible exact ih1 _ _ _ _ _ _ _ _ _)
      | (with_reducible exact ih2 _ _ _ _ _ _ _ _ _ _ _)
      | (with_reducible exact LeO.refl _)
      | (with_reducible exact LeO.none _)
      | (with_reducible refine LeO.ite ?_ ?_)
      | (with_reducible refine LeO.bind ?_ (fun _ => ?_))
      | exact ih0 _ _ _ _
      | exact ih1 _ _ _ _ _ _ _ _ _
      | exact ih2 _ _ _ _ _ _ _ _ _ _ _
      | exact LeO.none _
      | refine LeO.ite ?_ ?_
      | refine LeO.bind ?_ (fun _ => ?_)
theorem spec_shSearch.mono : ∀ a0 a1 a2 a3 k, LeO (spec_shSearch.f k a0 a1 a2 a3) (spec_shSearch.f (k + 1) a0 a1 a2 a3) := by
  intro a0 a1 a2 a3 k
  obtain ⟨ih0, ih1, ih2⟩ := spec_shSearch.mono_l k
  exact ih0 a0 a1 a2 a3
set_option maxHeartbeats 8000000 in
set_option maxRecDepth 100000 in
theorem spec_shSearch.calls (k : Nat) : ∀ (A0 : Option Addr) (c0 : Nat) (l0 : List Int) (a1 : Int) (a2 : Int) (a3 : Int) (r : List (List Int)) (w : World) (hr0 : Kd.C (Kd.int .i64) w A0 l0.length l0) (hc0 : l0.length ≤ c0) (h : spec_shSearch.f k l0 a1 a2 a3 = some r),
    Calls Try.prog 84 #[.slice A0 l0.length c0, .int .i64 a1, .int .i64 a2, .int .i64 a3] w fun e w' => ∃ v0_ : Value, e = .returned (v0_) ∧ Kd.N (Kd.slice 3 (Kd.int .i64)) 26 w' w.heap.size (fun k_ => (w.heap.size ≤ k_)) v0_ r ∧ Below w.heap.size w w' := by
  induction k using Nat.strongRecOn with
  | _ k ih =>
  intro A0 c0 l0 a1 a2 a3 r w hr0 hc0 h
  cases k with
  | zero => exact absurd h (by simp [spec_shSearch.f])
  | succ k =>
  simp only [spec_shSearch.f] at h
  have HR0 := Aside0.mk hr0
  have HC0 := Aside0.mk hc0
  clear hr0 hc0
  have HB := Aside0.mk (Below.refl w.heap.size w)
  have H : (if 0 ≤ (wrap64 ((l0.length : Int) - 1)) then (if (wrap64 ((l0.length : Int) - 1)) < (l0.length : Int) then (if a2 = 0 then (if (rd l0 (wrap64 ((l0.length : Int) - 1))) = a1 then ((spec_l1Own.f l0).bind fun t109 => (some (([t109] : List (List Int))))) else (some ([] : List (List Int)))) else (spec_shSearch.l0 k l0 a1 a2 a3 (rd l0 (wrap64 ((l0.length : Int) - 1))) ([] : List (List Int)) l0 (l0.length : Int) 0)) else (none)) else (none)) = some r := h
  clear h
  obtain ⟨ji5, hji5⟩ : ∃ j_ : Int, (wrap64 ((l0.length : Int) - 1)) = j_ := ⟨_, rfl⟩
  replace H : (if 0 ≤ (ji5) then (if (ji5) < (l0.length : Int) then (if a2 = 0 then (if (rd l0 (ji5)) = a1 then ((spec_l1Own.f l0).bind fun t109 => (some (([t109] : List (List Int))))) else (some ([] : List (List Int)))) else (spec_shSearch.l0 k l0 a1 a2 a3 (rd l0 (ji5)) ([] : List (List Int)) l0 (l0.length : Int) 0)) else (none)) else (none)) = some r := by first | (rw [hji5] at H; exact H) | (simp only [hji5] at H ⊢; exact H)
  have hji5w : (IntKind.i64.wrap ((l0.length : Int) - 1)) = ji5 := (i64_w _).trans hji5
  by_cases c6 : 0 ≤ (ji5)
  · rw [if_pos c6] at H
    have c6b0 : decide (0 ≤ (ji5)) = true := decide_eq_true c6
    clear c6
    by_cases c7 : (ji5) < (l0.length : Int)
    · rw [if_pos c7] at H
      have c7b0 : decide ((ji5) < (l0.length : Int)) = true := decide_eq_true c7
      clear c7
      by_cases c8 : a2 = 0
      · rw [if_pos c8] at H
        have c8b0 : (a2 == 0) = true := beq_iff_eq.mpr c8
        have c8b1 : (a2 != 0) = false := bne_eq_false_iff_eq.mpr c8
        clear c8
        by_cases c9 : (rd l0 (ji5)) = a1
        · rw [if_pos c9] at H
          have c9b0 : ((rd l0 (ji5)) == a1) = true := beq_iff_eq.mpr c9
          have c9b1 : ((rd l0 (ji5)) != a1) = false := bne_eq_false_iff_eq.mpr c9
          clear c9
          replace H := Option.bind_eq_some_iff.mp H
          obtain ⟨t109, A100, H⟩ := H
          replace H : (some (([t109] : List (List Int)))) = some r := H
          have A10 := Aside0.mk A100
          clear A100
          obtain ⟨y112, hy112⟩ : ∃ y_ : List (List Int), y_ = (([t109] : List (List Int))) := ⟨_, rfl⟩
          replace H : (some y112) = some r := by first | (rw [hy112]; with_reducible exact H) | (have H2_ := (Option.bind_some _ _).symm.trans H; rw [hy112]; with_reducible exact H2_) | (have H2_ := (Option.bind_some _ _).symm.trans H; with_reducible exact H2_) | with_reducible exact H | (rw [hy112]; exact H) | exact H
          have Ny112 := Aside0.mk hy112
          clear hy112
          obtain rfl := Option.some.inj H
          have p108 : 0 ≤ ((ji5) : Int) := of_decide_eq_true (by first | (with_reducible assumption) | assumption)
          have q108 : (ji5) < (l0.length : Int) := of_decide_eq_true (by first | (with_reducible assumption) | assumption)
          obtain ⟨ad108, e108, hx108_0⟩ := Kd.at_int HR0.out (ji5) p108 q108
          cases e108
          replace p108 := eq_true p108
          replace q108 := eq_true q108
          go_enter Try.func84, Try.ntmps84
          go_wp2_with (first | ((with_reducible refine gate_callee (f := 83) rfl ?_); refine goesL_ (some 26) rfl rfl Try.func83 (by kernel_rfl) rfl #[.slice (some ad108) l0.length c0] rfl (by (try simp only [List.map_toArray, List.map_cons, List.map_nil]); first | done | rfl | (simp only [List.length_drop, List.length_take]; rfl)) ?_; (with_reducible refine (spec_l1Own.calls _ _ l0 t109 _ ?side1 ?side2 A10.out).mono ?_); (case side1 => repeat (first | exact HR0.out | (with_reducible refine Kd.C_alloc ?_ _) | (with_reducible refine Kd.C_drewN ?_ _) | (with_reducible refine Kd.C_drew ?_))); (case side2 => exact HC0.out); rintro e w11 ⟨v110, rfl, ho0, hb⟩; refine ⟨_, rfl, ?_⟩; have n0_ := Aside0.mk (Kd.R_lower (Kd.R_newM (M := fun k_ => (w.heap.size ≤ k_)) ho0 (below_size (by repeat (first | (with_reducible first | exact HB.out | apply below_alloc | apply pw_below_drewN | apply below_drew1) | exact HB.out))) (fun k_ h_ => h_)) (below_size (by repeat (first | (with_reducible first | exact HB.out | apply below_alloc | apply pw_below_drewN | apply below_drew1) | exact HB.out)))); have n1_ := Aside0.mk (below_step (by repeat (first | (with_reducible first | exact HB.out | apply below_alloc | apply pw_below_drewN | apply below_drew1) | exact HB.out)) hb); clear HB; have HO111 := n0_; have HB := n1_; clear n0_ n1_; (try clear hb); (try clear ho0); obtain ⟨Ao12, co12, eo12⟩ := Kd.R_slice HO111.out; subst eo12) | ((with_reducible refine gate_dst (N := 27) rfl ?_); (try (refine gate_guard (by rfl) ?_; dsimp only)); refine Kd.N_lit (Kd.slice 3 (Kd.int .i64)) _ 26 ?hg (N' := 27) ?hd (xs := ([t109] : List (List Int))) (inner := [.slice Ao12 t109.length co12]) (ok := (fun k_ => (w.heap.size ≤ k_))) (okp := (fun k_ => (w.heap.size ≤ k_))) ?hr ?hp (fun _ hk => hk) ((show ∀ k_, w11.heap.size ≤ k_ → (fun k_ => (w.heap.size ≤ k_)) k_ from fun k_ hk => (Nat.le_trans (below_size (by repeat (first | (with_reducible first | exact HB.out | apply below_alloc | apply pw_below_drewN | apply below_drew1) | exact HB.out))) hk)) _ (Nat.le_refl _)) (Below.refl _ _) (Nat.le_refl _) (by simp) ?_; (case hd => rfl); (case hg => rfl); (case hr => first | (go_simp; done) | (go_simp; rfl)); (case hp => exact (Reps.one (show Kd.FK (Kd.slice 3 (Kd.int .i64)) _ _ t109 [.slice Ao12 t109.length co12] from (Kd.FK_slice_mk (Kd.R_reads' (Kd.R_mono (ok' := (fun k_ => (w.heap.size ≤ k_))) (HO111.out) (fun k_ hk => hk.1))).2.1 (Kd.R_F (Kd.R_mono (ok' := (fun k_ => (w.heap.size ≤ k_))) (HO111.out) (fun k_ hk => hk.1))))) (Reps.none _ _))); intro v113 w13 ho14 hb hg_ hnew_; clear hg_ hnew_; (first | rw [← Ny112.out] at ho14 | (simp only [Int.reduceToNat] at ho14; rw [← Ny112.out] at ho14)); have n0_ := Aside0.mk (Kd.N_lower ho14 (below_size (by repeat (first | (with_reducible first | exact HB.out | apply below_alloc | apply pw_below_drewN | apply below_drew1) | exact HB.out)))); have n1_ := Aside0.mk (below_step (by repeat (first | (with_reducible first | exact HB.out | apply below_alloc | apply pw_below_drewN | apply below_drew1) | exact HB.out)) hb); clear HB; clear HO111; have HO114 := n0_; have HB := n1_; clear n0_ n1_; clear hb ho14))
          go_ret
          exact ⟨_, by first | rfl | (simp [errW_none, errW_some] <;> rfl) | (simp only [← hji5]; first | rfl | (simp [errW_none, errW_some] <;> rfl)) | (simp [*, errW_none, errW_some] <;> rfl), by (with_reducible repeat (first | apply Kd.N_alloc | apply Kd.N_drewN | apply Kd.N_drew)); exact HO114.out, by repeat (first | (with_reducible first | exact HB.out | apply below_alloc | apply pw_below_drewN | apply below_drew1) | exact HB.out)⟩
        · rw [if_neg c9] at H
          have c9b0 : ((rd l0 (ji5)) == a1) = false := beq_eq_false_iff_ne.mpr c9
          have c9b1 : ((rd l0 (ji5)) != a1) = true := bne_iff_ne.mpr c9
          obtain rfl := Option.some.inj H
          have p108 : 0 ≤ ((ji5) : Int) := of_decide_eq_true (by first | (with_reducible assumption) | assumption)
          have q108 : (ji5) < (l0.length : Int) := of_decide_eq_true (by first | (with_reducible assumption) | assumption)
          obtain ⟨ad108, e108, hx108_0⟩ := Kd.at_int HR0.out (ji5) p108 q108
          cases e108
          replace p108 := eq_true p108
          replace q108 := eq_true q108
          go_enter Try.func84, Try.ntmps84
          go_wp2
          go_ret
          exact ⟨_, by first | rfl | (simp [errW_none, errW_some] <;> rfl) | (simp only [← hji5]; first | rfl | (simp [errW_none, errW_some] <;> rfl)) | (simp [*, errW_none, errW_some] <;> rfl), by first | exact Kd.S_nil _ _ _ _ _ | exact Kd.N_nil _ _ _ _ _ | exact Kd.V_nil _ _ _ _ _ | exact Kd.Q_nil _ _ _ _ _ | exact Kd.R_nil _ _ _ _ _, by repeat (first | (with_reducible first | exact HB.out | apply below_alloc | apply pw_below_drewN | apply below_drew1) | exact HB.out)⟩
      · rw [if_neg c8] at H
        have c8b0 : (a2 == 0) = false := beq_eq_false_iff_ne.mpr c8
        have c8b1 : (a2 != 0) = true := bne_iff_ne.mpr c8
        have H' := Aside0.mk H
        clear H
        have p108 : 0 ≤ ((ji5) : Int) := of_decide_eq_true (by first | (with_reducible assumption) | assumption)
        have q108 : (ji5) < (l0.length : Int) := of_decide_eq_true (by first | (with_reducible assumption) | assumption)
        obtain ⟨ad108, e108, hx108_0⟩ := Kd.at_int HR0.out (ji5) p108 q108
        cases e108
        replace p108 := eq_true p108
        replace q108 := eq_true q108
        go_enter Try.func84, Try.ntmps84
        go_wp2
        go_loopg [10, 30] k (fun kq v10 v30 w' => ∃ (x10_1 : List (List Int)) (x30_1 : Int), v30 = .int .i64 x30_1 ∧ Aside0 (spec_shSearch.l0 kq l0 a1 a2 a3 (rd l0 (ji5)) x10_1 l0 (l0.length : Int) x30_1 = some r) ∧ Aside0 (kq ≤ k) ∧ Aside0 (Kd.N (Kd.slice 3 (Kd.int .i64)) 26 w' w.heap.size (fun k_ => (w.heap.size ≤ k_)) v10 x10_1) ∧ Aside0 (Below w.heap.size w w'))
        case atStart => exact ⟨(([] : List (List Int))), (0), (by first | rfl | (simp; done) | (simp [*]; done)), H', ⟨Nat.le_refl _⟩, ⟨by first | exact Kd.S_nil _ _ _ _ _ | exact Kd.N_nil _ _ _ _ _ | exact Kd.V_nil _ _ _ _ _ | exact Kd.Q_nil _ _ _ _ _ | exact Kd.R_nil _ _ _ _ _⟩, ⟨by repeat (first | (with_reducible first | exact HB.out | apply below_alloc | apply pw_below_drewN | apply below_drew1) | exact HB.out)⟩⟩
        case round =>
          clear H'
          try clear p1
          try clear q1
          try clear hx1
          try clear p2
          try clear c6
          try clear c6b0
          try clear p6
          try clear c7
          try clear c7b0
          try clear c8
          try clear c8b0
          try clear c8b1
          try clear c9
          try clear c9b0
          try clear c9b1
          try clear p10
          try clear q10
          try clear hx10
          try clear hx108_0
          try clear p108
          try clear q108
          obtain ⟨x10_1, x30_1, rfl, HA, HK1, HO_10, HB⟩ := hrel
          cases gk with
          | zero => exact absurd HA.out (by simp [spec_shSearch.l0])
          | succ k1 =>
            have H := HA.out
            clear HA
            simp only [spec_shSearch.l0] at H
            by_cases c15 : x30_1 < (l0.length : Int)
            · rw [if_pos c15] at H
              have c15b0 : decide (x30_1 < (l0.length : Int)) = true := decide_eq_true c15
              clear c15
              by_cases c16 : 0 ≤ x30_1
              · rw [if_pos c16] at H
                have c16b0 : decide (0 ≤ x30_1) = true := decide_eq_true c16
                clear c16
                by_cases c17 : x30_1 < (l0.length : Int)
                · rw [if_pos c17] at H
                  have c17b0 : decide (x30_1 < (l0.length : Int)) = true := decide_eq_true c17
                  clear c17
                  have HC18 := Aside0.mk H
                  clear H
                  have p115 : 0 ≤ (x30_1 : Int) := of_decide_eq_true (by first | (with_reducible assumption) | assumption)
                  have q115 : x30_1 < (l0.length : Int) := of_decide_eq_true (by first | (with_reducible assumption) | assumption)
                  obtain ⟨ad115, e115, hx115_0⟩ := Kd.at_int HR0.out x30_1 p115 q115
                  obtain rfl : ad108 = ad115 := (by injection e115)
                  replace hx115_0 := (HB.out.cell (World.block_lt_of_cell? w _ hx115_0)).trans hx115_0
                  replace p115 := eq_true p115
                  replace q115 := eq_true q115
                  go_upto_region 11 with (fail)
                  go_cut [53] (fun v53 wc => ∃ (kq : Nat) (x53_17 : Bool), v53 = .bool x53_17 ∧ Aside0 (spec_shSearch.j1 kq l0 a1 a2 a3 (rd l0 (ji5)) x10_1 (wrap64 ((rd l0 (ji5)) + (rd l0 x30_1))) l0 (l0.length : Int) x30_1 x53_17 = some r) ∧ Aside0 (kq ≤ k1) ∧ Aside0 (Kd.N (Kd.slice 3 (Kd.int .i64)) 26 wc w.heap.size (fun k_ => (w.heap.size ≤ k_)) u10 x10_1) ∧ Aside0 (Below w.heap.size w wc))
                  case first =>
                    have H := HC18.out
                    clear HC18
                    by_cases c19 : (wrap64 ((rd l0 (ji5)) + (rd l0 x30_1))) > a1
                    · rw [if_pos c19] at H
                      have c19b0 : decide (a1 < (wrap64 ((rd l0 (ji5)) + (rd l0 x30_1)))) = true := decide_eq_true c19
                      clear c19
                      (first | rw [c19b0] | (simp only [i64_w, i32_w]; rw [c19b0]) | skip)
                      have H' := Aside0.mk H
                      clear H
                      go_wp2
                      go_meet
                      case rel => exact ⟨_, (true), (by first | rfl | (simp; done) | (simp [*]; done)), H', ⟨by have := HK1.out; first | omega | exact Nat.le_refl _⟩, ⟨by (with_reducible repeat (first | apply Kd.N_alloc | apply Kd.N_drewN | apply Kd.N_drew)); exact HO_10.out⟩, ⟨by repeat (first | (with_reducible first | exact HB.out | apply below_alloc | apply pw_below_drewN | apply below_drew1) | exact HB.out)⟩⟩
                    · rw [if_neg c19] at H
                      have c19b0 : decide (a1 < (wrap64 ((rd l0 (ji5)) + (rd l0 x30_1)))) = false := decide_eq_false c19
                      clear c19
                      (first | rw [c19b0] | (simp only [i64_w, i32_w]; rw [c19b0]) | skip)
                      obtain ⟨ji20, hji20⟩ : ∃ j_ : Int, (wrap64 (a2 - 1)) = j_ := ⟨_, rfl⟩
                      replace H : (if 0 ≤ (ji20) then (if (shl .i64 (wrap64 ((rd l0 (ji5)) + (rd l0 x30_1))) (ji20)) < a1 then (spec_shSearch.j1 k1 l0 a1 a2 a3 (rd l0 (ji5)) x10_1 (wrap64 ((rd l0 (ji5)) + (rd l0 x30_1))) l0 (l0.length : Int) x30_1 true) else (spec_shSearch.j1 k1 l0 a1 a2 a3 (rd l0 (ji5)) x10_1 (wrap64 ((rd l0 (ji5)) + (rd l0 x30_1))) l0 (l0.length : Int) x30_1 (decide ((x10_1.length : Int) ≥ a3)))) else (none)) = some r := by first | (rw [hji20] at H; exact H) | (simp only [hji20] at H ⊢; exact H)
                      have hji20w : (IntKind.i64.wrap (a2 - 1)) = ji20 := (i64_w _).trans hji20
                      by_cases c21 : 0 ≤ (ji20)
                      · rw [if_pos c21] at H
                        have c21b0 := eq_true c21
                        have c21b1 : decide (0 ≤ (ji20)) = true := decide_eq_true c21
                        clear c21
                        obtain ⟨ji22, hji22⟩ : ∃ j_ : Int, (shl .i64 (wrap64 ((rd l0 (ji5)) + (rd l0 x30_1))) (ji20)) = j_ := ⟨_, rfl⟩
                        replace H : (if (ji22) < a1 then (spec_shSearch.j1 k1 l0 a1 a2 a3 (rd l0 (ji5)) x10_1 (wrap64 ((rd l0 (ji5)) + (rd l0 x30_1))) l0 (l0.length : Int) x30_1 true) else (spec_shSearch.j1 k1 l0 a1 a2 a3 (rd l0 (ji5)) x10_1 (wrap64 ((rd l0 (ji5)) + (rd l0 x30_1))) l0 (l0.length : Int) x30_1 (decide ((x10_1.length : Int) ≥ a3)))) = some r := by first | (rw [hji22] at H; exact H) | (simp only [hji22] at H ⊢; exact H)
                        have hji22_ : (IntKind.i64.wrap ((wrap64 ((rd l0 (ji5)) + (rd l0 x30_1))) * 2 ^ min (ji20).toNat 64)) = ji22 := hji22
                        have hji22z : (ji20) ≤ 64 → (IntKind.i64.wrap ((wrap64 ((rd l0 (ji5)) + (rd l0 x30_1))) * 2 ^ (ji20).toNat)) = ji22 := shl_small hji22
                        have hji22y : (wrap64 ((wrap64 ((rd l0 (ji5)) + (rd l0 x30_1))) * 2 ^ min (ji20).toNat 64)) = ji22 := (i64_w _).symm.trans hji22_
                        have hji22x : (ji20) ≤ 64 → (wrap64 ((wrap64 ((rd l0 (ji5)) + (rd l0 x30_1))) * 2 ^ (ji20).toNat)) = ji22 := fun h_ => (i64_w _).symm.trans (hji22z h_)
                        by_cases c23 : (ji22) < a1
                        · rw [if_pos c23] at H
                          have c23b0 : decide ((ji22) < a1) = true := decide_eq_true c23
                          clear c23
                          have H' := Aside0.mk H
                          clear H
                          go_wp2
                          go_meet
                          case rel => exact ⟨_, (true), (by first | rfl | (simp; done) | (simp [*]; done)), H', ⟨by have := HK1.out; first | omega | exact Nat.le_refl _⟩, ⟨by (with_reducible repeat (first | apply Kd.N_alloc | apply Kd.N_drewN | apply Kd.N_drew)); exact HO_10.out⟩, ⟨by repeat (first | (with_reducible first | exact HB.out | apply below_alloc | apply pw_below_drewN | apply below_drew1) | exact HB.out)⟩⟩
                        · rw [if_neg c23] at H
                          have c23b0 : decide ((ji22) < a1) = false := decide_eq_false c23
                          clear c23
                          have H' := Aside0.mk H
                          clear H
                          obtain ⟨Ao24, co24, eo24⟩ := Kd.N_slice HO_10.out
                          subst eo24
                          go_wp2
                          go_meet
                          case rel => exact ⟨_, (decide ((x10_1.length : Int) ≥ a3)), (by first | rfl | (simp; done) | (simp [*]; done)), H', ⟨by have := HK1.out; first | omega | exact Nat.le_refl _⟩, ⟨by (with_reducible repeat (first | apply Kd.N_alloc | apply Kd.N_drewN | apply Kd.N_drew)); exact HO_10.out⟩, ⟨by repeat (first | (with_reducible first | exact HB.out | apply below_alloc | apply pw_below_drewN | apply below_drew1) | exact HB.out)⟩⟩
                      · rw [if_neg c21] at H
                        exact absurd H (by simp)
                  case rest =>
                    clear HC18
                    try clear c1
                    try clear p1
                    try clear q1
                    try clear hx1
                    try clear c2
                    try clear p2
                    try clear c6
                    try clear c6b0
                    try clear p6
                    try clear c7
                    try clear c7b0
                    try clear c8
                    try clear c8b0
                    try clear c8b1
                    try clear c9
                    try clear c9b0
                    try clear c9b1
                    try clear p10
                    try clear q10
                    try clear hx10
                    try clear p11
                    try clear q11
                    try clear hx11
                    try clear c15
                    try clear c15b0
                    try clear c16
                    try clear c16b0
                    try clear c17
                    try clear c17b0
                    try clear c19
                    try clear c19b0
                    try clear c21
                    try clear c21b0
                    try clear c21b1
                    try clear c23
                    try clear c23b0
                    try clear hx108_0
                    try clear hx115_0
                    try clear p1
                    try clear p10
                    try clear p108
                    try clear p115
                    try clear p2
                    try clear p6
                    try clear q1
                    try clear q10
                    try clear q108
                    try clear q115
                    obtain ⟨kq, x53_17, rfl, HA, HJ17, HO_10, HB⟩ := hcut
                    cases kq with
                    | zero => exact absurd HA.out (by simp [spec_shSearch.j1])
                    | succ kj17 =>
                      have H := HA.out
                      clear HA
                      simp only [spec_shSearch.j1] at H
                      by_cases c25 : x53_17 = true
                      · subst c25
                        have H1 : (spec_shSearch.l0 kj17 l0 a1 a2 a3 (rd l0 (ji5)) x10_1 l0 (l0.length : Int) (wrap64 (x30_1 + 1))) = some r := by rw [if_pos rfl] at H; exact H
                        clear H
                        have H := H1
                        clear H1
                        have H' := Aside0.mk H
                        clear H
                        go_wp2
                        go_roundg kj17
                        case measure => have := HK1.out; have := HJ17.out; omega
                        case rel => exact ⟨(x10_1), (wrap64 (x30_1 + 1)), (by first | rfl | (simp; done) | (simp [*]; done)), H', ⟨by have := HK1.out; have := HJ17.out; omega⟩, ⟨by (with_reducible repeat (first | apply Kd.N_alloc | apply Kd.N_drewN | apply Kd.N_drew)); exact HO_10.out⟩, ⟨by repeat (first | (with_reducible first | exact HB.out | apply below_alloc | apply pw_below_drewN | apply below_drew1) | exact HB.out)⟩⟩
                      · replace c25 := Bool.eq_false_iff.mpr c25
                        subst c25
                        have H1 : ((spec_l1Own.f l0).bind fun t116 => (if t116.length < 17592186044416 then ((spec_shSearch.f kj17 (t116 ++ [(wrap64 ((rd l0 (ji5)) + (rd l0 x30_1)))]) a1 (wrap64 (a2 - 1)) (wrap64 (a3 - (x10_1.length : Int)))).bind fun t122 => (if x10_1.length + t122.length < 5864062014805 then (spec_shSearch.l0 kj17 l0 a1 a2 a3 (rd l0 (ji5)) (x10_1 ++ t122) l0 (l0.length : Int) (wrap64 (x30_1 + 1))) else (none))) else (none))) = some r := by rw [if_neg (show ¬ (false = true) by decide)] at H; exact H
                        clear H
                        have H := H1
                        clear H1
                        replace H := Option.bind_eq_some_iff.mp H
                        obtain ⟨t116, A260, H⟩ := H
                        replace H : (if t116.length < 17592186044416 then ((spec_shSearch.f kj17 (t116 ++ [(wrap64 ((rd l0 (ji5)) + (rd l0 x30_1)))]) a1 (wrap64 (a2 - 1)) (wrap64 (a3 - (x10_1.length : Int)))).bind fun t122 => (if x10_1.length + t122.length < 5864062014805 then (spec_shSearch.l0 kj17 l0 a1 a2 a3 (rd l0 (ji5)) (x10_1 ++ t122) l0 (l0.length : Int) (wrap64 (x30_1 + 1))) else (none))) else (none)) = some r := H
                        have A26 := Aside0.mk A260
                        clear A260
                        by_cases c27 : t116.length < 17592186044416
                        · rw [if_pos c27] at H
                          have LMc27 := Aside0.mk c27
                          clear c27
                          obtain ⟨y119, hy119⟩ : ∃ y_ : List Int, y_ = (t116 ++ [(wrap64 ((rd l0 (ji5)) + (rd l0 x30_1)))]) := ⟨_, rfl⟩
                          replace H : ((spec_shSearch.f kj17 y119 a1 (wrap64 (a2 - 1)) (wrap64 (a3 - (x10_1.length : Int)))).bind fun t122 => (if x10_1.length + t122.length < 5864062014805 then (spec_shSearch.l0 kj17 l0 a1 a2 a3 (rd l0 (ji5)) (x10_1 ++ t122) l0 (l0.length : Int) (wrap64 (x30_1 + 1))) else (none))) = some r := by first | (rw [hy119]; with_reducible exact H) | (have H2_ := (Option.bind_some _ _).symm.trans H; rw [hy119]; with_reducible exact H2_) | (have H2_ := (Option.bind_some _ _).symm.trans H; with_reducible exact H2_) | with_reducible exact H | (rw [hy119]; exact H) | exact H
                          have Ny119 := Aside0.mk hy119
                          clear hy119
                          replace H := Option.bind_eq_some_iff.mp H
                          obtain ⟨t122, A280, H⟩ := H
                          replace H : (if x10_1.length + t122.length < 5864062014805 then (spec_shSearch.l0 kj17 l0 a1 a2 a3 (rd l0 (ji5)) (x10_1 ++ t122) l0 (l0.length : Int) (wrap64 (x30_1 + 1))) else (none)) = some r := H
                          have A28 := Aside0.mk A280
                          clear A280
                          by_cases c29 : x10_1.length + t122.length < 5864062014805
                          · rw [if_pos c29] at H
                            have LMc29 := Aside0.mk c29
                            clear c29
                            obtain ⟨y125, hy125⟩ : ∃ y_ : List (List Int), y_ = (x10_1 ++ t122) := ⟨_, rfl⟩
                            replace H : (spec_shSearch.l0 kj17 l0 a1 a2 a3 (rd l0 (ji5)) y125 l0 (l0.length : Int) (wrap64 (x30_1 + 1))) = some r := by first | (rw [hy125]; with_reducible exact H) | (have H2_ := (Option.bind_some _ _).symm.trans H; rw [hy125]; with_reducible exact H2_) | (have H2_ := (Option.bind_some _ _).symm.trans H; with_reducible exact H2_) | with_reducible exact H | (rw [hy125]; exact H) | exact H
                            have Ny125 := Aside0.mk hy125
                            clear hy125
                            have H' := Aside0.mk H
                            clear H
                            go_wp2_with (first | ((with_reducible refine gate_callee (f := 83) rfl ?_); refine goesL_ (some 56) rfl rfl Try.func83 (by kernel_rfl) rfl #[.slice (some ad108) l0.length c0] rfl (by (try simp only [List.map_toArray, List.map_cons, List.map_nil]); first | done | rfl | (simp only [List.length_drop, List.length_take]; rfl)) ?_; (with_reducible refine (spec_l1Own.calls _ _ l0 t116 _ ?side1 ?side2 A26.out).mono ?_); (case side1 => repeat (first | exact (Kd.C_below HR0.out HB.out) | (with_reducible refine Kd.C_alloc ?_ _) | (with_reducible refine Kd.C_drewN ?_ _) | (with_reducible refine Kd.C_drew ?_))); (case side2 => exact HC0.out); rintro e w30 ⟨v117, rfl, ho0, hb⟩; refine ⟨_, rfl, ?_⟩; have n0_ := Aside0.mk (Kd.N_elder' (by (with_reducible repeat (first | apply Kd.N_alloc | apply Kd.N_drewN | apply Kd.N_drew)); exact HO_10.out) (Kd.R_base ho0) hb); have n1_ := Aside0.mk (Kd.R_lower (Kd.R_newM (M := fun k_ => (w.heap.size ≤ k_)) ho0 (below_size (by repeat (first | (with_reducible first | exact HB.out | apply below_alloc | apply pw_below_drewN | apply below_drew1) | exact HB.out))) (fun k_ h_ => h_)) (below_size (by repeat (first | (with_reducible first | exact HB.out | apply below_alloc | apply pw_below_drewN | apply below_drew1) | exact HB.out)))); have n2_ := Aside0.mk (below_step (by repeat (first | (with_reducible first | exact HB.out | apply below_alloc | apply pw_below_drewN | apply below_drew1) | exact HB.out)) hb); clear HO_10; clear HB; have HO_10 := n0_; have HO118 := n1_; have HB := n2_; clear n0_ n1_ n2_; (try clear hb); (try clear ho0)) | ((with_reducible refine gate_builtin (b := .append) (xs := #[.tmp 56, .tmp 58]) rfl ?_); (try (refine gate_guard (by rfl) ?_; dsimp only)); at_builtin; refine Kd.R_append (Kd.int .i64) (w0 := w) w.heap.size rfl (.tmp 56) (.tmp 58) 26 3 (.int .i64 0) 8 rfl Try.underlying26 info3 rfl (by decide) (by omega) v117 t116 (wrap64 ((rd l0 (ji5)) + (rd l0 x30_1))) [.int .i64 (wrap64 ((rd l0 (ji5)) + (rd l0 x30_1)))] (fun k_ => (w.heap.size ≤ k_)) (fun _ => False) rfl rfl ?aP (fun _ hk => hk.elim) ?aF ?aO ?aB ?aS ?aL ?_; (case aP => exact rfl); (case aB => exact (by repeat (first | (with_reducible first | exact HB.out | apply below_alloc | apply pw_below_drewN | apply below_drew1) | exact HB.out))); (case aF => exact (fun k_ hk => (Nat.le_trans (below_size (by repeat (first | (with_reducible first | exact HB.out | apply below_alloc | apply pw_below_drewN | apply below_drew1) | exact HB.out))) hk))); (case aO => exact (by (with_reducible repeat (first | apply Kd.R_alloc | apply Kd.R_drewN | apply Kd.R_drew)); exact Kd.R_mono HO118.out (fun _ hk => hk.1))); (case aS => exact (below_size (by repeat (first | (with_reducible first | exact HB.out | apply below_alloc | apply pw_below_drewN | apply below_drew1) | exact HB.out)))); (case aL => have := LMc27.out; omega); intro v120 w31 ho hb hg hat; rw [← Ny119.out] at ho; have n0_ := Aside0.mk (Kd.N_afterv (ok := (fun k_ => (w.heap.size ≤ k_))) (by (with_reducible repeat (first | apply Kd.N_alloc | apply Kd.N_drewN | apply Kd.N_drew)); exact HO_10.out) hg hat); have n1_ := Aside0.mk (hb); have n2_ := Aside0.mk (ho); clear HO_10; clear HB; clear HO118; have HO_10 := n0_; have HB := n1_; have HO121 := n2_; clear n0_ n1_ n2_; clear ho hb hg hat; obtain ⟨Ao32, co32, eo32⟩ := Kd.N_slice HO_10.out; subst eo32; obtain ⟨Ao33, co33, eo33⟩ := Kd.R_slice HO121.out; subst eo33) | ((with_reducible refine gate_callee (f := 84) rfl ?_); refine goesL_ (some 67) rfl rfl Try.func84 (by kernel_rfl) rfl #[.slice Ao33 y119.length co33, .int .i64 a1, .int .i64 (wrap64 (a2 - 1)), .int .i64 (wrap64 (a3 - (x10_1.length : Int)))] rfl (by (try simp only [List.map_toArray, List.map_cons, List.map_nil]); first | done | rfl | (simp only [List.length_drop, List.length_take]; rfl)) ?_; (with_reducible refine (ih kj17 (by have := HK1.out; have := HJ17.out; omega) _ _ y119 a1 (wrap64 (a2 - 1)) (wrap64 (a3 - (x10_1.length : Int))) t122 _ ?side1 ?side2 A28.out).mono ?_); (case side1 => repeat (first | exact (Kd.R_reads' HO121.out).2.2 | (with_reducible refine Kd.C_alloc ?_ _) | (with_reducible refine Kd.C_drewN ?_ _) | (with_reducible refine Kd.C_drew ?_))); (case side2 => exact (Kd.R_reads' HO121.out).2.1); rintro e w34 ⟨v123, rfl, ho0, hb⟩; refine ⟨_, rfl, ?_⟩; have n0_ := Aside0.mk (Kd.N_elder' (by (with_reducible repeat (first | apply Kd.N_alloc | apply Kd.N_drewN | apply Kd.N_drew)); exact HO_10.out) (Kd.N_base ho0) hb); have n1_ := Aside0.mk (Kd.R_below (by (with_reducible repeat (first | apply Kd.R_alloc | apply Kd.R_drewN | apply Kd.R_drew)); exact HO121.out) hb); have n2_ := Aside0.mk (Kd.N_lower (Kd.N_mono (ok' := fun k_ => (w.heap.size ≤ k_) ∧ some k_ ≠ (.slice Ao32 x10_1.length co32 : Value).ownBlock ∧ some k_ ≠ (.slice Ao33 y119.length co33 : Value).ownBlock) ho0 (fun k_ hk_ => ⟨(Nat.le_trans (below_size (by repeat (first | (with_reducible first | exact HB.out | apply below_alloc | apply pw_below_drewN | apply below_drew1) | exact HB.out))) hk_), (Kd.fresh' (Kd.N_lt (by (with_reducible repeat (first | apply Kd.N_alloc | apply Kd.N_drewN | apply Kd.N_drew)); exact HO_10.out)) k_ hk_), (Kd.fresh' (Kd.R_lt (by (with_reducible repeat (first | apply Kd.R_alloc | apply Kd.R_drewN | apply Kd.R_drew)); exact HO121.out)) k_ hk_)⟩)) (below_size (by repeat (first | (with_reducible first | exact HB.out | apply below_alloc | apply pw_below_drewN | apply below_drew1) | exact HB.out)))); have n3_ := Aside0.mk (below_step (by repeat (first | (with_reducible first | exact HB.out | apply below_alloc | apply pw_below_drewN | apply below_drew1) | exact HB.out)) hb); clear HO_10; clear HO121; clear HB; have HO_10 := n0_; have HO121 := n1_; have HO124 := n2_; have HB := n3_; clear n0_ n1_ n2_ n3_; (try clear hb); (try clear ho0); obtain ⟨Ao36, co36, eo36⟩ := Kd.N_slice HO124.out; subst eo36) | ((with_reducible refine gate_builtin (b := .append) (xs := #[.tmp 54, .tmp 67]) rfl ?_); (try (refine gate_guard (by rfl) ?_; dsimp only)); at_builtin; refine Kd.N_append_rows (Kd.slice 3 (Kd.int .i64)) (w0 := w) w.heap.size rfl (.tmp 54) (.tmp 67) 61 26 (.slice none 0 0) 24 rfl Try.underlying61 info26 rfl (by decide) (by omega) (.slice Ao32 x10_1.length co32) x10_1 t122 _ _ _ (fun k_ => (w.heap.size ≤ k_) ∧ some k_ ≠ (.slice Ao33 y119.length co33 : Value).ownBlock) (fun k_ => ((fun k_ => (w.heap.size ≤ k_) ∧ some k_ ≠ (.slice Ao33 y119.length co33 : Value).ownBlock)) k_ ∧ some k_ ≠ (.slice Ao32 x10_1.length co32 : Value).ownBlock) rfl rfl ?aO ?aR (fun _ hk => hk) ?aF ?aB ?aS ?aL ?_; (case aR => exact (by skip; exact Kd.N_F (Kd.N_mono (ok' := (fun k_ => ((fun k_ => (w.heap.size ≤ k_) ∧ some k_ ≠ (.slice Ao33 y119.length co33 : Value).ownBlock)) k_ ∧ some k_ ≠ (.slice Ao32 x10_1.length co32 : Value).ownBlock)) (HO124.out) (fun k_ hk => ⟨⟨hk.1, hk.2.2⟩, hk.2.1⟩)))); (case aB => exact (by repeat (first | (with_reducible first | exact HB.out | apply below_alloc | apply pw_below_drewN | apply below_drew1) | exact HB.out))); (case aF => exact (fun k_ hk => ⟨(Nat.le_trans (below_size (by repeat (first | (with_reducible first | exact HB.out | apply below_alloc | apply pw_below_drewN | apply below_drew1) | exact HB.out))) hk), Kd.fresh' (Kd.R_lt (by (with_reducible repeat (first | apply Kd.R_alloc | apply Kd.R_drewN | apply Kd.R_drew)); exact HO121.out)) k_ hk⟩)); (case aO => exact (by (with_reducible repeat (first | apply Kd.N_alloc | apply Kd.N_drewN | apply Kd.N_drew)); exact Kd.N_mono HO_10.out (fun _ hk => ⟨hk.1.1, hk.1.2⟩))); (case aS => exact (below_size (by repeat (first | (with_reducible first | exact HB.out | apply below_alloc | apply pw_below_drewN | apply below_drew1) | exact HB.out)))); (case aL => have := LMc29.out; omega); intro v126 w35 ho hb hg hat; rw [← Ny125.out] at ho; have n0_ := Aside0.mk (Kd.R_over' (by (with_reducible repeat (first | apply Kd.R_alloc | apply Kd.R_drewN | apply Kd.R_drew)); exact HO121.out) (Kd.N_typed (by (with_reducible repeat (first | apply Kd.N_alloc | apply Kd.N_drewN | apply Kd.N_drew)); exact HO_10.out)) (by decide) hg); have n1_ := Aside0.mk (Kd.N_afterv (ok := (fun k_ => (w.heap.size ≤ k_) ∧ some k_ ≠ (.slice Ao33 y119.length co33 : Value).ownBlock)) (by (with_reducible repeat (first | apply Kd.N_alloc | apply Kd.N_drewN | apply Kd.N_drew)); exact Kd.N_mono HO124.out (fun _ hk => ⟨⟨hk.1, hk.2.2⟩, hk.2.1⟩)) hg hat); have n2_ := Aside0.mk (hb); have n3_ := Aside0.mk (ho); clear HO121; clear HO124; clear HB; clear HO_10; have HO121 := n0_; have HO124 := n1_; have HB := n2_; have HO127 := n3_; clear n0_ n1_ n2_ n3_; clear ho hb hg hat))
                            go_roundg kj17
                            case measure => have := HK1.out; have := HJ17.out; omega
                            case rel => exact ⟨(y125), (wrap64 (x30_1 + 1)), (by first | rfl | (simp; done) | (simp [*]; done)), H', ⟨by have := HK1.out; have := HJ17.out; omega⟩, ⟨by (with_reducible repeat (first | apply Kd.N_alloc | apply Kd.N_drewN | apply Kd.N_drew)); exact Kd.N_mono HO127.out (fun _ hk => hk.1)⟩, ⟨by repeat (first | (with_reducible first | exact HB.out | apply below_alloc | apply pw_below_drewN | apply below_drew1) | exact HB.out)⟩⟩
                          · rw [if_neg c29] at H
                            exact absurd H (by simp)
                        · rw [if_neg c27] at H
                          exact absurd H (by simp)
                · rw [if_neg c17] at H
                  exact absurd H (by simp)
              · rw [if_neg c16] at H
                exact absurd H (by simp)
            · rw [if_neg c15] at H
              have c15b0 : decide (x30_1 < (l0.length : Int)) = false := decide_eq_false c15
              clear c15
              obtain rfl := Option.some.inj H
              go_wp2
              go_ret
              exact ⟨_, by first | rfl | (simp [errW_none, errW_some] <;> rfl) | (simp only [← hji5]; first | rfl | (simp [errW_none, errW_some] <;> rfl)) | (simp [*, errW_none, errW_some] <;> rfl), by (with_reducible repeat (first | apply Kd.N_alloc | apply Kd.N_drewN | apply Kd.N_drew)); exact HO_10.out, by repeat (first | (with_reducible first | exact HB.out | apply below_alloc | apply pw_below_drewN | apply below_drew1) | exact HB.out)⟩
    · rw [if_neg c7] at H
      exact absurd H (by simp)
  · rw [if_neg c6] at H
    exact absurd H (by simp)

/-! ### spec_shLength: function 70 -/
def spec_shLength.l0 : Nat → Int → Int → Option (Int)
  | 0, _, _ => none
  | k + 1, x0, x3 => (spec_shSearch.f k (([1] : List Int)) x0 x3 1).bind fun t131 => (if (t131.length : Int) > 0 then (some x3) else (spec_shLength.l0 k x0 (wrap64 (x3 + 1))))
def spec_shLength.f (k : Nat) (a0 : Int) : Option (Int) := spec_shLength.l0 k a0 0
theorem spec_shLength.mono_l : ∀ k, (∀ y0 y1, LeO (spec_shLength.l0 k y0 y1) (spec_shLength.l0 (k + 1) y0 y1))
  | 0 => fun _ _ r h => by simp [spec_shLength.l0] at h
  | k + 1 => by
    have ih0 := spec_shLength.mono_l k
    · intro y0 y1
      unfold spec_shLength.l0
      repeat' first
      | (with_reducible exact ih0 _ _)
      | (with_reducible exact spec_shSearch.mono _ _ _ _ _)
      | (with_reducible exact LeO.refl _)
      | (with_reducible exact LeO.none _)
      | (with_reducible refine LeO.ite ?_ ?_)
      | (with_reducible refine LeO.bind ?_ (fun _ => ?_))
      | exact ih0 _ _
      | exact spec_shSearch.mono _ _ _ _ _
      | exact LeO.none _
      | refine LeO.ite ?_ ?_
      | refine LeO.bind ?_ (fun _ => ?_)
theorem spec_shLength.mono : ∀ a0 k, LeO (spec_shLength.f k a0) (spec_shLength.f (k + 1) a0) := by
  intro a0 k
  have ih0 := spec_shLength.mono_l k
  unfold spec_shLength.f
  repeat' first
      | (with_reducible exact ih0 _ _)
      | (with_reducible exact spec_shSearch.mono _ _ _ _ _)
      | (with_reducible exact LeO.refl _)
      | (with_reducible exact LeO.none _)
      | (with_reducible refine LeO.ite ?_ ?_)
      | (with_reducible refine LeO.bind ?_ (fun _ => ?_))
      | exact ih0 _ _
      | exact spec_shSearch.mono _ _ _ _ _
      | exact LeO.none _
      | refine LeO.ite ?_ ?_
      | refine LeO.bind ?_ (fun _ => ?_)
set_option maxHeartbeats 8000000 in
set_option maxRecDepth 100000 in
theorem spec_shLength.calls (k : Nat) (a0 : Int) (r : Int) (w : World) (h : spec_shLength.f k a0 = some r) :
    Calls Try.prog 70 #[.int .i64 a0] w fun e w' => e = .returned (.int .i64 r) ∧ Below w.heap.size w w' := by
  have HB := Aside0.mk (Below.refl w.heap.size w)
  have H : (spec_shLength.l0 k a0 0) = some r := h
  clear h
  have H' := Aside0.mk H
  clear H
  go_enter Try.func70, Try.ntmps70
  go_wp2
  go_loopg [3] k (fun kq v3 w' => ∃ (x3_1 : Int), v3 = .int .i64 x3_1 ∧ Aside0 (spec_shLength.l0 kq a0 x3_1 = some r) ∧ Aside0 (kq ≤ k) ∧ Aside0 (Below w.heap.size w w'))
  case atStart => exact ⟨(0), (by first | rfl | (simp; done) | (simp [*]; done)), H', ⟨Nat.le_refl _⟩, ⟨by repeat (first | (with_reducible first | exact HB.out | apply below_alloc | apply pw_below_drewN | apply below_drew1) | exact HB.out)⟩⟩
  case round =>
    clear H'
    obtain ⟨x3_1, rfl, HA, HK1, HB⟩ := hrel
    cases gk with
    | zero => exact absurd HA.out (by simp [spec_shLength.l0])
    | succ k1 =>
      have H := HA.out
      clear HA
      simp only [spec_shLength.l0] at H
      obtain ⟨y128, hy128⟩ : ∃ y_ : List Int, y_ = (([1] : List Int)) := ⟨_, rfl⟩
      replace H : ((spec_shSearch.f k1 y128 a0 x3_1 1).bind fun t131 => (if (t131.length : Int) > 0 then (some x3_1) else (spec_shLength.l0 k1 a0 (wrap64 (x3_1 + 1))))) = some r := by first | (rw [hy128]; with_reducible exact H) | (have H2_ := (Option.bind_some _ _).symm.trans H; rw [hy128]; with_reducible exact H2_) | (have H2_ := (Option.bind_some _ _).symm.trans H; with_reducible exact H2_) | with_reducible exact H | (rw [hy128]; exact H) | exact H
      have Ny128 := Aside0.mk hy128
      clear hy128
      replace H := Option.bind_eq_some_iff.mp H
      obtain ⟨t131, A20, H⟩ := H
      replace H : (if (t131.length : Int) > 0 then (some x3_1) else (spec_shLength.l0 k1 a0 (wrap64 (x3_1 + 1)))) = some r := H
      have A2 := Aside0.mk A20
      clear A20
      by_cases c3 : (t131.length : Int) > 0
      · rw [if_pos c3] at H
        have c3b0 : decide (0 < (t131.length : Int)) = true := decide_eq_true c3
        have c3b1 : decide (0 < t131.length) = true := decide_eq_true (by omega)
        clear c3
        obtain rfl := Option.some.inj H
        go_wp2_with (first | ((with_reducible refine gate_dst (N := 6) rfl ?_); refine Kd.R_lit (Kd.int .i64) _ 3 ?hg (N := 6) ?hd (xs := ([1] : List Int)) (inner := [.int .i64 1]) (ok := fun _ => True) (okp := fun _ => True) ?hr ?hp (fun _ hk => hk) trivial (Below.refl _ _) (Nat.le_refl _) (by simp) ?_; (case hd => rfl); (case hg => rfl); (case hr => first | (go_simp; done) | (go_simp; rfl)); (case hp => exact (Reps.one (show Kd.M (Kd.int .i64) _ _ _ 1 [.int .i64 1] from rfl) (Reps.none _ _))); intro v129 w4 ho5 hb hg_ hnew_; clear hg_ hnew_; (first | rw [← Ny128.out] at ho5 | (simp only [Int.reduceToNat] at ho5; rw [← Ny128.out] at ho5)); have n0_ := Aside0.mk (Kd.R_lower ho5 (below_size (by repeat (first | (with_reducible first | exact HB.out | apply below_alloc | apply pw_below_drewN | apply below_drew1) | exact HB.out)))); have n1_ := Aside0.mk (below_step (by repeat (first | (with_reducible first | exact HB.out | apply below_alloc | apply pw_below_drewN | apply below_drew1) | exact HB.out)) hb); clear HB; have HO130 := n0_; have HB := n1_; clear n0_ n1_; clear hb ho5; obtain ⟨Ao6, co6, eo6⟩ := Kd.R_slice HO130.out; subst eo6) | ((with_reducible refine gate_callee (f := 84) rfl ?_); refine goesL_ (some 9) rfl rfl Try.func84 (by kernel_rfl) rfl #[.slice Ao6 y128.length co6, .int .i64 a0, .int .i64 x3_1, .int .i64 1] rfl (by (try simp only [List.map_toArray, List.map_cons, List.map_nil]); first | done | rfl | (simp only [List.length_drop, List.length_take]; rfl)) ?_; (with_reducible refine (spec_shSearch.calls k1 _ _ y128 a0 x3_1 1 t131 _ ?side1 ?side2 A2.out).mono ?_); (case side1 => repeat (first | exact (Kd.R_reads' HO130.out).2.2 | (with_reducible refine Kd.C_alloc ?_ _) | (with_reducible refine Kd.C_drewN ?_ _) | (with_reducible refine Kd.C_drew ?_))); (case side2 => exact (Kd.R_reads' HO130.out).2.1); rintro e w7 ⟨v132, rfl, ho0, hb⟩; refine ⟨_, rfl, ?_⟩; have n0_ := Aside0.mk (Kd.R_below (by (with_reducible repeat (first | apply Kd.R_alloc | apply Kd.R_drewN | apply Kd.R_drew)); exact HO130.out) hb); have n1_ := Aside0.mk (Kd.N_lower (Kd.N_mono (ok' := fun k_ => some k_ ≠ (.slice Ao6 y128.length co6 : Value).ownBlock) ho0 (fun k_ hk_ => (Kd.fresh' (Kd.R_lt (by (with_reducible repeat (first | apply Kd.R_alloc | apply Kd.R_drewN | apply Kd.R_drew)); exact HO130.out)) k_ hk_))) (below_size (by repeat (first | (with_reducible first | exact HB.out | apply below_alloc | apply pw_below_drewN | apply below_drew1) | exact HB.out)))); have n2_ := Aside0.mk (below_step (by repeat (first | (with_reducible first | exact HB.out | apply below_alloc | apply pw_below_drewN | apply below_drew1) | exact HB.out)) hb); clear HO130; clear HB; have HO130 := n0_; have HO133 := n1_; have HB := n2_; clear n0_ n1_ n2_; (try clear hb); (try clear ho0); obtain ⟨Ao8, co8, eo8⟩ := Kd.N_slice HO133.out; subst eo8))
        go_ret
        exact ⟨by first | rfl | (simp [errW_none, errW_some] <;> rfl) | (simp [*, errW_none, errW_some] <;> rfl), by repeat (first | (with_reducible first | exact HB.out | apply below_alloc | apply pw_below_drewN | apply below_drew1) | exact HB.out)⟩
      · rw [if_neg c3] at H
        have c3b0 : decide (0 < (t131.length : Int)) = false := decide_eq_false c3
        have c3b1 : decide (0 < t131.length) = false := decide_eq_false (by omega)
        clear c3
        have H' := Aside0.mk H
        clear H
        go_wp2_with (first | ((with_reducible refine gate_dst (N := 6) rfl ?_); refine Kd.R_lit (Kd.int .i64) _ 3 ?hg (N := 6) ?hd (xs := ([1] : List Int)) (inner := [.int .i64 1]) (ok := fun _ => True) (okp := fun _ => True) ?hr ?hp (fun _ hk => hk) trivial (Below.refl _ _) (Nat.le_refl _) (by simp) ?_; (case hd => rfl); (case hg => rfl); (case hr => first | (go_simp; done) | (go_simp; rfl)); (case hp => exact (Reps.one (show Kd.M (Kd.int .i64) _ _ _ 1 [.int .i64 1] from rfl) (Reps.none _ _))); intro v129 w9 ho10 hb hg_ hnew_; clear hg_ hnew_; (first | rw [← Ny128.out] at ho10 | (simp only [Int.reduceToNat] at ho10; rw [← Ny128.out] at ho10)); have n0_ := Aside0.mk (Kd.R_lower ho10 (below_size (by repeat (first | (with_reducible first | exact HB.out | apply below_alloc | apply pw_below_drewN | apply below_drew1) | exact HB.out)))); have n1_ := Aside0.mk (below_step (by repeat (first | (with_reducible first | exact HB.out | apply below_alloc | apply pw_below_drewN | apply below_drew1) | exact HB.out)) hb); clear HB; have HO130 := n0_; have HB := n1_; clear n0_ n1_; clear hb ho10; obtain ⟨Ao11, co11, eo11⟩ := Kd.R_slice HO130.out; subst eo11) | ((with_reducible refine gate_callee (f := 84) rfl ?_); refine goesL_ (some 9) rfl rfl Try.func84 (by kernel_rfl) rfl #[.slice Ao11 y128.length co11, .int .i64 a0, .int .i64 x3_1, .int .i64 1] rfl (by (try simp only [List.map_toArray, List.map_cons, List.map_nil]); first | done | rfl | (simp only [List.length_drop, List.length_take]; rfl)) ?_; (with_reducible refine (spec_shSearch.calls k1 _ _ y128 a0 x3_1 1 t131 _ ?side1 ?side2 A2.out).mono ?_); (case side1 => repeat (first | exact (Kd.R_reads' HO130.out).2.2 | (with_reducible refine Kd.C_alloc ?_ _) | (with_reducible refine Kd.C_drewN ?_ _) | (with_reducible refine Kd.C_drew ?_))); (case side2 => exact (Kd.R_reads' HO130.out).2.1); rintro e w12 ⟨v132, rfl, ho0, hb⟩; refine ⟨_, rfl, ?_⟩; have n0_ := Aside0.mk (Kd.R_below (by (with_reducible repeat (first | apply Kd.R_alloc | apply Kd.R_drewN | apply Kd.R_drew)); exact HO130.out) hb); have n1_ := Aside0.mk (Kd.N_lower (Kd.N_mono (ok' := fun k_ => some k_ ≠ (.slice Ao11 y128.length co11 : Value).ownBlock) ho0 (fun k_ hk_ => (Kd.fresh' (Kd.R_lt (by (with_reducible repeat (first | apply Kd.R_alloc | apply Kd.R_drewN | apply Kd.R_drew)); exact HO130.out)) k_ hk_))) (below_size (by repeat (first | (with_reducible first | exact HB.out | apply below_alloc | apply pw_below_drewN | apply below_drew1) | exact HB.out)))); have n2_ := Aside0.mk (below_step (by repeat (first | (with_reducible first | exact HB.out | apply below_alloc | apply pw_below_drewN | apply below_drew1) | exact HB.out)) hb); clear HO130; clear HB; have HO130 := n0_; have HO133 := n1_; have HB := n2_; clear n0_ n1_ n2_; (try clear hb); (try clear ho0); obtain ⟨Ao13, co13, eo13⟩ := Kd.N_slice HO133.out; subst eo13))
        go_roundg k1
        case measure => have := HK1.out; omega
        case rel => exact ⟨(wrap64 (x3_1 + 1)), (by first | rfl | (simp; done) | (simp [*]; done)), H', ⟨by have := HK1.out; omega⟩, ⟨by repeat (first | (with_reducible first | exact HB.out | apply below_alloc | apply pw_below_drewN | apply below_drew1) | exact HB.out)⟩⟩

/-! ### spec_StarLength: function 37 -/
def spec_StarLength.f (k : Nat) (a0 : Int) : Option (Int × Bool) := (spec_shNumber.f a0).bind fun t134 => (if t134 = true then ((spec_shLength.f k a0).bind fun t135 => (some (t135, true))) else (some (0, false)))
theorem spec_StarLength.mono : ∀ a0 k, LeO (spec_StarLength.f k a0) (spec_StarLength.f (k + 1) a0) := by
  intro a0 k
  unfold spec_StarLength.f
  repeat' first
      | (with_reducible exact spec_shLength.mono _ _)
      | (with_reducible exact LeO.refl _)
      | (with_reducible exact LeO.none _)
      | (with_reducible refine LeO.ite ?_ ?_)
      | (with_reducible refine LeO.bind ?_ (fun _ => ?_))
      | exact spec_shLength.mono _ _
      | exact LeO.none _
      | refine LeO.ite ?_ ?_
      | refine LeO.bind ?_ (fun _ => ?_)
set_option maxHeartbeats 8000000 in
set_option maxRecDepth 100000 in
theorem spec_StarLength.calls (k : Nat) (a0 : Int) (r1 : Int) (r2 : Bool) (w : World) (h : spec_StarLength.f k a0 = some (r1, r2)) :
    Calls Try.prog 37 #[.int .i64 a0] w fun e w' => e = .returned (.tuple #[.int .i64 r1, .bool r2]) ∧ Below w.heap.size w w' := by
  have HB := Aside0.mk (Below.refl w.heap.size w)
  have H : ((spec_shNumber.f a0).bind fun t134 => (if t134 = true then ((spec_shLength.f k a0).bind fun t135 => (some (t135, true))) else (some (0, false)))) = some (r1, r2) := h
  clear h
  replace H := Option.bind_eq_some_iff.mp H
  obtain ⟨t134, A20, H⟩ := H
  replace H : (if t134 = true then ((spec_shLength.f k a0).bind fun t135 => (some (t135, true))) else (some (0, false))) = some (r1, r2) := H
  have A2 := Aside0.mk A20
  clear A20
  by_cases c3 : t134 = true
  · subst c3
    have H1 : ((spec_shLength.f k a0).bind fun t135 => (some (t135, true))) = some (r1, r2) := by rw [if_pos rfl] at H; exact H
    clear H
    have H := H1
    clear H1
    replace H := Option.bind_eq_some_iff.mp H
    obtain ⟨t135, A40, H⟩ := H
    replace H : (some (t135, true)) = some (r1, r2) := H
    have A4 := Aside0.mk A40
    clear A40
    simp only [Option.some.injEq, Prod.mk.injEq] at H
    obtain ⟨rfl, rfl⟩ := H
    go_enter Try.func37, Try.ntmps37
    go_wp2_with (first | ((with_reducible refine gate_callee (f := 66) rfl ?_); refine goesL_ (some 5) rfl rfl Try.func66 (by kernel_rfl) rfl #[.int .i64 a0] rfl (by (try simp only [List.map_toArray, List.map_cons, List.map_nil]); first | done | rfl | (simp only [List.length_drop, List.length_take]; rfl)) ?_; (with_reducible refine (spec_shNumber.calls a0 true _ A2.out).mono ?_); rintro e w' ⟨rfl, ⟨nd, rfl⟩⟩; refine ⟨_, rfl, ?_⟩) | ((with_reducible refine gate_callee (f := 70) rfl ?_); refine goesL_ (some 8) rfl rfl Try.func70 (by kernel_rfl) rfl #[.int .i64 a0] rfl (by (try simp only [List.map_toArray, List.map_cons, List.map_nil]); first | done | rfl | (simp only [List.length_drop, List.length_take]; rfl)) ?_; (with_reducible refine (spec_shLength.calls k a0 t135 _ A4.out).mono ?_); rintro e w5 ⟨rfl, hb⟩; refine ⟨_, rfl, ?_⟩; have n0_ := Aside0.mk (below_step (by repeat (first | (with_reducible first | exact HB.out | apply below_alloc | apply pw_below_drewN | apply below_drew1) | exact HB.out)) hb); clear HB; have HB := n0_; clear n0_; (try clear hb)))
    go_ret2
    exact ⟨by first | rfl | (simp [errW_none, errW_some] <;> rfl) | (simp [*, errW_none, errW_some] <;> rfl), by repeat (first | (with_reducible first | exact HB.out | apply below_alloc | apply pw_below_drewN | apply below_drew1) | exact HB.out)⟩
  · replace c3 := Bool.eq_false_iff.mpr c3
    subst c3
    have H1 : (some (0, false)) = some (r1, r2) := by rw [if_neg (show ¬ (false = true) by decide)] at H; exact H
    clear H
    have H := H1
    clear H1
    simp only [Option.some.injEq, Prod.mk.injEq] at H
    obtain ⟨rfl, rfl⟩ := H
    go_enter Try.func37, Try.ntmps37
    go_wp2_with (first | ((with_reducible refine gate_callee (f := 66) rfl ?_); refine goesL_ (some 5) rfl rfl Try.func66 (by kernel_rfl) rfl #[.int .i64 a0] rfl (by (try simp only [List.map_toArray, List.map_cons, List.map_nil]); first | done | rfl | (simp only [List.length_drop, List.length_take]; rfl)) ?_; (with_reducible refine (spec_shNumber.calls a0 false _ A2.out).mono ?_); rintro e w' ⟨rfl, ⟨nd, rfl⟩⟩; refine ⟨_, rfl, ?_⟩))
    go_ret2
    exact ⟨by first | rfl | (simp [errW_none, errW_some] <;> rfl) | (simp [*, errW_none, errW_some] <;> rfl), by repeat (first | (with_reducible first | exact HB.out | apply below_alloc | apply pw_below_drewN | apply below_drew1) | exact HB.out)⟩

/-! ### impl_in: function 59 -/
def impl_in.f (a0 : Int) (a1 : Int) (a2 : Int) : Option (Bool) := if a0 ≥ a1 then (some (decide (a0 ≤ a2))) else (some false)
set_option maxHeartbeats 8000000 in
set_option maxRecDepth 100000 in
theorem impl_in.calls (a0 : Int) (a1 : Int) (a2 : Int) (r : Bool) (w : World) (h : impl_in.f a0 a1 a2 = some r) :
    Calls Try.prog 59 #[.int .i64 a0, .int .i64 a1, .int .i64 a2] w fun e w' => e = .returned (.bool r) ∧ Drawn0 w w' := by
  have H : (if a0 ≥ a1 then (some (decide (a0 ≤ a2))) else (some false)) = some r := h
  clear h
  by_cases c4 : a0 ≥ a1
  · rw [if_pos c4] at H
    have c4b0 : decide (a1 ≤ a0) = true := decide_eq_true c4
    clear c4
    obtain rfl := Option.some.inj H
    go_enter Try.func59, Try.ntmps59
    go_wp2
    go_ret
    exact ⟨by first | rfl | (simp; done) | (simp [*]; done), by repeat (first | exact Drawn0.refl _ | apply Drawn0.step)⟩
  · rw [if_neg c4] at H
    have c4b0 : decide (a1 ≤ a0) = false := decide_eq_false c4
    clear c4
    obtain rfl := Option.some.inj H
    go_enter Try.func59, Try.ntmps59
    go_wp2
    go_ret
    exact ⟨by first | rfl | (simp; done) | (simp [*]; done), by repeat (first | exact Drawn0.refl _ | apply Drawn0.step)⟩

/-! ### impl_isShort: function 53 -/
def impl_isShort.f (a0 : Int) : Option (Bool) := (impl_in.f a0 1 100).bind fun t136 => (some t136)
set_option maxHeartbeats 8000000 in
set_option maxRecDepth 100000 in
theorem impl_isShort.calls (a0 : Int) (r : Bool) (w : World) (h : impl_isShort.f a0 = some r) :
    Calls Try.prog 53 #[.int .i64 a0] w fun e w' => e = .returned (.bool r) ∧ Drawn0 w w' := by
  have H : ((impl_in.f a0 1 100).bind fun t136 => (some t136)) = some r := h
  clear h
  replace H := Option.bind_eq_some_iff.mp H
  obtain ⟨t136, A20, H⟩ := H
  replace H : (some t136) = some r := H
  have A2 := Aside0.mk A20
  clear A20
  obtain rfl := Option.some.inj H
  go_enter Try.func53, Try.ntmps53
  go_wp2_with (first | ((with_reducible refine gate_callee (f := 59) rfl ?_); refine goesL_ (some 4) rfl rfl Try.func59 (by kernel_rfl) rfl #[.int .i64 a0, .int .i64 1, .int .i64 100] rfl (by (try simp only [List.map_toArray, List.map_cons, List.map_nil]); first | done | rfl | (simp only [List.length_drop, List.length_take]; rfl)) ?_; (with_reducible refine (impl_in.calls a0 1 100 t136 _ A2.out).mono ?_); rintro e w' ⟨rfl, ⟨nd, rfl⟩⟩; refine ⟨_, rfl, ?_⟩))
  go_ret
  exact ⟨by first | rfl | (simp; done) | (simp [*]; done), by repeat (first | exact Drawn0.refl _ | apply Drawn0.step)⟩


/-! ### slices_Clip_int_int: function 77 -/
def slices_Clip_int_int.f (l0 : List Int) : Option (List Int) := some l0
theorem slices_Clip_int_int.real (A : Option Addr) (c n : Nat) (w : World) (hc : n ≤ c) (hn : n < 17592186044416) :
    Calls Try.prog 77 #[.slice A n c] w fun e w' => e = .returned (.slice A n n) ∧ w' = w := by
  have hsl := run_slice_hm (P := Try.prog) (w := w)
  go_enter Try.func77, Try.ntmps77
  go_wp2
  go_ret
  exact ⟨rfl, rfl⟩



/-! ### impl_stars: function 55 -/
/-- What a closure that is handed over has to be: its state s (of a type of the caller's), what it answers, where it writes. -/
structure impl_stars.Env {σ : Type} (fc : List Int → σ → Bool × σ) (G : Nat) (lb : Array Value) (base : Nat) (S : Nat → Prop) (I : σ → World → Prop) : Prop where
  enters : ∀ args w, (callFunc G args).run Try.prog w = .ok (.enter G args) w
  lt : ∀ s w k, I s w → S k → k < w.heap.size
  size : ∀ s w, I s w → base ≤ w.heap.size
  step : ∀ s w W, I s w → Below w.heap.size w W → I s W
  call : ∀ s (A : Option Addr) (c : Nat) (l : List Int) w, I s w → (∀ W, Kept w W S → Kd.C (Kd.int .i64) W A l.length l) → l.length ≤ c → l.length < 17592186044416 → Calls Try.prog G (#[.slice A l.length c] ++ lb) w fun e w' => e = .returned (.bool (fc l s).1) ∧ I (fc l s).2 w' ∧ Kept w w' S ∧ Below base w w'
theorem impl_stars.inf : (Try.prog.info? 3).map (fun i => (i.zero, i.size, i.bytes)) = some (some (.int .i64 0), 1, 8) := by kernel_rfl
def impl_stars.At {σ : Type} (base : Nat) (S : Nat → Prop) (I : σ → World → Prop) (w W : World) (s : σ) : Prop := I s W ∧ Kept w W S ∧ Below base w W
theorem impl_stars.At.on {σ : Type} {fc : List Int → σ → Bool × σ} {G : Nat} {lb : Array Value} {base : Nat} {S : Nat → Prop} {I : σ → World → Prop} (E : impl_stars.Env fc G lb base S I) {w W W2 : World} {s : σ} (h : impl_stars.At base S I w W s) (hb : Below W.heap.size W W2) : impl_stars.At base S I w W2 s :=
  ⟨E.step _ _ _ h.1 hb, h.2.1.below hb, h.2.2.trans (hb.mono (E.size _ _ h.1))⟩
theorem impl_stars.At.call {σ : Type} {base : Nat} {S : Nat → Prop} {I : σ → World → Prop} {w W W2 : World} {s s2 : σ} (h : impl_stars.At base S I w W s) (h1 : I s2 W2) (h2 : Kept W W2 S) (h3 : Below base W W2) : impl_stars.At base S I w W2 s2 :=
  ⟨h1, h.2.1.then_ h2 (fun _ hk => .inl hk), h.2.2.trans h3⟩
theorem impl_stars.At.state {σ : Type} {base : Nat} {S : Nat → Prop} {I : σ → World → Prop} {w W : World} {s : σ} (h : impl_stars.At base S I w W s) : I s W := h.1
theorem impl_stars.At.kept {σ : Type} {base : Nat} {S : Nat → Prop} {I : σ → World → Prop} {w W : World} {s : σ} (h : impl_stars.At base S I w W s) : Kept w W S := h.2.1
mutual
def impl_stars.l0 {σ : Type} (fc : List Int → σ → Bool × σ) : Nat → Int → Int → List Int → σ → Int → Int → Option (Bool × σ)
  | 0, _, _, _, _, _, _ => none
  | k + 1, n, len, l, s, last, i => if i < (l.length : Int) then (if 0 ≤ i then (if l.length < 17592186044416 then ((impl_stars.f fc k n len (l ++ [wrap64 (last + (rd l i))]) s).bind fun t => (if t.1 = true then (some (true, t.2)) else (impl_stars.l0 fc k n len l t.2 last (wrap64 (i + 1))))) else none) else none) else (some (false, s))
def impl_stars.f {σ : Type} (fc : List Int → σ → Bool × σ) : Nat → Int → Int → List Int → σ → Option (Bool × σ)
  | 0, _, _, _, _ => none
  | k + 1, n, len, l, s => if 0 ≤ (wrap64 ((l.length : Int) - 1)) then (if (wrap64 ((l.length : Int) - 1)) < (l.length : Int) then (if (wrap64 ((wrap64 (len - (l.length : Int))) + 1)) = 0 then (if (rd l (wrap64 ((l.length : Int) - 1))) = n then (if l.length < 17592186044416 then some (fc l s) else none) else (some (false, s))) else (if (rd l (wrap64 ((l.length : Int) - 1))) ≥ n then (some (false, s)) else (if 0 ≤ (wrap64 ((wrap64 (len - (l.length : Int))) + 1)) then (if (shl .i64 (rd l (wrap64 ((l.length : Int) - 1))) (wrap64 ((wrap64 (len - (l.length : Int))) + 1))) < n then (some (false, s)) else (impl_stars.l0 fc k n len l s (rd l (wrap64 ((l.length : Int) - 1))) 0)) else (none)))) else (none)) else (none)
end
theorem impl_stars.mono_l {σ : Type} (fc : List Int → σ → Bool × σ) : ∀ k, (∀ y0 y1 y2 y3, LeO (impl_stars.f fc k y0 y1 y2 y3) (impl_stars.f fc (k + 1) y0 y1 y2 y3)) ∧ (∀ y0 y1 y2 y3 y4 y5, LeO (impl_stars.l0 fc k y0 y1 y2 y3 y4 y5) (impl_stars.l0 fc (k + 1) y0 y1 y2 y3 y4 y5))
  | 0 => ⟨fun _ _ _ _ r h => by simp [impl_stars.f] at h, fun _ _ _ _ _ _ r h => by simp [impl_stars.l0] at h⟩
  | k + 1 => by
    obtain ⟨ih0, ih1⟩ := impl_stars.mono_l fc k
    refine ⟨?_, ?_⟩
    · intro y0 y1 y2 y3
      unfold impl_stars.f
      repeat' first
      | (with_reducible exact ih0 _ _ _ _)
      | (with_reducible exact ih1 _ _ _ _ _ _)
      | (with_reducible exact LeO.refl _)
      | (with_reducible exact LeO.none _)
      | (with_reducible refine LeO.ite ?_ ?_)
      | (with_reducible refine LeO.bind ?_ (fun _ => ?_))
    · intro y0 y1 y2 y3 y4 y5
      unfold impl_stars.l0
      repeat' first
      | (with_reducible exact ih0 _ _ _ _)
      | (with_reducible exact ih1 _ _ _ _ _ _)
      | (with_reducible exact LeO.refl _)
      | (with_reducible exact LeO.none _)
      | (with_reducible refine LeO.ite ?_ ?_)
      | (with_reducible refine LeO.bind ?_ (fun _ => ?_))
theorem impl_stars.mono {σ : Type} (fc : List Int → σ → Bool × σ) : ∀ a0 a1 a2 a3 k, LeO (impl_stars.f fc k a0 a1 a2 a3) (impl_stars.f fc (k + 1) a0 a1 a2 a3) := fun a0 a1 a2 a3 k => (impl_stars.mono_l fc k).1 a0 a1 a2 a3
set_option maxHeartbeats 4000000 in
set_option maxRecDepth 100000 in
theorem impl_stars.calls {σ : Type} {fc : List Int → σ → Bool × σ} {G : Nat} {lb : Array Value} {base : Nat} {S : Nat → Prop} {I : σ → World → Prop} (E : impl_stars.Env fc G lb base S I) (k : Nat) : ∀ (a0 a1 : Int) (A2 : Option Addr) (c2 : Nat) (l2 : List Int) (s : σ) (r : Bool × σ) (w : World), I s w → (∀ W, Kept w W S → Kd.C (Kd.int .i64) W A2 l2.length l2) → l2.length ≤ c2 → impl_stars.f fc k a0 a1 l2 s = some r →
    Calls Try.prog 55 #[.int .i64 a0, .int .i64 a1, .slice A2 l2.length c2, .func (.func G) #[] lb] w fun e w' => e = .returned (.bool r.1) ∧ I r.2 w' ∧ Kept w w' S ∧ Below base w w' := by
  induction k using Nat.strongRecOn with
  | _ k ih =>
  intro a0 a1 A2 c2 l2 s r w hi hr2 hc2 h
  cases k with
  | zero => exact absurd h (by simp [impl_stars.f])
  | succ k =>
  simp only [impl_stars.f] at h
  have EN := Aside0.mk E
  have HR2 := Aside0.mk hr2
  have HC2 := Aside0.mk hc2
  have HI := Aside0.mk hi
  have eg := E.enters
  have HRW := Aside0.mk (hr2 w (Kept.refl w S))
  clear hr2 hc2 hi E
  obtain ⟨ji5, hji5⟩ : ∃ j_ : Int, (wrap64 ((l2.length : Int) - 1)) = j_ := ⟨_, rfl⟩
  rw [hji5] at h
  have hji5w : (IntKind.i64.wrap ((l2.length : Int) - 1)) = ji5 := (i64_w _).trans hji5
  by_cases c6 : 0 ≤ ji5
  · rw [if_pos c6] at h
    have c6b0 : decide (0 ≤ ji5) = true := decide_eq_true c6
    by_cases c7 : ji5 < (l2.length : Int)
    · rw [if_pos c7] at h
      have c7b0 : decide (ji5 < (l2.length : Int)) = true := decide_eq_true c7
      obtain ⟨ad, e136, hx136_0⟩ := Kd.at_int HRW.out ji5 c6 c7
      cases e136
      replace c6 := eq_true c6
      replace c7 := eq_true c7
      obtain ⟨ji11, hji11⟩ : ∃ j_ : Int, (wrap64 ((wrap64 (a1 - (l2.length : Int))) + 1)) = j_ := ⟨_, rfl⟩
      rw [hji11] at h
      have hji11w : (IntKind.i64.wrap ((wrap64 (a1 - (l2.length : Int))) + 1)) = ji11 := (i64_w _).trans hji11
      by_cases c8 : ji11 = 0
      · rw [if_pos c8] at h
        have c8b0 : (ji11 == 0) = true := beq_iff_eq.mpr c8
        have c8b1 : (ji11 != 0) = false := bne_eq_false_iff_eq.mpr c8
        clear c8
        by_cases c9 : (rd l2 ji5) = a0
        · rw [if_pos c9] at h
          have c9b0 : ((rd l2 ji5) == a0) = true := beq_iff_eq.mpr c9
          have c9b1 : ((rd l2 ji5) != a0) = false := bne_eq_false_iff_eq.mpr c9
          clear c9
          by_cases c9c : l2.length < 17592186044416
          · rw [if_pos c9c] at h
            obtain rfl := Option.some.inj h
            clear h
            have HL := Aside0.mk c9c
            clear c9c
            go_enter Try.func55, Try.ntmps55
            go_wp2_with (go_at_fn G; refine (EN.out.call s _ _ l2 _ (EN.out.step _ _ _ HI.out (by repeat (first | exact Below.refl _ _ | (with_reducible first | apply below_alloc | apply pw_below_drewN | apply below_drew1)))) (fun W hk => HR2.out W (Kept.then_ (S := S) (by repeat (first | (with_reducible first | apply Kept.alloc | apply Kept.drewN | apply Kept.drew) | exact Kept.refl _ _)) hk (fun _ h_ => .inl h_))) HC2.out HL.out).mono ?_; rintro e w1 ⟨rfl, h1, h2, h3⟩; have H1 := Aside0.mk h1; have H2 := Aside0.mk h2; have H3 := Aside0.mk h3; clear h1 h2 h3)
            go_ret
            have hat := impl_stars.At.call (impl_stars.At.on EN.out ⟨HI.out, Kept.refl w S, Below.refl _ _⟩ (by repeat (first | exact Below.refl _ _ | (with_reducible first | apply below_alloc | apply pw_below_drewN | apply below_drew1)))) H1.out H2.out H3.out
            exact ⟨rfl, hat.1, hat.2.1, hat.2.2⟩
          · rw [if_neg c9c] at h
            cases h
        · rw [if_neg c9] at h
          have c9b0 : ((rd l2 ji5) == a0) = false := beq_eq_false_iff_ne.mpr c9
          have c9b1 : ((rd l2 ji5) != a0) = true := bne_iff_ne.mpr c9
          clear c9
          obtain rfl := Option.some.inj h
          clear h
          go_enter Try.func55, Try.ntmps55
          go_wp2
          go_ret
          have hat := impl_stars.At.on EN.out (w := w) (W := w) (s := s) ⟨HI.out, Kept.refl w S, Below.refl _ _⟩ (by repeat (first | exact Below.refl _ _ | (with_reducible first | apply below_alloc | apply pw_below_drewN | apply below_drew1)))
          exact ⟨rfl, hat.1, hat.2.1, hat.2.2⟩
      · rw [if_neg c8] at h
        have c8b0 : (ji11 == 0) = false := beq_eq_false_iff_ne.mpr c8
        have c8b1 : (ji11 != 0) = true := bne_iff_ne.mpr c8
        clear c8
        by_cases c10 : (rd l2 ji5) ≥ a0
        · rw [if_pos c10] at h
          have c10b0 : decide (a0 ≤ (rd l2 ji5)) = true := decide_eq_true c10
          clear c10
          obtain rfl := Option.some.inj h
          clear h
          go_enter Try.func55, Try.ntmps55
          go_wp2
          go_ret
          have hat := impl_stars.At.on EN.out (w := w) (W := w) (s := s) ⟨HI.out, Kept.refl w S, Below.refl _ _⟩ (by repeat (first | exact Below.refl _ _ | (with_reducible first | apply below_alloc | apply pw_below_drewN | apply below_drew1)))
          exact ⟨rfl, hat.1, hat.2.1, hat.2.2⟩
        · rw [if_neg c10] at h
          have c10b0 : decide (a0 ≤ (rd l2 ji5)) = false := decide_eq_false c10
          clear c10
          by_cases c12 : 0 ≤ ji11
          · rw [if_pos c12] at h
            have c12b0 := eq_true c12
            have c12b1 : decide (0 ≤ ji11) = true := decide_eq_true c12
            clear c12
            obtain ⟨ji13, hji13⟩ : ∃ j_ : Int, (shl .i64 (rd l2 ji5) ji11) = j_ := ⟨_, rfl⟩
            rw [hji13] at h
            have hji13_ : (IntKind.i64.wrap ((rd l2 ji5) * 2 ^ min (ji11).toNat 64)) = ji13 := hji13
            have hji13z : ji11 ≤ 64 → (IntKind.i64.wrap ((rd l2 ji5) * 2 ^ (ji11).toNat)) = ji13 := shl_small hji13
            have hji13y : (wrap64 ((rd l2 ji5) * 2 ^ min (ji11).toNat 64)) = ji13 := (i64_w _).symm.trans hji13_
            have hji13x : ji11 ≤ 64 → (wrap64 ((rd l2 ji5) * 2 ^ (ji11).toNat)) = ji13 := fun h_ => (i64_w _).symm.trans (hji13z h_)
            by_cases c14 : ji13 < a0
            · rw [if_pos c14] at h
              have c14b0 : decide (ji13 < a0) = true := decide_eq_true c14
              clear c14
              obtain rfl := Option.some.inj h
              clear h
              go_enter Try.func55, Try.ntmps55
              go_wp2
              go_ret
              have hat := impl_stars.At.on EN.out (w := w) (W := w) (s := s) ⟨HI.out, Kept.refl w S, Below.refl _ _⟩ (by repeat (first | exact Below.refl _ _ | (with_reducible first | apply below_alloc | apply pw_below_drewN | apply below_drew1)))
              exact ⟨rfl, hat.1, hat.2.1, hat.2.2⟩
            · rw [if_neg c14] at h
              have c14b0 : decide (ji13 < a0) = false := decide_eq_false c14
              clear c14
              have H' := Aside0.mk h
              clear h
              go_enter Try.func55, Try.ntmps55
              go_wp2
              go_loopg [48] k (fun kq v48 w' => ∃ (i : Int) (s' : σ), v48 = .int .i64 i ∧ Aside0 (impl_stars.l0 fc kq a0 a1 l2 s' (rd l2 ji5) i = some r) ∧ Aside0 (kq ≤ k) ∧ Aside0 (impl_stars.At base S I w w' s'))
              case atStart => exact ⟨0, s, by first | rfl | (simp; done), H', ⟨Nat.le_refl _⟩, ⟨impl_stars.At.on EN.out (w := w) (W := w) (s := s) ⟨HI.out, Kept.refl w S, Below.refl _ _⟩ (by repeat (first | exact Below.refl _ _ | (with_reducible first | apply below_alloc | apply pw_below_drewN | apply below_drew1)))⟩⟩
              case round =>
                clear H' hx136_0 c6 c7 c6b0 c7b0 c8b0 c8b1 c10b0 c12b0 c12b1 c14b0 HRW hji13_ hji13z hji13y hji13x
                obtain ⟨i, s', rfl, HA, HK1, HAT⟩ := hrel
                cases gk with
                | zero => exact absurd HA.out (by simp [impl_stars.l0])
                | succ k1 =>
                  have H := HA.out
                  clear HA
                  simp only [impl_stars.l0] at H
                  by_cases c15 : i < (l2.length : Int)
                  · rw [if_pos c15] at H
                    have c15b0 : decide (i < (l2.length : Int)) = true := decide_eq_true c15
                    by_cases c16 : 0 ≤ i
                    · rw [if_pos c16] at H
                      have c16b0 : decide (0 ≤ i) = true := decide_eq_true c16
                      by_cases c19 : l2.length < 17592186044416
                      · rw [if_pos c19] at H
                        have HL := Aside0.mk c19
                        clear c19
                        obtain ⟨y, hy⟩ : ∃ y_ : List Int, y_ = (l2 ++ [wrap64 ((rd l2 ji5) + (rd l2 i))]) := ⟨_, rfl⟩
                        rw [← hy] at H
                        have HY := Aside0.mk hy
                        clear hy
                        obtain ⟨⟨tb, ts⟩, A200, H⟩ := Option.bind_eq_some_iff.mp H
                        dsimp only at H
                        have A20 := Aside0.mk A200
                        clear A200
                        obtain ⟨ad2, e137, hx137_0⟩ := Kd.at_int (HR2.out _ HAT.out.2.1) i c16 c15
                        obtain rfl : ad = ad2 := (by injection e137)
                        replace c16 := eq_true c16
                        replace c15 := eq_true c15
                        cases tb with
                        | true =>
                          rw [if_pos rfl] at H
                          obtain rfl := Option.some.inj H
                          clear H
                          go_wp2_with (first | ((with_reducible refine gate_callee (f := 77) rfl ?_); refine goesL_ (some 55) rfl rfl Try.func77 (by kernel_rfl) rfl #[.slice (some ad) l2.length c2] rfl (by (try simp only [List.map_toArray, List.map_cons, List.map_nil]); first | done | rfl) ?_; (with_reducible refine (slices_Clip_int_int.real _ _ _ _ HC2.out HL.out).mono ?_); rintro e w' ⟨rfl, rfl⟩; refine ⟨_, rfl, ?_⟩) | ((with_reducible refine gate_builtin (b := .append) (xs := #[.tmp 55, .tmp 59]) rfl ?_); at_builtin; refine Go.Proofs.YtkhlhhpkleaphaaAC.append_full rfl (.tmp 55) (.tmp 59) 26 3 rfl Try.underlying26 impl_stars.inf (some ad) l2 (wrap64 ((rd l2 ji5) + (rd l2 i))) rfl rfl (HR2.out _ (impl_stars.At.kept (impl_stars.At.on EN.out HAT.out (by repeat (first | exact Below.refl _ _ | (with_reducible first | apply below_alloc | apply pw_below_drewN | apply below_drew1)))))) HL.out ?_; intro v1 w1 ho0 hb; replace ho0 : Kd.R (Kd.int .i64) 3 w1 _ _ v1 y := (by rw [HY.out]; exact ho0); have HO := Aside0.mk ho0; have n0_ := Aside0.mk (impl_stars.At.on EN.out (impl_stars.At.on EN.out HAT.out (by repeat (first | exact Below.refl _ _ | (with_reducible first | apply below_alloc | apply pw_below_drewN | apply below_drew1)))) hb); have HNS : Aside0 (∀ k_, v1.ownBlock = some k_ → ¬ S k_) := Aside0.mk (fun (k_ : Nat) (e_ : v1.ownBlock = some k_) (hs_ : S k_) => absurd (Kd.R_base ho0 k_ e_) (Nat.not_le_of_lt (EN.out.lt _ _ _ (impl_stars.At.state (impl_stars.At.on EN.out HAT.out (by repeat (first | exact Below.refl _ _ | (with_reducible first | apply below_alloc | apply pw_below_drewN | apply below_drew1))))) hs_))); clear HAT ho0 hb; have HAT := n0_; clear n0_; obtain ⟨Ao, co, eo⟩ := Kd.R_slice HO.out; subst eo) | ((with_reducible refine gate_callee (f := 55) rfl ?_); refine goesL_ (some 62) rfl rfl Try.func55 (by kernel_rfl) rfl #[.int .i64 a0, .int .i64 a1, .slice Ao y.length co, .func (.func G) #[] lb] rfl (by (try simp only [List.map_toArray, List.map_cons, List.map_nil]); first | done | rfl) ?_; refine (ih k1 (by have := HK1.out; omega) a0 a1 Ao co y s' _ _ (impl_stars.At.state (impl_stars.At.on EN.out HAT.out (by repeat (first | exact Below.refl _ _ | (with_reducible first | apply below_alloc | apply pw_below_drewN | apply below_drew1))))) ?side1 ?side2 A20.out).mono ?_; (case side1 => exact Kd.C_kept_own (Kd.R_tight rfl (by (with_reducible repeat (first | apply Kd.R_alloc | apply Kd.R_drewN | apply Kd.R_drew)); exact HO.out)) (fun k_ hk_ => HNS.out k_ hk_.symm)); (case side2 => exact (Kd.R_reads' HO.out).2.1); rintro e w3 ⟨rfl, h1, h2, h3⟩; refine ⟨_, rfl, ?_⟩; have n0_ := Aside0.mk (impl_stars.At.call (impl_stars.At.on EN.out HAT.out (by repeat (first | exact Below.refl _ _ | (with_reducible first | apply below_alloc | apply pw_below_drewN | apply below_drew1)))) h1 h2 h3); clear HAT h1 h2 h3; have HAT := n0_; clear n0_))
                          go_ret
                          exact ⟨rfl, HAT.out.1, HAT.out.2.1, HAT.out.2.2⟩
                        | false =>
                          rw [if_neg (by decide)] at H
                          have H' := Aside0.mk H
                          clear H
                          go_wp2_with (first | ((with_reducible refine gate_callee (f := 77) rfl ?_); refine goesL_ (some 55) rfl rfl Try.func77 (by kernel_rfl) rfl #[.slice (some ad) l2.length c2] rfl (by (try simp only [List.map_toArray, List.map_cons, List.map_nil]); first | done | rfl) ?_; (with_reducible refine (slices_Clip_int_int.real _ _ _ _ HC2.out HL.out).mono ?_); rintro e w' ⟨rfl, rfl⟩; refine ⟨_, rfl, ?_⟩) | ((with_reducible refine gate_builtin (b := .append) (xs := #[.tmp 55, .tmp 59]) rfl ?_); at_builtin; refine Go.Proofs.YtkhlhhpkleaphaaAC.append_full rfl (.tmp 55) (.tmp 59) 26 3 rfl Try.underlying26 impl_stars.inf (some ad) l2 (wrap64 ((rd l2 ji5) + (rd l2 i))) rfl rfl (HR2.out _ (impl_stars.At.kept (impl_stars.At.on EN.out HAT.out (by repeat (first | exact Below.refl _ _ | (with_reducible first | apply below_alloc | apply pw_below_drewN | apply below_drew1)))))) HL.out ?_; intro v1 w1 ho0 hb; replace ho0 : Kd.R (Kd.int .i64) 3 w1 _ _ v1 y := (by rw [HY.out]; exact ho0); have HO := Aside0.mk ho0; have n0_ := Aside0.mk (impl_stars.At.on EN.out (impl_stars.At.on EN.out HAT.out (by repeat (first | exact Below.refl _ _ | (with_reducible first | apply below_alloc | apply pw_below_drewN | apply below_drew1)))) hb); have HNS : Aside0 (∀ k_, v1.ownBlock = some k_ → ¬ S k_) := Aside0.mk (fun (k_ : Nat) (e_ : v1.ownBlock = some k_) (hs_ : S k_) => absurd (Kd.R_base ho0 k_ e_) (Nat.not_le_of_lt (EN.out.lt _ _ _ (impl_stars.At.state (impl_stars.At.on EN.out HAT.out (by repeat (first | exact Below.refl _ _ | (with_reducible first | apply below_alloc | apply pw_below_drewN | apply below_drew1))))) hs_))); clear HAT ho0 hb; have HAT := n0_; clear n0_; obtain ⟨Ao, co, eo⟩ := Kd.R_slice HO.out; subst eo) | ((with_reducible refine gate_callee (f := 55) rfl ?_); refine goesL_ (some 62) rfl rfl Try.func55 (by kernel_rfl) rfl #[.int .i64 a0, .int .i64 a1, .slice Ao y.length co, .func (.func G) #[] lb] rfl (by (try simp only [List.map_toArray, List.map_cons, List.map_nil]); first | done | rfl) ?_; refine (ih k1 (by have := HK1.out; omega) a0 a1 Ao co y s' _ _ (impl_stars.At.state (impl_stars.At.on EN.out HAT.out (by repeat (first | exact Below.refl _ _ | (with_reducible first | apply below_alloc | apply pw_below_drewN | apply below_drew1))))) ?side1 ?side2 A20.out).mono ?_; (case side1 => exact Kd.C_kept_own (Kd.R_tight rfl (by (with_reducible repeat (first | apply Kd.R_alloc | apply Kd.R_drewN | apply Kd.R_drew)); exact HO.out)) (fun k_ hk_ => HNS.out k_ hk_.symm)); (case side2 => exact (Kd.R_reads' HO.out).2.1); rintro e w3 ⟨rfl, h1, h2, h3⟩; refine ⟨_, rfl, ?_⟩; have n0_ := Aside0.mk (impl_stars.At.call (impl_stars.At.on EN.out HAT.out (by repeat (first | exact Below.refl _ _ | (with_reducible first | apply below_alloc | apply pw_below_drewN | apply below_drew1)))) h1 h2 h3); clear HAT h1 h2 h3; have HAT := n0_; clear n0_))
                          go_roundg k1
                          case measure => have := HK1.out; omega
                          case rel => exact ⟨(wrap64 (i + 1)), ts, (by first | rfl | (simp; done) | (simp [*]; done)), H', ⟨by have := HK1.out; omega⟩, ⟨impl_stars.At.on EN.out HAT.out (by repeat (first | exact Below.refl _ _ | (with_reducible first | apply below_alloc | apply pw_below_drewN | apply below_drew1)))⟩⟩
                      · rw [if_neg c19] at H
                        cases H
                    · rw [if_neg c16] at H
                      cases H
                  · rw [if_neg c15] at H
                    have c15b0 : decide (i < (l2.length : Int)) = false := decide_eq_false c15
                    clear c15
                    obtain rfl := Option.some.inj H
                    clear H
                    go_wp2
                    go_ret
                    have hat := impl_stars.At.on EN.out HAT.out (by repeat (first | exact Below.refl _ _ | (with_reducible first | apply below_alloc | apply pw_below_drewN | apply below_drew1)))
                    exact ⟨rfl, hat.1, hat.2.1, hat.2.2⟩
          · rw [if_neg c12] at h
            cases h
    · rw [if_neg c7] at h
      cases h
  · rw [if_neg c6] at h
    cases h


end Go.Proofs.Ytkhlhhpkleaphaa.MFnExactStarLength
