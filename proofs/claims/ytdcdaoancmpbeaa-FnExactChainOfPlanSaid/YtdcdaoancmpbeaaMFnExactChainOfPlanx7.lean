-- Written by wip/mine.py (a program of this repo) for this claim.
import Derived.Test.YtdcdaoancmpbeaaMFnExactChainOfPlanx0
import Derived.Test.YtdcdaoancmpbeaaMFnExactChainOfPlanx6
import Derived.Test.YtdcdaoancmpbeaaMFnExactChainOfPlanx1
import Derived.Test.YtdcdaoancmpbeaaMFnExactChainOfPlanx2
import Derived.Test.YtdcdaoancmpbeaaMFnExactChainOfPlanx3
import Derived.Test.YtdcdaoancmpbeaaMFnExactChainOfPlanx4
import Derived.Test.YtdcdaoancmpbeaaMFnExactChainOfPlanx5
namespace Go.Proofs.Ytdcdaoancmpbeaa.MFnExactChainOfPlan
open Go.RowKit Go.Proofs.YtdcdaoancmpbeaaW.PrintWords Go.Proofs.YtdcdaoancmpbeaaW.PrintLast Go.Proofs.YtdcdaoancmpbeaaW.PrintMore Go.Proofs.YtdcdaoancmpbeaaV
attribute [local go_sem] max2_int min2_int max_two min_two max_three min_three max_four min_four   -- for this text's walks alone
set_option linter.unusedVariables false
set_option linter.unusedSimpArgs false

/-! ### slices_Max_int_int: function 89 -/
def slices_Max_int_int.l0 : Nat → List Int → Int → Int → Option (Int)
  | 0, _, _, _ => none
  | k + 1, x0, x3, x4 => if x4 < (x0.length : Int) then (if 0 ≤ x4 then (slices_Max_int_int.l0 k x0 (mx x3 (rd x0 x4)) (wrap64 (x4 + 1))) else (none)) else (some x3)
def slices_Max_int_int.f (k : Nat) (l0 : List Int) : Option (Int) := if (l0.length : Int) < 1 then (none) else (if 0 < (l0.length : Int) then (slices_Max_int_int.l0 k l0 (rd l0 0) 1) else (none))
theorem slices_Max_int_int.mono_l : ∀ k, (∀ y0 y1 y2, LeO (slices_Max_int_int.l0 k y0 y1 y2) (slices_Max_int_int.l0 (k + 1) y0 y1 y2))
  | 0 => fun _ _ _ r h => by simp [slices_Max_int_int.l0] at h
  | k + 1 => by
    have ih0 := slices_Max_int_int.mono_l k
    · intro y0 y1 y2
      unfold slices_Max_int_int.l0
      repeat' first
      | (with_reducible exact ih0 _ _ _)
      | (with_reducible exact LeO.refl _)
      | (with_reducible exact LeO.none _)
      | (with_reducible refine LeO.ite ?_ ?_)
      | (with_reducible refine LeO.bind ?_ (fun _ => ?_))
      | exact ih0 _ _ _
      | exact LeO.none _
      | refine LeO.ite ?_ ?_
      | refine LeO.bind ?_ (fun _ => ?_)
theorem slices_Max_int_int.mono : ∀ a0 k, LeO (slices_Max_int_int.f k a0) (slices_Max_int_int.f (k + 1) a0) := by
  intro a0 k
  have ih0 := slices_Max_int_int.mono_l k
  unfold slices_Max_int_int.f
  repeat' first
      | (with_reducible exact ih0 _ _ _)
      | (with_reducible exact LeO.refl _)
      | (with_reducible exact LeO.none _)
      | (with_reducible refine LeO.ite ?_ ?_)
      | (with_reducible refine LeO.bind ?_ (fun _ => ?_))
      | exact ih0 _ _ _
      | exact LeO.none _
      | refine LeO.ite ?_ ?_
      | refine LeO.bind ?_ (fun _ => ?_)
set_option maxHeartbeats 8000000 in
set_option maxRecDepth 100000 in
theorem slices_Max_int_int.calls (k : Nat) (A0 : Option Addr) (c0 : Nat) (l0 : List Int) (r : Int) (w : World) (hr0 : Kd.C (Kd.int .i64) w A0 l0.length l0) (hc0 : l0.length ≤ c0) (h : slices_Max_int_int.f k l0 = some r) :
    Calls Try.prog 89 #[.slice A0 l0.length c0] w fun e w' => e = .returned (.int .i64 r) ∧ Below w.heap.size w w' := by
  have HR0 := Aside0.mk hr0
  have HC0 := Aside0.mk hc0
  clear hr0 hc0
  have HB := Aside0.mk (Below.refl w.heap.size w)
  have H : (if (l0.length : Int) < 1 then (none) else (if 0 < (l0.length : Int) then (slices_Max_int_int.l0 k l0 (rd l0 0) 1) else (none))) = some r := h
  clear h
  by_cases c2 : (l0.length : Int) < 1
  · rw [if_pos c2] at H
    exact absurd H (by simp)
  · rw [if_neg c2] at H
    have c2b0 : decide ((l0.length : Int) < 1) = false := decide_eq_false c2
    have c2b1 : decide (l0.length < 1) = false := decide_eq_false (by omega)
    clear c2
    by_cases c3 : 0 < (l0.length : Int)
    · rw [if_pos c3] at H
      have c3b0 : decide (0 < (l0.length : Int)) = true := decide_eq_true c3
      have c3b1 : decide (0 < l0.length) = true := decide_eq_true (by omega)
      clear c3
      have H' := Aside0.mk H
      clear H
      have p285 : 0 ≤ (0 : Int) := (by omega)
      have q285 : 0 < (l0.length : Int) := of_decide_eq_true (by first | (with_reducible assumption) | assumption)
      obtain ⟨ad285, e285, hx285_0⟩ := Kd.at_int HR0.out 0 p285 q285
      cases e285
      have qi285 : (0 < l0.length) = True := eq_true (by omega)
      (try rw [show ((0 : Int)).toNat = 0 from rfl] at hx285_0)
      (try rw [Addr.add_zero'] at hx285_0)
      replace p285 := eq_true p285
      replace q285 := eq_true q285
      go_enter Try.func89, Try.ntmps89
      go_wp2
      go_loopg [3, 4] k (fun kq v3 v4 w' => ∃ (x3_1 : Int) (x4_1 : Int), v3 = .int .i64 x3_1 ∧ v4 = .int .i64 x4_1 ∧ Aside0 (slices_Max_int_int.l0 kq l0 x3_1 x4_1 = some r) ∧ Aside0 (kq ≤ k) ∧ Aside0 (Below w.heap.size w w'))
      case atStart => exact ⟨(rd l0 0), (1), (by first | rfl | (simp; done) | (simp [*]; done)), (by first | rfl | (simp; done) | (simp [*]; done)), H', ⟨Nat.le_refl _⟩, ⟨by repeat (first | (with_reducible first | exact HB.out | apply below_alloc | apply pw_below_drewN | apply below_drew1) | exact HB.out)⟩⟩
      case round =>
        clear H'
        try clear c2
        try clear c2b0
        try clear c2b1
        try clear p2
        try clear q2
        try clear hx2
        try clear qi2
        try clear c3
        try clear c3b0
        try clear c3b1
        try clear hx285_0
        try clear p285
        try clear q285
        obtain ⟨x3_1, x4_1, rfl, rfl, HA, HK1, HB⟩ := hrel
        cases gk with
        | zero => exact absurd HA.out (by simp [slices_Max_int_int.l0])
        | succ k1 =>
          have H := HA.out
          clear HA
          simp only [slices_Max_int_int.l0] at H
          by_cases c4 : x4_1 < (l0.length : Int)
          · rw [if_pos c4] at H
            have c4b0 : decide (x4_1 < (l0.length : Int)) = true := decide_eq_true c4
            clear c4
            by_cases c5 : 0 ≤ x4_1
            · rw [if_pos c5] at H
              have c5b0 : decide (0 ≤ x4_1) = true := decide_eq_true c5
              clear c5
              obtain ⟨ji6, hji6⟩ : ∃ j_ : Int, (mx x3_1 (rd l0 x4_1)) = j_ := ⟨_, rfl⟩
              replace H : (slices_Max_int_int.l0 k1 l0 ji6 (wrap64 (x4_1 + 1))) = some r := by first | (rw [hji6] at H; exact H) | (simp only [hji6] at H ⊢; exact H)
              have hji6_ : (if x3_1 < (rd l0 x4_1) then (rd l0 x4_1) else x3_1) = ji6 := hji6
              have H' := Aside0.mk H
              clear H
              have p286 : 0 ≤ (x4_1 : Int) := of_decide_eq_true (by first | (with_reducible assumption) | assumption)
              have q286 : x4_1 < (l0.length : Int) := of_decide_eq_true (by first | (with_reducible assumption) | assumption)
              obtain ⟨ad286, e286, hx286_0⟩ := Kd.at_int HR0.out x4_1 p286 q286
              obtain rfl : ad285 = ad286 := (by injection e286)
              replace hx286_0 := (HB.out.cell (World.block_lt_of_cell? w _ hx286_0)).trans hx286_0
              replace p286 := eq_true p286
              replace q286 := eq_true q286
              go_wp2
              go_roundg k1
              case measure => have := HK1.out; omega
              case rel => exact ⟨(ji6), (wrap64 (x4_1 + 1)), (by first | rfl | (simp; done) | (simp only [← hji6] <;> (first | rfl | simp)) | (simp [*]; done)), (by first | rfl | (simp; done) | (simp [*]; done)), H', ⟨by have := HK1.out; omega⟩, ⟨by repeat (first | (with_reducible first | exact HB.out | apply below_alloc | apply pw_below_drewN | apply below_drew1) | exact HB.out)⟩⟩
            · rw [if_neg c5] at H
              exact absurd H (by simp)
          · rw [if_neg c4] at H
            have c4b0 : decide (x4_1 < (l0.length : Int)) = false := decide_eq_false c4
            clear c4
            obtain rfl := Option.some.inj H
            go_wp2
            go_ret
            exact ⟨by first | rfl | (simp [errW_none, errW_some] <;> rfl) | (simp [*, errW_none, errW_some] <;> rfl), by repeat (first | (with_reducible first | exact HB.out | apply below_alloc | apply pw_below_drewN | apply below_drew1) | exact HB.out)⟩
    · rw [if_neg c3] at H
      exact absurd H (by simp)

/-! ### impl_Plan_many: function 92 -/
def impl_Plan_many.f (a0_0 : Int) (l0_1 : List (S73)) (l0_2 : List Int) : Option (Int) := some (wrap64 (a0_0 + (l0_1.length : Int)))
set_option maxHeartbeats 8000000 in
set_option maxRecDepth 100000 in
theorem impl_Plan_many.calls (g0_ : Nat) (a0_0 : Int) (A0_1 : Option Addr) (c0_1 : Nat) (l0_1 : List (S73)) (A0_2 : Option Addr) (c0_2 : Nat) (l0_2 : List Int) (r : Int) (w : World) (hx0_ : w.heap[g0_]? = some (.cells #[.int .i64 a0_0, .slice A0_1 l0_1.length c0_1, .slice A0_2 l0_2.length c0_2] 29 (0, 0))) (hr0_1 : Kd.C k73 w A0_1 l0_1.length l0_1) (hc0_1 : l0_1.length ≤ c0_1) (hr0_2 : Kd.C (Kd.int .i64) w A0_2 l0_2.length l0_2) (hc0_2 : l0_2.length ≤ c0_2) (h : impl_Plan_many.f a0_0 l0_1 l0_2 = some r) :
    Calls Try.prog 92 #[.pointer (some ⟨g0_, 0, none⟩)] w fun e w' => e = .returned (.int .i64 r) ∧ Below w.heap.size w w' := by
  have HR0_1 := Aside0.mk hr0_1
  have HC0_1 := Aside0.mk hc0_1
  clear hr0_1 hc0_1
  have HR0_2 := Aside0.mk hr0_2
  have HC0_2 := Aside0.mk hc0_2
  clear hr0_2 hc0_2
  have BK0 := Aside0.mk hx0_
  clear hx0_
  have HB := Aside0.mk (Below.refl w.heap.size w)
  have H : (some (wrap64 (a0_0 + (l0_1.length : Int)))) = some r := h
  clear h
  obtain rfl := Option.some.inj H
  have hcz2_0 : w.cell? ⟨g0_, 0, none⟩ = some (.int .i64 a0_0) := (blk_cell BK0.out 0).trans rfl
  have hcz2_1 : w.cell? ⟨g0_, 1, none⟩ = some (.slice A0_1 l0_1.length c0_1) := (blk_cell BK0.out 1).trans rfl
  have hcz2_2 : w.cell? ⟨g0_, 2, none⟩ = some (.slice A0_2 l0_2.length c0_2) := (blk_cell BK0.out 2).trans rfl
  have hfz2_0 := blk_frozen BK0.out 0
  have hfz2_1 := blk_frozen BK0.out 1
  have hfz2_2 := blk_frozen BK0.out 2
  go_enter Try.func92, Try.ntmps92
  go_wp2
  repeat (go_quiet (fail); try go_wp2)
  go_ret
  exact ⟨by first | rfl | (simp [errW_none, errW_some] <;> rfl) | (simp [*, errW_none, errW_some] <;> rfl), by repeat (first | (with_reducible first | exact HB.out | apply below_alloc | apply pw_below_drewN | apply below_drew1 | refine below_set ?_ GE0.out) | exact HB.out)⟩

/-! ### impl_in: function 100 -/
def impl_in.f (a0 : Int) (a1 : Int) (a2 : Int) : Option (Bool) := if a0 ≥ a1 then (some (decide (a0 ≤ a2))) else (some false)
set_option maxHeartbeats 8000000 in
set_option maxRecDepth 100000 in
theorem impl_in.calls (a0 : Int) (a1 : Int) (a2 : Int) (r : Bool) (w : World) (h : impl_in.f a0 a1 a2 = some r) :
    Calls Try.prog 100 #[.int .i64 a0, .int .i64 a1, .int .i64 a2] w fun e w' => e = .returned (.bool r) ∧ Drawn0 w w' := by
  have H : (if a0 ≥ a1 then (some (decide (a0 ≤ a2))) else (some false)) = some r := h
  clear h
  by_cases c4 : a0 ≥ a1
  · rw [if_pos c4] at H
    have c4b0 : decide (a1 ≤ a0) = true := decide_eq_true c4
    clear c4
    obtain rfl := Option.some.inj H
    go_enter Try.func100, Try.ntmps100
    go_wp2
    go_ret
    exact ⟨by first | rfl | (simp; done) | (simp [*]; done), by repeat (first | exact Drawn0.refl _ | apply Drawn0.step)⟩
  · rw [if_neg c4] at H
    have c4b0 : decide (a1 ≤ a0) = false := decide_eq_false c4
    clear c4
    obtain rfl := Option.some.inj H
    go_enter Try.func100, Try.ntmps100
    go_wp2
    go_ret
    exact ⟨by first | rfl | (simp; done) | (simp [*]; done), by repeat (first | exact Drawn0.refl _ | apply Drawn0.step)⟩


/-! ### impl_IsPlan: function 44 -/
def impl_IsPlan.steps (n : Int) (ss : List (S73)) : Nat → Nat → Bool
  | 0, _ => true
  | d + 1, i => if (rd_T73 ss i).f0 < 0 then false else if (rd_T73 ss i).f0 > (rd_T73 ss i).f1 then false else if (rd_T73 ss i).f1 ≥ n + i then false else impl_IsPlan.steps n ss d (i + 1)
def impl_IsPlan.outs (n : Int) (ss : List (S73)) (os : List Int) (j : Nat) : Bool := !(decide (0 ≤ rd os j) && decide (rd os j ≤ n + ss.length - 1))
def impl_IsPlan.formed (n : Int) (ss : List (S73)) (os : List Int) : Bool :=
  if 1 ≤ n ∧ n ≤ 6 then (if ss.length ≤ 40 then (if os.length ≤ 6 then (if impl_IsPlan.steps n ss ss.length 0 = true then !(Go.Proofs.YtdcdaoancmpbeaaH.anyIx (impl_IsPlan.outs n ss os) os.length 0) else false) else false) else false) else false
def impl_IsPlan.IsP (w0 W : World) (g : Nat) (n : Int) (ss : List (S73)) (os : List Int) : Prop := ∃ A1 c1 A2 c2, W.heap[g]? = some (.cells #[.int .i64 n, .slice A1 ss.length c1, .slice A2 os.length c2] 29 (0, 0)) ∧ w0.heap.size ≤ g ∧ Kd.C k73 w0 A1 ss.length ss ∧ Kd.C (Kd.int .i64) w0 A2 os.length os
theorem impl_IsPlan.IsP.below {w0 W W1 : World} {g : Nat} {n : Int} {ss : List (S73)} {os : List Int} (h : impl_IsPlan.IsP w0 W g n ss os) (hw : Below W.heap.size W W1) : impl_IsPlan.IsP w0 W1 g n ss os := by
  obtain ⟨A1, c1, A2, c2, hb, r⟩ := h
  exact ⟨A1, c1, A2, c2, (hw.block g (blk_lt hb)).trans hb, r⟩
set_option maxHeartbeats 2000000 in
set_option maxRecDepth 100000 in
theorem impl_IsPlan.many_reads (g : Nat) (n : Int) (ss : List S73) (os : List Int) (w0 w : World) (hI : impl_IsPlan.IsP w0 w g n ss os) :
    Calls Try.prog 92 #[.pointer (some ⟨g, 0, none⟩)] w fun e w' => e = .returned (.int .i64 (wrap64 (n + ss.length))) ∧ Drawn0 w w' := by
  obtain ⟨A1, c1, A2, c2, HG, hge, HS1, HS2⟩ := hI
  have hc0 : w.cell? ⟨g, 0, none⟩ = some (.int .i64 n) := (blk_cell HG 0).trans rfl
  have hc1 : w.cell? ⟨g, 1, none⟩ = some (.slice A1 ss.length c1) := (blk_cell HG 1).trans rfl
  have hc2 : w.cell? ⟨g, 2, none⟩ = some (.slice A2 os.length c2) := (blk_cell HG 2).trans rfl
  have hf := blk_frozen HG 0
  clear HG hge
  go_enter Try.func92, Try.ntmps92
  go_wp2
  repeat (go_quiet (fail); try go_wp2)
  go_ret
  exact ⟨rfl, by repeat (first | exact Drawn0.refl _ | apply Drawn0.step)⟩

set_option maxHeartbeats 2000000 in
set_option maxRecDepth 100000 in
theorem impl_IsPlan.out_calls (B g : Nat) (n : Int) (ss : List S73) (os : List Int) (w0 w : World) (v : Int) (hI : impl_IsPlan.IsP w0 w g n ss os) (hc : w.cell? ⟨B, 0, none⟩ = some (.pointer (some ⟨g, 0, none⟩))) (h1 : 1 ≤ n) (h2 : n ≤ 6) (h3 : ss.length ≤ 40) :
    Calls Try.prog 119 #[.int .i64 v, .pointer (some ⟨B, 0, none⟩)] w fun e w' => e = .returned (.bool (!(decide (0 ≤ v) && decide (v ≤ n + ss.length - 1)))) ∧ Below w.heap.size w w' := by
  obtain ⟨r, hr⟩ : ∃ r, r = (decide (0 ≤ v) && decide (v ≤ n + ss.length - 1)) := ⟨_, rfl⟩
  have hin : impl_in.f v 0 (n + ss.length - 1) = some r := by
    unfold impl_in.f
    by_cases c : v ≥ 0
    · rw [if_pos c, hr, decide_eq_true (show 0 ≤ v from c), Bool.true_and]
    · rw [if_neg c, hr, decide_eq_false (show ¬ 0 ≤ v from c), Bool.false_and]
  rw [← hr]
  have HM := Aside0.mk (impl_IsPlan.many_reads g n ss os w0 w hI)
  have HIN := Aside0.mk hin
  clear hr hin hI
  have e1 : wrap64 (n + (ss.length : Int)) = n + ss.length := by unfold wrap64; omega
  have e2 : wrap64 (n + (ss.length : Int) - 1) = n + ss.length - 1 := by unfold wrap64; omega
  generalize n + (ss.length : Int) = m at *
  go_enter Try.func119, Try.ntmps119
  go_wp2_with (first | (go_at_call 92; refine HM.out.mono ?_; rw [e1]; rintro e w1 ⟨rfl, hd1⟩; have HD1 := Aside0.mk hd1; clear hd1) | (go_at_call 100; refine (impl_in.calls _ _ _ r _ (by first | exact HIN.out | (rw [e2]; exact HIN.out))).mono ?_; rintro e w2 ⟨rfl, hd2⟩; have HD2 := Aside0.mk hd2; clear hd2))
  go_ret
  exact ⟨rfl, HD1.out.below.trans (HD2.out.below.mono HD1.out.below.size)⟩
set_option maxHeartbeats 2000000 in
set_option maxRecDepth 100000 in
theorem impl_IsPlan.formed_calls (g : Nat) (n : Int) (ss : List S73) (os : List Int) (w0 w : World) (hI : impl_IsPlan.IsP w0 w g n ss os) (hB : Below w0.heap.size w0 w) :
    Calls Try.prog 86 #[.pointer (some ⟨g, 0, none⟩)] w fun e w' => e = .returned (.bool (impl_IsPlan.formed n ss os)) ∧ Below w.heap.size w w' := by
  obtain ⟨r, hr⟩ : ∃ r, r = impl_IsPlan.formed n ss os := ⟨_, rfl⟩
  rw [← hr]
  unfold impl_IsPlan.formed at hr
  obtain ⟨A1, cc1, A2, cc2, HG, hge, HS1, HS2⟩ := id hI
  have hc0 : w.cell? ⟨g, 0, none⟩ = some (.int .i64 n) := (blk_cell HG 0).trans rfl
  have hc1 : w.cell? ⟨g, 1, none⟩ = some (.slice A1 ss.length cc1) := (blk_cell HG 1).trans rfl
  have hc2 : w.cell? ⟨g, 2, none⟩ = some (.slice A2 os.length cc2) := (blk_cell HG 2).trans rfl
  have HI := Aside0.mk hI
  clear HG hI hge
  by_cases c1 : 1 ≤ n ∧ n ≤ 6
  · rw [if_pos c1] at hr
    have HIN := Aside0.mk (show impl_in.f n 1 6 = some true by unfold impl_in.f; rw [if_pos c1.1, decide_eq_true c1.2])
    by_cases c2 : ss.length ≤ 40
    · rw [if_pos c2] at hr
      have b2 : decide ((40 : Int) < (ss.length : Int)) = false := by rw [decide_eq_false_iff_not]; omega
      by_cases c3 : os.length ≤ 6
      · rw [if_pos c3] at hr
        have b3 : decide ((6 : Int) < (os.length : Int)) = false := by rw [decide_eq_false_iff_not]; omega
        have HR := Aside0.mk hr
        clear hr
        have HS := Aside0.mk HS1
        have HO := Aside0.mk HS2
        have HBB := Aside0.mk hB
        clear HS1 HS2 hB
        go_enter Try.func86, Try.ntmps86
        go_wp2_with (first | ((with_reducible refine gate_dst (N := 1) rfl ?_); refine box_event ?hg (N := 1) ?hd (cs := #[.pointer (some ⟨g, 0, none⟩)]) (t := 64) ?hr ?_; (case hd => rfl); (case hg => rfl); (case hr => first | (go_simp; done) | (go_simp; rfl)); intro gb hg w4 hbox hb; have d0 := pw_cell_below hb hc0; have d1 := pw_cell_below hb hc1; have d2 := pw_cell_below hb hc2; have db : w4.cell? ⟨gb, 0, none⟩ = some (.pointer (some ⟨g, 0, none⟩)) := (blk_cell hbox 0).trans rfl; have HGB := Aside0.mk hg; have HB := Aside0.mk hb; clear hb hbox hg) | (go_at_call 100; refine (impl_in.calls _ _ _ _ _ HIN.out).mono ?_; rintro e w2 ⟨rfl, hd2⟩; have HD2 := Aside0.mk hd2.below; replace d0 := pw_cell_below hd2.below d0; replace d1 := pw_cell_below hd2.below d1; replace d2 := pw_cell_below hd2.below d2; replace db := pw_cell_below hd2.below db; clear hd2))
        go_loopg [32] ss.length (fun gg s32 wr => ∃ kk : Nat, Aside0 (kk ≤ ss.length ∧ ss.length - kk ≤ gg ∧ (r = if impl_IsPlan.steps n ss (ss.length - kk) kk = true then !(Go.Proofs.YtdcdaoancmpbeaaH.anyIx (impl_IsPlan.outs n ss os) os.length 0) else false) ∧ Below w2.heap.size w2 wr) ∧ s32 = .int .i64 kk)
        case atStart => exact ⟨0, ⟨⟨Nat.zero_le _, by omega, HR.out, Below.refl _ _⟩⟩, rfl⟩
        case round =>
          obtain ⟨kk, HK, rfl⟩ := hrel
          obtain ⟨h1, h2, h3, hb⟩ := HK.out
          clear HK
          have HB2 := Aside0.mk ((HBB.out.trans (HB.out.mono HBB.out.size)).trans (HD2.out.mono (Nat.le_trans HBB.out.size HB.out.size)))
          replace d0 := pw_cell_below hb d0
          replace d1 := pw_cell_below hb d1
          replace d2 := pw_cell_below hb d2
          replace db := pw_cell_below hb db
          by_cases hlt : kk < ss.length
          · have hltz : (kk : Int) < (ss.length : Int) := by omega
            obtain ⟨ad, e1, hx0, hx1⟩ := at_T73 HS.out (kk : Int) (by omega) hltz
            subst e1
            rw [Int.toNat_natCast] at hx0 hx1
            replace hx0 := pw_cell_below hb (pw_cell_below HB2.out hx0)
            replace hx1 := pw_cell_below hb (pw_cell_below HB2.out hx1)
            obtain ⟨m, hm⟩ : ∃ m, ss.length - kk = m + 1 := ⟨ss.length - kk - 1, by omega⟩
            rw [hm, impl_IsPlan.steps] at h3
            generalize (rd_T73 ss kk).f0 = a at *
            generalize (rd_T73 ss kk).f1 = b at *
            have HBR := Aside0.mk hb
            have HM := Aside0.mk hm
            have H2 := Aside0.mk h2
            have e2 : wrap64 (n + (kk : Int)) = n + kk := by unfold wrap64; omega
            have HW := Aside0.mk (HB.out.trans (HD2.out.mono HB.out.size))
            have d0a : (wr.alloc (Obj.cells #[.int .i64 a, .int .i64 b] 73)).cell? ⟨g, 0, none⟩ = some (.int .i64 n) := pw_cell_below (below_alloc (Below.refl _ _) _) d0
            have dba : (wr.alloc (Obj.cells #[.int .i64 a, .int .i64 b] 73)).cell? ⟨gb, 0, none⟩ = some (.pointer (some ⟨g, 0, none⟩)) := pw_cell_below (below_alloc (Below.refl _ _) _) db
            clear hb hm h2
            by_cases k1 : a < 0
            · rw [if_pos k1] at h3
              have H3 := Aside0.mk (show r = false from h3)
              clear h3
              have b4 : decide (a < 0) = true := decide_eq_true k1
              go_wp2
              repeat (go_quiet (fail); try go_wp2)
              go_ret
              refine ⟨by rw [H3.out]; rfl, HW.out.trans (Below.mono ?_ HW.out.size)⟩
              repeat (first | exact HBR.out | apply below_alloc | apply below_drew1 | apply pw_below_drewN)
            · rw [if_neg k1] at h3
              have b4 : decide (a < 0) = false := decide_eq_false k1
              by_cases k2 : a > b
              · rw [if_pos k2] at h3
                have H3 := Aside0.mk (show r = false from h3)
                clear h3
                have b5 : decide (b < a) = true := decide_eq_true k2
                go_wp2
                repeat (go_quiet (fail); try go_wp2)
                go_ret
                refine ⟨by rw [H3.out]; rfl, HW.out.trans (Below.mono ?_ HW.out.size)⟩
                repeat (first | exact HBR.out | apply below_alloc | apply below_drew1 | apply pw_below_drewN)
              · rw [if_neg k2] at h3
                have b5 : decide (b < a) = false := decide_eq_false k2
                by_cases k3 : b ≥ n + kk
                · rw [if_pos k3] at h3
                  have H3 := Aside0.mk (show r = false from h3)
                  clear h3
                  have b6 : decide (n + (kk : Int) ≤ b) = true := decide_eq_true k3
                  have b7 : decide (wrap64 (n + (kk : Int)) ≤ b) = true := by rw [e2]; exact b6
                  go_wp2
                  repeat (go_quiet (fail); try go_wp2)
                  go_ret
                  refine ⟨by rw [H3.out]; rfl, HW.out.trans (Below.mono ?_ HW.out.size)⟩
                  repeat (first | exact HBR.out | apply below_alloc | apply below_drew1 | apply pw_below_drewN)
                · rw [if_neg k3] at h3
                  have H3 := Aside0.mk h3
                  clear h3
                  have b6 : decide (n + (kk : Int) ≤ b) = false := decide_eq_false k3
                  have b7 : decide (wrap64 (n + (kk : Int)) ≤ b) = false := by rw [e2]; exact b6
                  go_wp2
                  repeat (go_quiet (fail); try go_wp2)
                  go_roundg (ss.length - (kk + 1))
                  case measure => have := H2.out; have := HM.out; omega
                  case rel =>
                    refine ⟨kk + 1, ⟨⟨by omega, by omega, ?_, ?_⟩⟩, by go_num⟩
                    · rw [show ss.length - (kk + 1) = m by have := HM.out; omega]
                      exact H3.out
                    · repeat (first | exact HBR.out | apply below_alloc | apply below_drew1 | apply pw_below_drewN)
          · have hltz : ¬ (kk : Int) < (ss.length : Int) := by omega
            obtain rfl : kk = ss.length := by omega
            rw [Nat.sub_self, impl_IsPlan.steps, if_pos rfl] at h3
            have HBR := Aside0.mk hb
            have H3 := Aside0.mk h3
            have HW := Aside0.mk (HB.out.trans (HD2.out.mono HB.out.size))
            have HA := fun (hp : 0 < os.length) => (show ∃ ad : Addr, A2 = some ad ∧ ∀ j, j < os.length → wr.cell? (ad.add j) = some (Value.int .i64 (rd os j)) from by
              obtain ⟨ad, e, _⟩ := Kd.at_int HO.out (0 : Int) (by omega) (by omega)
              subst e
              refine ⟨ad, rfl, fun j hj => ?_⟩
              obtain ⟨ad', e', h'⟩ := Kd.at_int HO.out (j : Int) (by omega) (by omega)
              obtain rfl : ad = ad' := by injection e'
              rw [Int.toNat_natCast] at h'
              exact pw_cell_below hb (pw_cell_below HB2.out h'))
            have HP := fun (j : Nat) (hj : j < os.length) (W : World) (hW : Below wr.heap.size wr W) => impl_IsPlan.out_calls gb g n ss os w0 W (rd os j) (impl_IsPlan.IsP.below (impl_IsPlan.IsP.below (impl_IsPlan.IsP.below (impl_IsPlan.IsP.below HI.out HB.out) HD2.out) hb) hW) (pw_cell_below hW db) c1.1 c1.2 c2
            have HC := Aside0.mk (Go.Proofs.YtdcdaoancmpbeaaH.contains_f125 wr A2 os.length cc2 (fun j => .int .i64 (rd os j)) (impl_IsPlan.outs n ss os) 119 #[.pointer (some ⟨gb, 0, none⟩)] (enters_of Try.func119 (by kernel_rfl) rfl) (by omega) HA HP)
            clear h3 hb HA HP h2
            go_wp2_with (go_at_call 118; refine HC.out.mono ?_; rintro e w6 ⟨rfl, hb6⟩; have HB6 := Aside0.mk hb6; clear hb6)
            go_ret
            refine ⟨?_, HW.out.trans ((HBR.out.trans (HB6.out.mono HBR.out.size)).mono HW.out.size)⟩
            rw [H3.out]
            rfl
      · rw [if_neg c3] at hr
        subst hr
        have b3 : decide ((6 : Int) < (os.length : Int)) = true := by rw [decide_eq_true_iff]; omega
        clear HS1 HS2 hB
        go_enter Try.func86, Try.ntmps86
        go_wp2_with (first | ((with_reducible refine gate_dst (N := 1) rfl ?_); refine box_event ?hg (N := 1) ?hd (cs := #[.pointer (some ⟨g, 0, none⟩)]) (t := 64) ?hr ?_; (case hd => rfl); (case hg => rfl); (case hr => first | (go_simp; done) | (go_simp; rfl)); intro gb hg w4 hbox hb; have d0 := pw_cell_below hb hc0; have d1 := pw_cell_below hb hc1; have d2 := pw_cell_below hb hc2; have db : w4.cell? ⟨gb, 0, none⟩ = some (.pointer (some ⟨g, 0, none⟩)) := (blk_cell hbox 0).trans rfl; have HGB := Aside0.mk hg; have HB := Aside0.mk hb; clear hb hbox hg) | (go_at_call 100; refine (impl_in.calls _ _ _ _ _ HIN.out).mono ?_; rintro e w2 ⟨rfl, hd2⟩; have HD2 := Aside0.mk hd2.below; replace d0 := pw_cell_below hd2.below d0; replace d1 := pw_cell_below hd2.below d1; replace d2 := pw_cell_below hd2.below d2; replace db := pw_cell_below hd2.below db; clear hd2))
        go_ret
        exact ⟨rfl, HB.out.trans (HD2.out.mono HB.out.size)⟩
    · rw [if_neg c2] at hr
      subst hr
      have b2 : decide ((40 : Int) < (ss.length : Int)) = true := by rw [decide_eq_true_iff]; omega
      clear HS1 HS2 hB
      go_enter Try.func86, Try.ntmps86
      go_wp2_with (first | ((with_reducible refine gate_dst (N := 1) rfl ?_); refine box_event ?hg (N := 1) ?hd (cs := #[.pointer (some ⟨g, 0, none⟩)]) (t := 64) ?hr ?_; (case hd => rfl); (case hg => rfl); (case hr => first | (go_simp; done) | (go_simp; rfl)); intro gb hg w4 hbox hb; have d0 := pw_cell_below hb hc0; have d1 := pw_cell_below hb hc1; have d2 := pw_cell_below hb hc2; have db : w4.cell? ⟨gb, 0, none⟩ = some (.pointer (some ⟨g, 0, none⟩)) := (blk_cell hbox 0).trans rfl; have HGB := Aside0.mk hg; have HB := Aside0.mk hb; clear hb hbox hg) | (go_at_call 100; refine (impl_in.calls _ _ _ _ _ HIN.out).mono ?_; rintro e w2 ⟨rfl, hd2⟩; have HD2 := Aside0.mk hd2.below; replace d0 := pw_cell_below hd2.below d0; replace d1 := pw_cell_below hd2.below d1; replace d2 := pw_cell_below hd2.below d2; replace db := pw_cell_below hd2.below db; clear hd2))
      go_ret
      exact ⟨rfl, HB.out.trans (HD2.out.mono HB.out.size)⟩
  · rw [if_neg c1] at hr
    subst hr
    have HIN := Aside0.mk (show impl_in.f n 1 6 = some false by unfold impl_in.f; by_cases h : n ≥ 1; rw [if_pos h, decide_eq_false (by omega)]; rw [if_neg h])
    clear HS1 HS2 hB
    go_enter Try.func86, Try.ntmps86
    go_wp2_with (first | ((with_reducible refine gate_dst (N := 1) rfl ?_); refine box_event ?hg (N := 1) ?hd (cs := #[.pointer (some ⟨g, 0, none⟩)]) (t := 64) ?hr ?_; (case hd => rfl); (case hg => rfl); (case hr => first | (go_simp; done) | (go_simp; rfl)); intro gb hg w4 hbox hb; have d0 := pw_cell_below hb hc0; have d1 := pw_cell_below hb hc1; have d2 := pw_cell_below hb hc2; have db : w4.cell? ⟨gb, 0, none⟩ = some (.pointer (some ⟨g, 0, none⟩)) := (blk_cell hbox 0).trans rfl; have HGB := Aside0.mk hg; have HB := Aside0.mk hb; clear hb hbox hg) | (go_at_call 100; refine (impl_in.calls _ _ _ _ _ HIN.out).mono ?_; rintro e w2 ⟨rfl, hd2⟩; have HD2 := Aside0.mk hd2.below; replace d0 := pw_cell_below hd2.below d0; replace d1 := pw_cell_below hd2.below d1; replace d2 := pw_cell_below hd2.below d2; replace db := pw_cell_below hd2.below db; clear hd2))
    go_ret
    exact ⟨rfl, HB.out.trans (HD2.out.mono HB.out.size)⟩
/-- Is some row's greatest number too great. -/
def impl_IsPlan.top (k : Nat) : List (List Int) → Option Bool
  | [] => some false
  | x :: xs => (slices_Max_int_int.f k x).bind fun m => (impl_IsPlan.top k xs).bind fun b => some (decide (m > 1000000) || b)
theorem impl_IsPlan.top_mono : ∀ (k : Nat) (xs : List (List Int)), LeO (impl_IsPlan.top k xs) (impl_IsPlan.top (k + 1) xs)
  | _, [] => LeO.refl _
  | k, x :: xs => LeO.bind (slices_Max_int_int.mono _ _) (fun _ => LeO.bind (impl_IsPlan.top_mono k xs) (fun _ => LeO.refl _))
def impl_IsPlan.pv (k : Nat) (rows : List (List Int)) (j : Nat) : Bool := match slices_Max_int_int.f k (Go.Proofs.YtdcdaoancmpbeaaH.rdRow rows j) with
  | some m => decide (m > 1000000)
  | none => false
theorem impl_IsPlan.top_any (k : Nat) (rows : List (List Int)) : ∀ (xs : List (List Int)) (i : Nat) (b : Bool), (∀ j : Nat, j < xs.length → Go.Proofs.YtdcdaoancmpbeaaH.rdRow rows ((i + j : Nat) : Int) = xs.getD j []) → impl_IsPlan.top k xs = some b → (∀ j : Nat, j < xs.length → ∃ m, slices_Max_int_int.f k (Go.Proofs.YtdcdaoancmpbeaaH.rdRow rows ((i + j : Nat) : Int)) = some m) ∧ Go.Proofs.YtdcdaoancmpbeaaH.anyIx (impl_IsPlan.pv k rows) xs.length i = b
  | [], i, b, _, h => by
    rw [impl_IsPlan.top] at h
    exact ⟨fun j hj => absurd hj (Nat.not_lt_zero _), Option.some.inj h⟩
  | x :: xs, i, b, hx, h => by
    rw [impl_IsPlan.top] at h
    obtain ⟨m, h1, h⟩ := Option.bind_eq_some_iff.mp h
    obtain ⟨b', h2, h⟩ := Option.bind_eq_some_iff.mp h
    have h0 := hx 0 (Nat.succ_pos _)
    rw [Nat.add_zero] at h0
    have hg : (x :: xs).getD 0 [] = x := rfl
    rw [hg] at h0
    obtain ⟨k1, k2⟩ := impl_IsPlan.top_any k rows xs (i + 1) b' (fun j hj => by
      have := hx (j + 1) (Nat.succ_lt_succ hj)
      rw [show i + 1 + j = i + (j + 1) by omega, this]; rfl) h2
    refine ⟨fun j hj => ?_, ?_⟩
    · cases j with
      | zero => exact ⟨m, by rw [Nat.add_zero, h0]; exact h1⟩
      | succ j =>
        have := k1 j (Nat.lt_of_succ_lt_succ hj)
        rwa [show i + 1 + j = i + (j + 1) by omega] at this
    · have hp : impl_IsPlan.pv k rows i = decide (m > 1000000) := by unfold impl_IsPlan.pv; rw [h0, h1]
      rw [List.length_cons, Go.Proofs.YtdcdaoancmpbeaaH.anyIx, hp, k2]
      have := Option.some.inj h
      rw [← this]
      cases decide (m > 1000000) <;> rfl
set_option maxHeartbeats 2000000 in
set_option maxRecDepth 100000 in
theorem impl_IsPlan.row_calls (k : Nat) (A : Option Addr) (c : Nat) (l : List Int) (m : Int) (w : World) (hr : Kd.C (Kd.int .i64) w A l.length l) (hc : l.length ≤ c) (h : slices_Max_int_int.f k l = some m) :
    Calls Try.prog 88 #[.slice A l.length c] w fun e w' => e = .returned (.bool (decide (m > 1000000))) ∧ Below w.heap.size w w' := by
  have HX := Aside0.mk (slices_Max_int_int.calls k A c l m w hr hc h)
  obtain ⟨b, hb⟩ : ∃ b, decide (m > 1000000) = b := ⟨_, rfl⟩
  have hb' : decide (1000000 < m) = b := hb
  rw [hb]
  clear hr h hb
  go_enter Try.func88, Try.ntmps88
  go_wp2_with (go_at_call 89; refine HX.out.mono ?_; rintro e w1 ⟨rfl, hd1⟩; have HD1 := Aside0.mk hd1; clear hd1)
  go_ret
  exact ⟨rfl, HD1.out⟩
def impl_IsPlan.elOf (w : World) (A : Option Addr) (j : Nat) : Value := match A with | some ad => (w.cell? (ad.add j)).getD (.bool false) | none => .bool false
theorem impl_IsPlan.elOf_some {w : World} {ad : Addr} {j : Nat} {v : Value} (h : w.cell? (ad.add j) = some v) : impl_IsPlan.elOf w (some ad) j = v := by show (w.cell? (ad.add j)).getD (.bool false) = v; rw [h]; rfl
theorem impl_IsPlan.some_calls (k : Nat) (rows : List (List Int)) (b : Bool) (base : Nat) (ok : Nat → Prop) (v : Value) (w : World) (hS : Kd.S (Kd.slice 3 (Kd.int .i64)) 23 w base ok v rows) (h : impl_IsPlan.top k rows = some b) :
    Calls Try.prog 87 #[v, .func (.func 88) #[] #[]] w fun e w' => e = .returned (.bool b) ∧ Below w.heap.size w w' := by
  obtain ⟨A, c, rfl⟩ := Kd.S_slice hS
  obtain ⟨k1, k2⟩ := impl_IsPlan.top_any k rows rows 0 b (fun j _ => by unfold Go.Proofs.YtdcdaoancmpbeaaH.rdRow; rw [Nat.zero_add, Int.toNat_natCast]) h
  rw [← k2]
  have hR := (Kd.S_reads' hS).2.2
  refine Go.Proofs.YtdcdaoancmpbeaaH.contains_f107 w A rows.length c (impl_IsPlan.elOf w A) (impl_IsPlan.pv k rows) 88 #[] (enters_of Try.func88 (by kernel_rfl) rfl) (Kd.C_max hR) (fun hp => ?_) (fun j hj W hW => ?_)
  · obtain ⟨ad, _, _, e, _⟩ := Go.Proofs.YtdcdaoancmpbeaaH.at_row hR 0 (by omega) (by omega)
    subst e
    refine ⟨ad, rfl, fun j hj => ?_⟩
    obtain ⟨ad', A', c', e', h', _⟩ := Go.Proofs.YtdcdaoancmpbeaaH.at_row hR (j : Int) (by omega) (by omega)
    obtain rfl : ad = ad' := by injection e'
    rw [Int.toNat_natCast] at h'
    rw [impl_IsPlan.elOf_some h']
    exact h'
  · obtain ⟨ad', A', c', e', h', hl', hC⟩ := Go.Proofs.YtdcdaoancmpbeaaH.at_row hR (j : Int) (by omega) (by omega)
    subst e'
    rw [Int.toNat_natCast] at h'
    obtain ⟨m, hm⟩ := k1 j hj
    rw [Nat.zero_add] at hm
    rw [impl_IsPlan.elOf_some h']
    have hp : impl_IsPlan.pv k rows j = decide (m > 1000000) := by unfold impl_IsPlan.pv; rw [hm]
    rw [hp]
    exact impl_IsPlan.row_calls k A' c' (Go.Proofs.YtdcdaoancmpbeaaH.rdRow rows j) m W (Kd.C_below hC hW) hl' hm
def impl_IsPlan.f (k : Nat) (n : Int) (ss : List S73) (os : List Int) : Option Bool := if impl_IsPlan.formed n ss os = true then ((impl_Plan_exponents.f k n ss os).bind fun t => (impl_IsPlan.top k t).bind fun b => some (!b)) else some false
theorem impl_IsPlan.mono : ∀ n ss os k, LeO (impl_IsPlan.f k n ss os) (impl_IsPlan.f (k + 1) n ss os) := by
  intro n ss os k
  unfold impl_IsPlan.f
  exact LeO.ite (LeO.bind (impl_Plan_exponents.mono _ _ _ _) (fun _ => LeO.bind (impl_IsPlan.top_mono _ _) (fun _ => LeO.refl _))) (LeO.refl _)
set_option maxHeartbeats 2000000 in
set_option maxRecDepth 100000 in
theorem impl_IsPlan.calls (k : Nat) (a0_0 : Int) (A0_1 : Option Addr) (c0_1 : Nat) (l0_1 : List S73) (A0_2 : Option Addr) (c0_2 : Nat) (l0_2 : List Int) (r : Bool) (w : World) (hr0_1 : Kd.C k73 w A0_1 l0_1.length l0_1) (hc0_1 : l0_1.length ≤ c0_1) (hr0_2 : Kd.C (Kd.int .i64) w A0_2 l0_2.length l0_2) (hc0_2 : l0_2.length ≤ c0_2) (h : impl_IsPlan.f k a0_0 l0_1 l0_2 = some r) :
    Calls Try.prog 44 #[.agg #[.int .i64 a0_0, .slice A0_1 l0_1.length c0_1, .slice A0_2 l0_2.length c0_2]] w fun e w' => e = .returned (.bool r) ∧ Below w.heap.size w w' := by
  unfold impl_IsPlan.f at h
  by_cases cf : impl_IsPlan.formed a0_0 l0_1 l0_2 = true
  · rw [if_pos cf] at h
    obtain ⟨rows, he, h⟩ := Option.bind_eq_some_iff.mp h
    obtain ⟨b, ht, h⟩ := Option.bind_eq_some_iff.mp h
    obtain rfl := Option.some.inj h
    have HE := Aside0.mk he
    have HT := Aside0.mk ht
    have HN := Aside0.mk (show ∀ W g, impl_IsPlan.IsP w W g a0_0 l0_1 l0_2 → Below w.heap.size w W → Calls Try.prog 86 #[.pointer (some ⟨g, 0, none⟩)] W fun e w' => e = .returned (.bool true) ∧ Below W.heap.size W w' from fun W g h1 h2 => by have := impl_IsPlan.formed_calls g a0_0 l0_1 l0_2 w W h1 h2; rwa [cf] at this)
    have HR1 := Aside0.mk hr0_1
    have HR2 := Aside0.mk hr0_2
    clear h he ht cf hr0_1 hr0_2
    go_enter Try.func44, Try.ntmps44
    go_wp2_with (first | ((with_reducible refine gate_dst (N := 1) rfl ?_); refine box_event ?hg (N := 1) ?hd (cs := #[.int .i64 a0_0, .slice A0_1 l0_1.length c0_1, .slice A0_2 l0_2.length c0_2]) (t := 29) ?hr ?_; (case hd => rfl); (case hg => rfl); (case hr => first | (go_simp; done) | (go_simp; rfl)); intro gb hg w4 hbox hb; have HI := Aside0.mk (show impl_IsPlan.IsP w w4 gb a0_0 l0_1 l0_2 from ⟨A0_1, c0_1, A0_2, c0_2, hbox, (by rw [hg]; exact Nat.le_refl _), HR1.out, HR2.out⟩); have HB := Aside0.mk hb; have HBX := Aside0.mk hbox; clear hb hbox hg) | (go_at_call 86; refine (HN.out _ gb HI.out HB.out).mono ?_; rintro e w5 ⟨rfl, hb5⟩; have HBX5 := Aside0.mk ((hb5.block gb (blk_lt HBX.out)).trans HBX.out); have HB5 := Aside0.mk (HB.out.trans (hb5.mono HB.out.size)); clear hb5) | (go_at_call 72; refine (impl_Plan_exponents.calls k gb a0_0 A0_1 c0_1 l0_1 A0_2 c0_2 l0_2 rows _ HBX5.out (Kd.C_below HR1.out HB5.out) hc0_1 (Kd.C_below HR2.out HB5.out) hc0_2 HE.out).mono ?_; rintro e w6 ⟨v, rfl, hS, hB6⟩; have HS := Aside0.mk hS; have HB6 := Aside0.mk (HB5.out.trans (hB6.mono HB5.out.size)); clear hS hB6) | (go_at_call 87; refine (impl_IsPlan.some_calls k rows b _ _ _ _ HS.out HT.out).mono ?_; rintro e w7 ⟨rfl, hb7⟩; have HB7 := Aside0.mk (HB6.out.trans (hb7.mono HB6.out.size)); clear hb7))
    go_ret
    exact ⟨rfl, HB7.out⟩
  · rw [if_neg cf] at h
    obtain rfl := Option.some.inj h
    replace cf := Bool.eq_false_iff.mpr cf
    have HN := Aside0.mk (show ∀ W g, impl_IsPlan.IsP w W g a0_0 l0_1 l0_2 → Below w.heap.size w W → Calls Try.prog 86 #[.pointer (some ⟨g, 0, none⟩)] W fun e w' => e = .returned (.bool false) ∧ Below W.heap.size W w' from fun W g h1 h2 => by have := impl_IsPlan.formed_calls g a0_0 l0_1 l0_2 w W h1 h2; rwa [cf] at this)
    have HR1 := Aside0.mk hr0_1
    have HR2 := Aside0.mk hr0_2
    clear h cf hr0_1 hr0_2
    go_enter Try.func44, Try.ntmps44
    go_wp2_with (first | ((with_reducible refine gate_dst (N := 1) rfl ?_); refine box_event ?hg (N := 1) ?hd (cs := #[.int .i64 a0_0, .slice A0_1 l0_1.length c0_1, .slice A0_2 l0_2.length c0_2]) (t := 29) ?hr ?_; (case hd => rfl); (case hg => rfl); (case hr => first | (go_simp; done) | (go_simp; rfl)); intro gb hg w4 hbox hb; have HI := Aside0.mk (show impl_IsPlan.IsP w w4 gb a0_0 l0_1 l0_2 from ⟨A0_1, c0_1, A0_2, c0_2, hbox, (by rw [hg]; exact Nat.le_refl _), HR1.out, HR2.out⟩); have HB := Aside0.mk hb; have HBX := Aside0.mk hbox; clear hb hbox hg) | (go_at_call 86; refine (HN.out _ gb HI.out HB.out).mono ?_; rintro e w5 ⟨rfl, hb5⟩; have HBX5 := Aside0.mk ((hb5.block gb (blk_lt HBX.out)).trans HBX.out); have HB5 := Aside0.mk (HB.out.trans (hb5.mono HB.out.size)); clear hb5))
    go_ret
    exact ⟨rfl, HB5.out⟩



/-! ### slices_Concat_int_int: function 71 -/
section
def slices_Concat_int_int.f (l0 : List (List Int)) : Option (List Int) := if l0.length ≤ 1000000 ∧ l0.flatten.length ≤ 1000000000 then some l0.flatten else none
theorem slices_Concat_int_int.step (l0 : List (List Int)) (k : Nat) (h : k < l0.length) : (l0.take (k + 1)).flatten = (l0.take k).flatten ++ Go.Proofs.YtdcdaoancmpbeaaH.rdRow l0 (k : Int) := by
  have e : Go.Proofs.YtdcdaoancmpbeaaH.rdRow l0 (k : Int) = l0[k] := by unfold Go.Proofs.YtdcdaoancmpbeaaH.rdRow; rw [Int.toNat_natCast]; simp [List.getD, h]
  rw [List.take_succ_eq_append_getElem h, List.flatten_append, e]
  simp
theorem slices_Concat_int_int.part (l0 : List (List Int)) (k : Nat) : (l0.take k).flatten.length ≤ l0.flatten.length := by
  have := congrArg (fun l => l.flatten.length) (List.take_append_drop k l0)
  simp only [List.flatten_append, List.length_append] at this
  omega
theorem slices_Concat_int_int.num (n m : Nat) (h : n + m ≤ 1000000000) : wrap64 ((n : Int) + (m : Int)) = ((n + m : Nat) : Int) ∧ ¬ ((n + m : Nat) : Int) < 0 ∧ ¬ (n : Int) + (m : Int) < 0 ∧ wrap64 ((n : Int) + (m : Int)) = (n : Int) + (m : Int) := by
  refine ⟨?_, ?_, ?_, ?_⟩ <;> first | omega | (unfold wrap64; omega)
theorem slices_Concat_int_int.nums (l0 : List (List Int)) (k : Nat) (h : k < l0.length) (hs : l0.flatten.length ≤ 1000000000) : ∃ n m : Nat, (l0.take k).flatten.length = n ∧ (Go.Proofs.YtdcdaoancmpbeaaH.rdRow l0 (k : Int)).length = m ∧ (l0.take (k + 1)).flatten.length = n + m ∧ wrap64 ((n : Int) + (m : Int)) = ((n + m : Nat) : Int) ∧ ¬ ((n + m : Nat) : Int) < 0 ∧ ¬ (n : Int) + (m : Int) < 0 ∧ wrap64 ((n : Int) + (m : Int)) = (n : Int) + (m : Int) := by
  have e : (l0.take (k + 1)).flatten.length = (l0.take k).flatten.length + (Go.Proofs.YtdcdaoancmpbeaaH.rdRow l0 (k : Int)).length := by rw [slices_Concat_int_int.step l0 k h, List.length_append]
  have b := Nat.le_trans (e ▸ slices_Concat_int_int.part l0 (k + 1)) hs
  exact ⟨_, _, rfl, rfl, e, slices_Concat_int_int.num _ _ b⟩
theorem slices_Concat_int_int.eight (a b : Nat) (h : a + b ≤ 1000000000) : (a + b) * 8 ≤ 140737488355328 := by omega
set_option maxHeartbeats 2000000 in
set_option maxRecDepth 100000 in
theorem slices_Concat_int_int.calls (A0 : Option Addr) (c0 : Nat) (l0 : List (List Int)) (r : List Int) (w : World) (hr0 : Kd.C (Kd.slice 3 (Kd.int .i64)) w A0 l0.length l0) (hc0 : l0.length ≤ c0) (h : slices_Concat_int_int.f l0 = some r) :
    Calls Try.prog 71 #[.slice A0 l0.length c0] w fun e w' => ∃ v0_ : Value, e = .returned v0_ ∧ Kd.R (Kd.int .i64) 3 w' w.heap.size (fun _ => True) v0_ r ∧ Below w.heap.size w w' := by
  unfold slices_Concat_int_int.f at h
  by_cases hs : l0.length ≤ 1000000 ∧ l0.flatten.length ≤ 1000000000
  · rw [if_pos hs] at h
    obtain rfl := Option.some.inj h
    have HR0 := Aside0.mk hr0
    have HS := Aside0.mk hs
    clear hr0 hs h
    go_enter Try.func71, Try.ntmps71
    go_wp2
    go_loopg [3, 11] l0.length (fun gg s3 s11 wr => ∃ kk : Nat, Aside0 (kk ≤ l0.length ∧ l0.length - kk ≤ gg ∧ Below w.heap.size w wr) ∧ s3 = .int .i64 (((l0.take kk).flatten.length : Nat) : Int) ∧ s11 = .int .i64 kk)
    case atStart => exact ⟨0, ⟨⟨Nat.zero_le _, by omega, Below.refl _ _⟩⟩, rfl, rfl⟩
    case round =>
      obtain ⟨kk, HK, rfl, rfl⟩ := hrel
      obtain ⟨h1, h2, h4⟩ := HK.out
      clear HK
      by_cases hlt : kk < l0.length
      · have hltz : (kk : Int) < (l0.length : Int) := by omega
        obtain ⟨a0, B0, b0, ea, hx0, g0, hC0⟩ := Go.Proofs.YtdcdaoancmpbeaaH.at_row HR0.out (kk : Int) (by omega) hltz
        subst ea
        rw [Int.toNat_natCast] at hx0
        replace hx0 := pw_cell_below h4 hx0
        obtain ⟨n, m, hn, hm, hnm, w1, w2, w3, w4⟩ := slices_Concat_int_int.nums l0 kk hlt HS.out.2
        rw [hn]
        rw [hm] at hx0
        have H2 := Aside0.mk h2
        have H4 := Aside0.mk h4
        have HNM := Aside0.mk hnm
        clear h2 h4 hnm hn hm hC0 g0
        go_wp2
        go_roundg (l0.length - (kk + 1))
        case measure => have := H2.out; omega
        case rel => exact ⟨kk + 1, ⟨⟨by omega, by omega, H4.out⟩⟩, by rw [HNM.out]; first | rfl | (rw [w1]; done) | simp, by rw [show wrap64 ((kk : Int) + 1) = ((kk + 1 : Nat) : Int) by have := HS.out.1; unfold wrap64; omega]⟩
      · have hltz : ¬ (kk : Int) < (l0.length : Int) := by omega
        obtain rfl : kk = l0.length := by omega
        rw [List.take_length]
        obtain ⟨n, hn⟩ : ∃ n, l0.flatten.length = n := ⟨_, rfl⟩
        have HN := Aside0.mk (show n ≤ 1000000000 by rw [← hn]; exact HS.out.2)
        rw [hn]
        have H4 := Aside0.mk h4
        clear h2 h4 hn
        go_wp2_with (go_at_call 114; refine (Go.Proofs.YtdcdaoancmpbeaaS.grow_f114 n wr HN.out).mono ?_; rintro e w5 ⟨v5, rfl, ho, hb⟩; have HO5 := Aside0.mk ho; have HB5 := Aside0.mk hb; clear ho hb)
        go_loopg [6, 27] l0.length (fun gg s6 s27 wq => ∃ (kk : Nat) (v : Value), Aside0 (kk ≤ l0.length ∧ l0.length - kk ≤ gg ∧ Below w.heap.size w wq ∧ Kd.R (Kd.int .i64) 3 wq w.heap.size (fun _ => True) v (l0.take kk).flatten) ∧ s6 = v ∧ s27 = .int .i64 kk)
        case atStart => exact ⟨0, v5, ⟨⟨Nat.zero_le _, by omega, H4.out.trans (HB5.out.mono H4.out.size), by rw [List.take_zero]; exact Kd.R_lower HO5.out H4.out.size⟩⟩, rfl, rfl⟩
        case round =>
          obtain ⟨kk, v, HK, rfl, rfl⟩ := hrel
          obtain ⟨h1, h2, h4, h5⟩ := HK.out
          clear HK
          by_cases hlt : kk < l0.length
          · have hltz : (kk : Int) < (l0.length : Int) := by omega
            obtain ⟨a0, B0, b0, ea, hx0, g0, hC0⟩ := Go.Proofs.YtdcdaoancmpbeaaH.at_row HR0.out (kk : Int) (by omega) hltz
            subst ea
            rw [Int.toNat_natCast] at hx0
            replace hx0 := pw_cell_below h4 hx0
            have hst := slices_Concat_int_int.step l0 kk hlt
            have hb := Nat.le_trans (slices_Concat_int_int.part l0 (kk + 1)) HS.out.2
            rw [hst, List.length_append] at hb
            have HL := Aside0.mk (slices_Concat_int_int.eight _ _ hb)
            clear hb
            generalize Go.Proofs.YtdcdaoancmpbeaaH.rdRow l0 (kk : Int) = ys at *
            generalize (l0.take kk).flatten = xs at *
            have H2 := Aside0.mk h2
            have H4 := Aside0.mk h4
            have H5 := Aside0.mk h5
            have HST := Aside0.mk hst
            have HC := Aside0.mk (Kd.C_below hC0 h4)
            clear h2 h4 h5 hst hC0 g0
            go_wp2_with ((with_reducible refine gate_builtin (b := .append) (xs := #[.tmp 31, .tmp 32]) rfl ?_); at_builtin; refine Kd.R_append_rows (Kd.int .i64) (w0 := w) w.heap.size rfl (.tmp 31) (.tmp 32) 23 3 (.int .i64 0) 8 rfl Try.underlying23 info3 rfl (by decide) (by omega) _ xs ys _ _ _ (fun _ => True) (fun _ => False) rfl rfl H5.out HC.out (fun _ _ h => h) (fun _ h => h.elim) (fun _ _ => trivial) H4.out H4.out.size HL.out ?_; intro v6 w6 ho hb hg hat; have HO6 := Aside0.mk ho; have HB6 := Aside0.mk hb; clear ho hb hg hat)
            go_roundg (l0.length - (kk + 1))
            case measure => have := H2.out; omega
            case rel => exact ⟨kk + 1, v6, ⟨⟨by omega, by omega, HB6.out, by rw [HST.out]; exact HO6.out⟩⟩, rfl, by rw [show wrap64 ((kk : Int) + 1) = ((kk + 1 : Nat) : Int) by unfold wrap64; have := HS.out.1; omega]⟩
          · have hltz : ¬ (kk : Int) < (l0.length : Int) := by omega
            obtain rfl : kk = l0.length := by omega
            rw [List.take_length] at h5
            have H4 := Aside0.mk h4
            have H5 := Aside0.mk h5
            clear h2 h4 h5
            go_wp2
            go_ret
            exact ⟨_, rfl, H5.out, H4.out⟩
  · rw [if_neg hs] at h; cases h
end



/-! ### impl_ChainOfPlan: function 29 -/
section
def impl_increasing.f (l : List Int) : Option (List Int) := if 0 < l.length ∧ l.length ≤ 1000000000 then some (Go.Lib.compact (l.mergeSort fun x y => decide (x ≤ y))) else none
set_option maxHeartbeats 2000000 in
set_option maxRecDepth 100000 in
/-- increasing, at a row of the call's own. -/
theorem impl_increasing.own {base : Nat} {w0 w : World} {ok : Nat → Prop} {v : Value} {l r : List Int} (hB : Below base w0 w) (ho : Kd.R (Kd.int .i64) 3 w base ok v l) (h : impl_increasing.f l = some r) :
    Calls Try.prog 70 #[v] w fun e w' => ∃ v' : Value, e = .returned v' ∧ Kd.R (Kd.int .i64) 3 w' base ok v' r ∧ Below base w0 w' := by
  unfold impl_increasing.f at h
  by_cases c : 0 < l.length ∧ l.length ≤ 1000000000
  · rw [if_pos c] at h
    have HI := Aside0.mk (Option.some.inj h)
    obtain ⟨hp, hs⟩ := c
    have hl : (l.mergeSort fun x y => decide (x ≤ y)).length = l.length := List.length_mergeSort l
    have HP := Aside0.mk (show 0 < (l.mergeSort fun x y => decide (x ≤ y)).length by rw [hl]; exact hp)
    have HSRT := Aside0.mk (Go.Proofs.YtdcdaoancmpbeaaS.sort_f112 hB ho hp (Nat.lt_of_le_of_lt hs (by decide)))
    clear hB ho hp hs hl h
    obtain ⟨m, hm⟩ : ∃ m, (l.mergeSort fun x y => decide (x ≤ y)) = m := ⟨_, rfl⟩
    rw [hm] at HP HSRT HI
    clear hm
    go_enter Try.func70, Try.ntmps70
    go_wp2_with (first | (go_at_call 112; refine HSRT.out.mono ?_; rintro e w1 ⟨rfl, ho, hb⟩; have HO1 := Aside0.mk ho; have HB1 := Aside0.mk hb; clear ho hb) | (go_at_call 113; refine (Go.Proofs.YtdcdaoancmpbeaaS.comp_f113 HB1.out HO1.out HP.out (Go.Lib.compact_length_le _)).mono ?_; rintro e w2 ⟨v2, rfl, ho, hb⟩; have HO2 := Aside0.mk ho; have HB2 := Aside0.mk hb; clear ho hb))
    go_ret
    exact ⟨_, rfl, by rw [← HI.out]; exact HO2.out, HB2.out⟩
  · rw [if_neg c] at h; cases h
def impl_ChainOfPlan.j0 : Nat → Bool → Int → List (S73) → List Int → Option (List Int × Bool)
  | 0, _, _, _, _ => none
  | k + 1, x11, x288000, x288001, x288002 => if x11 = true then (some (([] : List Int), false)) else ((impl_Plan_exponents.f k x288000 x288001 x288002).bind fun t289 => ((slices_Concat_int_int.f t289).bind fun t292 => ((impl_increasing.f t292).bind fun t295 => (some (t295, true)))))
def impl_ChainOfPlan.f (k : Nat) (a0_0 : Int) (l0_1 : List (S73)) (l0_2 : List Int) : Option (List Int × Bool) := (impl_IsPlan.f k a0_0 l0_1 l0_2).bind fun t288 => (if t288 = true then (impl_ChainOfPlan.j0 k (a0_0 != 1) a0_0 l0_1 l0_2) else (impl_ChainOfPlan.j0 k true a0_0 l0_1 l0_2))
theorem impl_ChainOfPlan.mono_l : ∀ k, (∀ y0 y1 y2 y3, LeO (impl_ChainOfPlan.j0 k y0 y1 y2 y3) (impl_ChainOfPlan.j0 (k + 1) y0 y1 y2 y3))
  | 0 => fun _ _ _ _ r h => by simp [impl_ChainOfPlan.j0] at h
  | k + 1 => by
    have ih0 := impl_ChainOfPlan.mono_l k
    · intro y0 y1 y2 y3
      unfold impl_ChainOfPlan.j0
      repeat' first
      | (with_reducible exact ih0 _ _ _ _)
      | (with_reducible exact impl_IsPlan.mono _ _ _ _)
      | (with_reducible exact impl_Plan_exponents.mono _ _ _ _)
      | (with_reducible exact LeO.refl _)
      | (with_reducible exact LeO.none _)
      | (with_reducible refine LeO.ite ?_ ?_)
      | (with_reducible refine LeO.bind ?_ (fun _ => ?_))
      | exact ih0 _ _ _ _
      | exact impl_IsPlan.mono _ _ _ _
      | exact impl_Plan_exponents.mono _ _ _ _
      | exact LeO.none _
      | refine LeO.ite ?_ ?_
      | refine LeO.bind ?_ (fun _ => ?_)
theorem impl_ChainOfPlan.mono : ∀ a0 a1 a2 k, LeO (impl_ChainOfPlan.f k a0 a1 a2) (impl_ChainOfPlan.f (k + 1) a0 a1 a2) := by
  intro a0 a1 a2 k
  have ih0 := impl_ChainOfPlan.mono_l k
  unfold impl_ChainOfPlan.f
  repeat' first
      | (with_reducible exact ih0 _ _ _ _)
      | (with_reducible exact impl_IsPlan.mono _ _ _ _)
      | (with_reducible exact impl_Plan_exponents.mono _ _ _ _)
      | (with_reducible exact LeO.refl _)
      | (with_reducible exact LeO.none _)
      | (with_reducible refine LeO.ite ?_ ?_)
      | (with_reducible refine LeO.bind ?_ (fun _ => ?_))
      | exact ih0 _ _ _ _
      | exact impl_IsPlan.mono _ _ _ _
      | exact impl_Plan_exponents.mono _ _ _ _
      | exact LeO.none _
      | refine LeO.ite ?_ ?_
      | refine LeO.bind ?_ (fun _ => ?_)
set_option maxHeartbeats 8000000 in
set_option maxRecDepth 100000 in
theorem impl_ChainOfPlan.calls (k : Nat) (a0_0 : Int) (A0_1 : Option Addr) (c0_1 : Nat) (l0_1 : List (S73)) (A0_2 : Option Addr) (c0_2 : Nat) (l0_2 : List Int) (r1 : List Int) (r2 : Bool) (w : World) (hr0_1 : Kd.C k73 w A0_1 l0_1.length l0_1) (hc0_1 : l0_1.length ≤ c0_1) (hr0_2 : Kd.C (Kd.int .i64) w A0_2 l0_2.length l0_2) (hc0_2 : l0_2.length ≤ c0_2) (h : impl_ChainOfPlan.f k a0_0 l0_1 l0_2 = some (r1, r2)) :
    Calls Try.prog 29 #[.agg #[.int .i64 a0_0, .slice A0_1 l0_1.length c0_1, .slice A0_2 l0_2.length c0_2]] w fun e w' => ∃ v0_ : Value, e = .returned (.tuple #[v0_, .bool r2]) ∧ Kd.R (Kd.int .i64) 3 w' w.heap.size (fun _ => True) v0_ r1 ∧ Below w.heap.size w w' := by
  have hu29 := Try.underlying29
  have HR0_1 := Aside0.mk hr0_1
  have HC0_1 := Aside0.mk hc0_1
  clear hr0_1 hc0_1
  have HR0_2 := Aside0.mk hr0_2
  have HC0_2 := Aside0.mk hc0_2
  clear hr0_2 hc0_2
  have HB := Aside0.mk (Below.refl w.heap.size w)
  have H : ((impl_IsPlan.f k a0_0 l0_1 l0_2).bind fun t288 => (if t288 = true then (impl_ChainOfPlan.j0 k (a0_0 != 1) a0_0 l0_1 l0_2) else (impl_ChainOfPlan.j0 k true a0_0 l0_1 l0_2))) = some (r1, r2) := h
  clear h
  have HC2 := Aside0.mk H
  clear H
  go_enter Try.func29, Try.ntmps29
  go_upto_region 1 with (first | ((with_reducible refine gate_dst (N := 1) rfl ?_); refine box_event ?hg (N := 1) ?hd (cs := #[.int .i64 a0_0, .slice A0_1 l0_1.length c0_1, .slice A0_2 l0_2.length c0_2]) (t := 29) ?hr ?_; (case hd => rfl); (case hg => rfl); (case hr => first | (go_simp; done) | (go_simp; rfl)); intro gb287 hg w3 hbox hb; have n0_ := Aside0.mk (below_step (by repeat (first | (with_reducible first | exact HB.out | apply below_alloc | apply pw_below_drewN | apply below_drew1) | exact HB.out)) hb); have n1_ := Aside0.mk (hbox); have n2_ := Aside0.mk ((by rw [hg]; exact (below_size (by repeat (first | (with_reducible first | exact HB.out | apply below_alloc | apply pw_below_drewN | apply below_drew1) | exact HB.out))) : w.heap.size ≤ gb287)); have n3_ := Aside0.mk ((by rw [hg]; exact (below_size (by repeat (first | (with_reducible first | exact HB.out | apply below_alloc | apply pw_below_drewN | apply below_drew1) | exact HB.out))) : w.heap.size ≤ gb287)); clear HB; have HB := n0_; have BK287 := n1_; have GW287 := n2_; have GE287 := n3_; clear n0_ n1_ n2_ n3_; clear hb hbox hg))
  (try simp only [Act.put, List.setIfInBounds_toArray, List.set_cons_zero, List.set_cons_succ])
  go_cut [11] (fun v11 wc => ∃ (kq : Nat) (x11_1 : Bool), v11 = .bool x11_1 ∧ Aside0 (impl_ChainOfPlan.j0 kq x11_1 a0_0 l0_1 l0_2 = some (r1, r2)) ∧ Aside0 (kq ≤ k) ∧ Aside0 (wc.heap[gb287]? = some (.cells #[.int .i64 a0_0, (.slice A0_1 l0_1.length c0_1), (.slice A0_2 l0_2.length c0_2)] 29 (0, 0))) ∧ Aside0 (Below w.heap.size w wc))
  case first =>
    have H := HC2.out
    clear HC2
    replace H := Option.bind_eq_some_iff.mp H
    obtain ⟨t288, A40, H⟩ := H
    replace H : (if t288 = true then (impl_ChainOfPlan.j0 k (a0_0 != 1) a0_0 l0_1 l0_2) else (impl_ChainOfPlan.j0 k true a0_0 l0_1 l0_2)) = some (r1, r2) := H
    have A4 := Aside0.mk A40
    clear A40
    by_cases c5 : t288 = true
    · subst c5
      have H1 : (impl_ChainOfPlan.j0 k (a0_0 != 1) a0_0 l0_1 l0_2) = some (r1, r2) := by rw [if_pos rfl] at H; exact H
      clear H
      have H := H1
      clear H1
      have H' := Aside0.mk H
      clear H
      have hcz6_0 : w3.cell? ⟨gb287, 0, none⟩ = some (.int .i64 a0_0) := (blk_cell BK287.out 0).trans rfl
      have hcz6_1 : w3.cell? ⟨gb287, 1, none⟩ = some (.slice A0_1 l0_1.length c0_1) := (blk_cell BK287.out 1).trans rfl
      have hcz6_2 : w3.cell? ⟨gb287, 2, none⟩ = some (.slice A0_2 l0_2.length c0_2) := (blk_cell BK287.out 2).trans rfl
      have hfz6_0 := blk_frozen BK287.out 0
      have hfz6_1 := blk_frozen BK287.out 1
      have hfz6_2 := blk_frozen BK287.out 2
      go_wp2_with (first | ((with_reducible refine gate_callee (f := 44) rfl ?_); refine goesL_ (some 5) rfl rfl Try.func44 (by kernel_rfl) rfl #[.agg #[.int .i64 a0_0, .slice A0_1 l0_1.length c0_1, .slice A0_2 l0_2.length c0_2]] rfl (by (try simp only [List.map_toArray, List.map_cons, List.map_nil]); first | done | rfl | (simp only [List.length_drop, List.length_take]; rfl)) ?_; (with_reducible refine (impl_IsPlan.calls k a0_0 _ _ l0_1 _ _ l0_2 true _ ?side1 ?side2 ?side3 ?side4 A4.out).mono ?_); (case side1 => repeat (first | exact (Kd.C_below HR0_1.out HB.out) | (with_reducible refine Kd.C_alloc ?_ _) | (with_reducible refine Kd.C_drewN ?_ _) | (with_reducible refine Kd.C_drew ?_))); (case side2 => exact HC0_1.out); (case side3 => repeat (first | exact (Kd.C_below HR0_2.out HB.out) | (with_reducible refine Kd.C_alloc ?_ _) | (with_reducible refine Kd.C_drewN ?_ _) | (with_reducible refine Kd.C_drew ?_))); (case side4 => exact HC0_2.out); rintro e w7 ⟨rfl, hb⟩; refine ⟨_, rfl, ?_⟩; have n0_ := Aside0.mk (blk_below (g := gb287) (o := .cells #[.int .i64 a0_0, .slice A0_1 l0_1.length c0_1, .slice A0_2 l0_2.length c0_2] 29 (0, 0)) (by (with_reducible repeat (first | refine blk_drewN ?_ _ | refine blk_drew ?_ | refine blk_alloc ?_ _)); exact BK287.out) hb); have n1_ := Aside0.mk (below_step (by repeat (first | (with_reducible first | exact HB.out | apply below_alloc | apply pw_below_drewN | apply below_drew1 | refine below_set ?_ GE287.out) | exact HB.out)) hb); clear BK287; clear HB; have BK287 := n0_; have HB := n1_; clear n0_ n1_; (try clear hb); have hcz8_0 : w7.cell? ⟨gb287, 0, none⟩ = some (.int .i64 a0_0) := (blk_cell BK287.out 0).trans rfl; have hcz8_1 : w7.cell? ⟨gb287, 1, none⟩ = some (.slice A0_1 l0_1.length c0_1) := (blk_cell BK287.out 1).trans rfl; have hcz8_2 : w7.cell? ⟨gb287, 2, none⟩ = some (.slice A0_2 l0_2.length c0_2) := (blk_cell BK287.out 2).trans rfl; have hfz8_0 := blk_frozen BK287.out 0; have hfz8_1 := blk_frozen BK287.out 1; have hfz8_2 := blk_frozen BK287.out 2))
      go_meet
      case rel => exact ⟨_, ((a0_0 != 1)), (by first | rfl | (simp; done) | (simp [*]; done)), H', ⟨by first | omega | exact Nat.le_refl _⟩, ⟨by (with_reducible repeat (first | refine blk_drewN ?_ _ | refine blk_drew ?_ | refine blk_alloc ?_ _)); exact BK287.out⟩, ⟨by repeat (first | (with_reducible first | exact HB.out | apply below_alloc | apply pw_below_drewN | apply below_drew1 | refine below_set ?_ GE287.out) | exact HB.out)⟩⟩
    · replace c5 := Bool.eq_false_iff.mpr c5
      subst c5
      have H1 : (impl_ChainOfPlan.j0 k true a0_0 l0_1 l0_2) = some (r1, r2) := by rw [if_neg (show ¬ (false = true) by decide)] at H; exact H
      clear H
      have H := H1
      clear H1
      have H' := Aside0.mk H
      clear H
      have hcz9_0 : w3.cell? ⟨gb287, 0, none⟩ = some (.int .i64 a0_0) := (blk_cell BK287.out 0).trans rfl
      have hcz9_1 : w3.cell? ⟨gb287, 1, none⟩ = some (.slice A0_1 l0_1.length c0_1) := (blk_cell BK287.out 1).trans rfl
      have hcz9_2 : w3.cell? ⟨gb287, 2, none⟩ = some (.slice A0_2 l0_2.length c0_2) := (blk_cell BK287.out 2).trans rfl
      have hfz9_0 := blk_frozen BK287.out 0
      have hfz9_1 := blk_frozen BK287.out 1
      have hfz9_2 := blk_frozen BK287.out 2
      go_wp2_with (first | ((with_reducible refine gate_callee (f := 44) rfl ?_); refine goesL_ (some 5) rfl rfl Try.func44 (by kernel_rfl) rfl #[.agg #[.int .i64 a0_0, .slice A0_1 l0_1.length c0_1, .slice A0_2 l0_2.length c0_2]] rfl (by (try simp only [List.map_toArray, List.map_cons, List.map_nil]); first | done | rfl | (simp only [List.length_drop, List.length_take]; rfl)) ?_; (with_reducible refine (impl_IsPlan.calls k a0_0 _ _ l0_1 _ _ l0_2 false _ ?side1 ?side2 ?side3 ?side4 A4.out).mono ?_); (case side1 => repeat (first | exact (Kd.C_below HR0_1.out HB.out) | (with_reducible refine Kd.C_alloc ?_ _) | (with_reducible refine Kd.C_drewN ?_ _) | (with_reducible refine Kd.C_drew ?_))); (case side2 => exact HC0_1.out); (case side3 => repeat (first | exact (Kd.C_below HR0_2.out HB.out) | (with_reducible refine Kd.C_alloc ?_ _) | (with_reducible refine Kd.C_drewN ?_ _) | (with_reducible refine Kd.C_drew ?_))); (case side4 => exact HC0_2.out); rintro e w10 ⟨rfl, hb⟩; refine ⟨_, rfl, ?_⟩; have n0_ := Aside0.mk (blk_below (g := gb287) (o := .cells #[.int .i64 a0_0, .slice A0_1 l0_1.length c0_1, .slice A0_2 l0_2.length c0_2] 29 (0, 0)) (by (with_reducible repeat (first | refine blk_drewN ?_ _ | refine blk_drew ?_ | refine blk_alloc ?_ _)); exact BK287.out) hb); have n1_ := Aside0.mk (below_step (by repeat (first | (with_reducible first | exact HB.out | apply below_alloc | apply pw_below_drewN | apply below_drew1 | refine below_set ?_ GE287.out) | exact HB.out)) hb); clear BK287; clear HB; have BK287 := n0_; have HB := n1_; clear n0_ n1_; (try clear hb)))
      go_meet
      case rel => exact ⟨_, (true), (by first | rfl | (simp; done) | (simp [*]; done)), H', ⟨by first | omega | exact Nat.le_refl _⟩, ⟨by (with_reducible repeat (first | refine blk_drewN ?_ _ | refine blk_drew ?_ | refine blk_alloc ?_ _)); exact BK287.out⟩, ⟨by repeat (first | (with_reducible first | exact HB.out | apply below_alloc | apply pw_below_drewN | apply below_drew1 | refine below_set ?_ GE287.out) | exact HB.out)⟩⟩
  case rest =>
    clear HC2
    try clear c2
    try clear p2
    try clear c4
    try clear c5
    try clear hcz6_0
    try clear hcz6_1
    try clear hcz6_2
    try clear hcz8_0
    try clear hcz8_1
    try clear hcz8_2
    try clear hcz9_0
    try clear hcz9_1
    try clear hcz9_2
    try clear hfz6_0
    try clear hfz6_1
    try clear hfz6_2
    try clear hfz8_0
    try clear hfz8_1
    try clear hfz8_2
    try clear hfz9_0
    try clear hfz9_1
    try clear hfz9_2
    obtain ⟨kq, x11_1, rfl, HA, HJ1, BK287, HB⟩ := hcut
    cases kq with
    | zero => exact absurd HA.out (by simp [impl_ChainOfPlan.j0])
    | succ kj1 =>
      have H := HA.out
      clear HA
      simp only [impl_ChainOfPlan.j0] at H
      by_cases c11 : x11_1 = true
      · subst c11
        have H1 : (some (([] : List Int), false)) = some (r1, r2) := by rw [if_pos rfl] at H; exact H
        clear H
        have H := H1
        clear H1
        simp only [Option.some.injEq, Prod.mk.injEq] at H
        obtain ⟨rfl, rfl⟩ := H
        go_wp2
        go_ret2
        exact ⟨_, by first | rfl | (simp [errW_none, errW_some] <;> rfl) | (simp [*, errW_none, errW_some] <;> rfl), by first | exact Kd.R_nil _ _ _ _ _ | exact Kd.N_nil _ _ _ _ _ | exact Kd.V_nil _ _ _ _ _ | exact Kd.Q_nil _ _ _ _ _ | exact Kd.S_nil _ _ _ _ _, by repeat (first | (with_reducible first | exact HB.out | apply below_alloc | apply pw_below_drewN | apply below_drew1 | refine below_set ?_ GE287.out) | exact HB.out)⟩
      · replace c11 := Bool.eq_false_iff.mpr c11
        subst c11
        have H1 : ((impl_Plan_exponents.f kj1 a0_0 l0_1 l0_2).bind fun t289 => ((slices_Concat_int_int.f t289).bind fun t292 => ((impl_increasing.f t292).bind fun t295 => (some (t295, true))))) = some (r1, r2) := by rw [if_neg (show ¬ (false = true) by decide)] at H; exact H
        clear H
        have H := H1
        clear H1
        replace H := Option.bind_eq_some_iff.mp H
        obtain ⟨t289, A120, H⟩ := H
        replace H : ((slices_Concat_int_int.f t289).bind fun t292 => ((impl_increasing.f t292).bind fun t295 => (some (t295, true)))) = some (r1, r2) := H
        have A12 := Aside0.mk A120
        clear A120
        replace H := Option.bind_eq_some_iff.mp H
        obtain ⟨t292, A130, H⟩ := H
        replace H : ((impl_increasing.f t292).bind fun t295 => (some (t295, true))) = some (r1, r2) := H
        have A13 := Aside0.mk A130
        clear A130
        replace H := Option.bind_eq_some_iff.mp H
        obtain ⟨t295, A140, H⟩ := H
        replace H : (some (t295, true)) = some (r1, r2) := H
        have A14 := Aside0.mk A140
        clear A140
        simp only [Option.some.injEq, Prod.mk.injEq] at H
        obtain ⟨rfl, rfl⟩ := H
        go_wp2_with (first | ((with_reducible refine gate_callee (f := 72) rfl ?_); refine goesL_ (some 12) rfl rfl Try.func72 (by kernel_rfl) rfl #[.pointer (some ⟨gb287, 0, none⟩)] rfl (by (try simp only [List.map_toArray, List.map_cons, List.map_nil]); first | done | rfl | (simp only [List.length_drop, List.length_take]; rfl)) ?_; (with_reducible refine (impl_Plan_exponents.calls kj1 gb287 a0_0 A0_1 c0_1 l0_1 A0_2 c0_2 l0_2 t289 _ ?side1 ?side2 ?side3 ?side4 ?side5 A12.out).mono ?_); (case side1 => exact by (with_reducible repeat (first | refine blk_drewN ?_ _ | refine blk_drew ?_ | refine blk_alloc ?_ _)); exact BK287.out); (case side2 => repeat (first | exact (Kd.C_below HR0_1.out HB.out) | (with_reducible refine Kd.C_alloc ?_ _) | (with_reducible refine Kd.C_drewN ?_ _) | (with_reducible refine Kd.C_drew ?_))); (case side3 => exact HC0_1.out); (case side4 => repeat (first | exact (Kd.C_below HR0_2.out HB.out) | (with_reducible refine Kd.C_alloc ?_ _) | (with_reducible refine Kd.C_drewN ?_ _) | (with_reducible refine Kd.C_drew ?_))); (case side5 => exact HC0_2.out); rintro e w15 ⟨v290, rfl, ho0, hb⟩; refine ⟨_, rfl, ?_⟩; have n0_ := Aside0.mk (Kd.S_lower ho0 (below_size (by repeat (first | (with_reducible first | exact HB.out | apply below_alloc | apply pw_below_drewN | apply below_drew1 | refine below_set ?_ GE287.out) | exact HB.out)))); have n1_ := Aside0.mk (blk_below (g := gb287) (o := .cells #[.int .i64 a0_0, .slice A0_1 l0_1.length c0_1, .slice A0_2 l0_2.length c0_2] 29 (0, 0)) (by (with_reducible repeat (first | refine blk_drewN ?_ _ | refine blk_drew ?_ | refine blk_alloc ?_ _)); exact BK287.out) hb); have n2_ := Aside0.mk (below_step (by repeat (first | (with_reducible first | exact HB.out | apply below_alloc | apply pw_below_drewN | apply below_drew1 | refine below_set ?_ GE287.out) | exact HB.out)) hb); clear BK287; clear HB; have HO291 := n0_; have BK287 := n1_; have HB := n2_; clear n0_ n1_ n2_; (try clear hb); (try clear ho0); obtain ⟨Ao16, co16, eo16⟩ := Kd.S_slice HO291.out; subst eo16) | ((with_reducible refine gate_callee (f := 71) rfl ?_); refine goesL_ (some 13) rfl rfl Try.func71 (by kernel_rfl) rfl #[.slice Ao16 t289.length co16] rfl (by (try simp only [List.map_toArray, List.map_cons, List.map_nil]); first | done | rfl | (simp only [List.length_drop, List.length_take]; rfl)) ?_; (with_reducible refine (slices_Concat_int_int.calls _ _ t289 t292 _ ?side1 ?side2 A13.out).mono ?_); (case side1 => repeat (first | exact (Kd.S_reads' HO291.out).2.2 | (with_reducible refine Kd.C_alloc ?_ _) | (with_reducible refine Kd.C_drewN ?_ _) | (with_reducible refine Kd.C_drew ?_))); (case side2 => exact (Kd.S_reads' HO291.out).2.1); rintro e w17 ⟨v293, rfl, ho0, hb⟩; refine ⟨_, rfl, ?_⟩; have n0_ := Aside0.mk (Kd.S_elder' (by (with_reducible repeat (first | apply Kd.S_alloc | apply Kd.S_drewN | apply Kd.S_drew)); exact HO291.out) (Kd.R_base ho0) hb); have n1_ := Aside0.mk (Kd.R_lower ho0 (below_size (by repeat (first | (with_reducible first | exact HB.out | apply below_alloc | apply pw_below_drewN | apply below_drew1 | refine below_set ?_ GE287.out) | exact HB.out)))); have n2_ := Aside0.mk (blk_below (g := gb287) (o := .cells #[.int .i64 a0_0, .slice A0_1 l0_1.length c0_1, .slice A0_2 l0_2.length c0_2] 29 (0, 0)) (by (with_reducible repeat (first | refine blk_drewN ?_ _ | refine blk_drew ?_ | refine blk_alloc ?_ _)); exact BK287.out) hb); have n3_ := Aside0.mk (below_step (by repeat (first | (with_reducible first | exact HB.out | apply below_alloc | apply pw_below_drewN | apply below_drew1 | refine below_set ?_ GE287.out) | exact HB.out)) hb); clear HO291; clear BK287; clear HB; have HO291 := n0_; have HO294 := n1_; have BK287 := n2_; have HB := n3_; clear n0_ n1_ n2_ n3_; (try clear hb); (try clear ho0); obtain ⟨Ao18, co18, eo18⟩ := Kd.R_slice HO294.out; subst eo18) | ((with_reducible refine gate_callee (f := 70) rfl ?_); refine goesL_ (some 14) rfl rfl Try.func70 (by kernel_rfl) rfl #[.slice Ao18 t292.length co18] rfl (by (try simp only [List.map_toArray, List.map_cons, List.map_nil]); first | done | rfl | (simp only [List.length_drop, List.length_take]; rfl)) ?_; refine (impl_increasing.own (base := w.heap.size) (w0 := w) HB.out HO294.out A14.out).mono ?_; rintro e w19 ⟨v296, rfl, ho0, hb⟩; refine ⟨_, rfl, ?_⟩; clear HO291 HO294 BK287 HB; have HO297 := Aside0.mk ho0; have HB := Aside0.mk hb; (try clear hb); (try clear ho0)))
        go_ret2
        exact ⟨_, by first | rfl | (simp [errW_none, errW_some] <;> rfl) | (simp [*, errW_none, errW_some] <;> rfl), by (with_reducible repeat (first | apply Kd.R_alloc | apply Kd.R_drewN | apply Kd.R_drew)); exact Kd.R_mono HO297.out (fun _ hk => trivial), by repeat (first | (with_reducible first | exact HB.out | apply below_alloc | apply pw_below_drewN | apply below_drew1 | refine below_set ?_ GE287.out) | exact HB.out)⟩
end


end Go.Proofs.Ytdcdaoancmpbeaa.MFnExactChainOfPlan
