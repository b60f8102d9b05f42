-- Written by wip/mine.py (a program of this repo) for this claim.
import Derived.Test.YtopkiccdfmjjjaaMFnExactFirstExponentsx0
import Derived.Test.YtopkiccdfmjjjaaMFnExactFirstExponentsx5
import Derived.Test.YtopkiccdfmjjjaaMFnExactFirstExponentsx1
import Derived.Test.YtopkiccdfmjjjaaMFnExactFirstExponentsx2
import Derived.Test.YtopkiccdfmjjjaaMFnExactFirstExponentsx3
import Derived.Test.YtopkiccdfmjjjaaMFnExactFirstExponentsx4
namespace Go.Proofs.Ytopkiccdfmjjjaa.MFnExactFirstExponents
open Go.RowKit Go.Proofs.YtopkiccdfmjjjaaW.PrintWords Go.Proofs.YtopkiccdfmjjjaaW.PrintLast Go.Proofs.YtopkiccdfmjjjaaW.PrintMore Go.Proofs.YtopkiccdfmjjjaaV
attribute [local go_sem] max2_int min2_int max_two min_two max_three min_three max_four min_four   -- for this text's walks alone
set_option linter.unusedVariables false
set_option linter.unusedSimpArgs false

/-! ### slices_Max_int_int: function 59 -/
def slices_Max_int_int.l0 : Nat → List Int → Int → Int → Option (Int)
  | 0, _, _, _ => none
  | k + 1, x0, x3, x4 => if x4 < (x0.length : Int) then (if 0 ≤ x4 then (slices_Max_int_int.l0 k x0 (mx x3 (rd x0 x4)) (wrap64 (x4 + 1))) else (none)) else (some x3)
def slices_Max_int_int.f (k : Nat) (l0 : List Int) : Option (Int) := if (l0.length : Int) < 1 then (none) else (if 0 < (l0.length : Int) then (slices_Max_int_int.l0 k l0 (rd l0 0) 1) else (none))
theorem slices_Max_int_int.mono_l : ∀ k, (∀ y0 y1 y2, LeO (slices_Max_int_int.l0 k y0 y1 y2) (slices_Max_int_int.l0 (k + 1) y0 y1 y2))
  | 0 => fun _ _ _ r h => by simp [slices_Max_int_int.l0] at h
  | k + 1 => by
    have ih0 := slices_Max_int_int.mono_l k
    · intro y0 y1 y2
      unfold slices_Max_int_int.l0
      repeat' first
      | (with_reducible exact ih0 _ _ _)
      | (with_reducible exact LeO.refl _)
      | (with_reducible exact LeO.none _)
      | (with_reducible refine LeO.ite ?_ ?_)
      | (with_reducible refine LeO.bind ?_ (fun _ => ?_))
      | exact ih0 _ _ _
      | exact LeO.none _
      | refine LeO.ite ?_ ?_
      | refine LeO.bind ?_ (fun _ => ?_)
theorem slices_Max_int_int.mono : ∀ a0 k, LeO (slices_Max_int_int.f k a0) (slices_Max_int_int.f (k + 1) a0) := by
  intro a0 k
  have ih0 := slices_Max_int_int.mono_l k
  unfold slices_Max_int_int.f
  repeat' first
      | (with_reducible exact ih0 _ _ _)
      | (with_reducible exact LeO.refl _)
      | (with_reducible exact LeO.none _)
      | (with_reducible refine LeO.ite ?_ ?_)
      | (with_reducible refine LeO.bind ?_ (fun _ => ?_))
      | exact ih0 _ _ _
      | exact LeO.none _
      | refine LeO.ite ?_ ?_
      | refine LeO.bind ?_ (fun _ => ?_)
set_option maxHeartbeats 8000000 in
set_option maxRecDepth 100000 in
theorem slices_Max_int_int.calls (k : Nat) (A0 : Option Addr) (c0 : Nat) (l0 : List Int) (r : Int) (w : World) (hr0 : Kd.C (Kd.int .i64) w A0 l0.length l0) (hc0 : l0.length ≤ c0) (h : slices_Max_int_int.f k l0 = some r) :
    Calls Try.prog 59 #[.slice A0 l0.length c0] w fun e w' => e = .returned (.int .i64 r) ∧ Below w.heap.size w w' := by
  have HR0 := Aside0.mk hr0
  have HC0 := Aside0.mk hc0
  clear hr0 hc0
  have HB := Aside0.mk (Below.refl w.heap.size w)
  have H : (if (l0.length : Int) < 1 then (none) else (if 0 < (l0.length : Int) then (slices_Max_int_int.l0 k l0 (rd l0 0) 1) else (none))) = some r := h
  clear h
  by_cases c2 : (l0.length : Int) < 1
  · rw [if_pos c2] at H
    exact absurd H (by simp)
  · rw [if_neg c2] at H
    have c2b0 : decide ((l0.length : Int) < 1) = false := decide_eq_false c2
    have c2b1 : decide (l0.length < 1) = false := decide_eq_false (by omega)
    clear c2
    by_cases c3 : 0 < (l0.length : Int)
    · rw [if_pos c3] at H
      have c3b0 : decide (0 < (l0.length : Int)) = true := decide_eq_true c3
      have c3b1 : decide (0 < l0.length) = true := decide_eq_true (by omega)
      clear c3
      have H' := Aside0.mk H
      clear H
      have p228 : 0 ≤ (0 : Int) := (by omega)
      have q228 : 0 < (l0.length : Int) := of_decide_eq_true (by first | (with_reducible assumption) | assumption)
      obtain ⟨ad228, e228, hx228_0⟩ := Kd.at_int HR0.out 0 p228 q228
      cases e228
      have qi228 : (0 < l0.length) = True := eq_true (by omega)
      (try rw [show ((0 : Int)).toNat = 0 from rfl] at hx228_0)
      (try rw [Addr.add_zero'] at hx228_0)
      replace p228 := eq_true p228
      replace q228 := eq_true q228
      go_enter Try.func59, Try.ntmps59
      go_wp2
      go_loopg [3, 4] k (fun kq v3 v4 w' => ∃ (x3_1 : Int) (x4_1 : Int), v3 = .int .i64 x3_1 ∧ v4 = .int .i64 x4_1 ∧ Aside0 (slices_Max_int_int.l0 kq l0 x3_1 x4_1 = some r) ∧ Aside0 (kq ≤ k) ∧ Aside0 (Below w.heap.size w w'))
      case atStart => exact ⟨(rd l0 0), (1), (by first | rfl | (simp; done) | (simp [*]; done)), (by first | rfl | (simp; done) | (simp [*]; done)), H', ⟨Nat.le_refl _⟩, ⟨by repeat (first | (with_reducible first | exact HB.out | apply below_alloc | apply pw_below_drewN | apply below_drew1) | exact HB.out)⟩⟩
      case round =>
        clear H'
        try clear c2
        try clear c2b0
        try clear c2b1
        try clear p2
        try clear q2
        try clear hx2
        try clear qi2
        try clear c3
        try clear c3b0
        try clear c3b1
        try clear hx228_0
        try clear p228
        try clear q228
        obtain ⟨x3_1, x4_1, rfl, rfl, HA, HK1, HB⟩ := hrel
        cases gk with
        | zero => exact absurd HA.out (by simp [slices_Max_int_int.l0])
        | succ k1 =>
          have H := HA.out
          clear HA
          simp only [slices_Max_int_int.l0] at H
          by_cases c4 : x4_1 < (l0.length : Int)
          · rw [if_pos c4] at H
            have c4b0 : decide (x4_1 < (l0.length : Int)) = true := decide_eq_true c4
            clear c4
            by_cases c5 : 0 ≤ x4_1
            · rw [if_pos c5] at H
              have c5b0 : decide (0 ≤ x4_1) = true := decide_eq_true c5
              clear c5
              obtain ⟨ji6, hji6⟩ : ∃ j_ : Int, (mx x3_1 (rd l0 x4_1)) = j_ := ⟨_, rfl⟩
              replace H : (slices_Max_int_int.l0 k1 l0 ji6 (wrap64 (x4_1 + 1))) = some r := by first | (rw [hji6] at H; exact H) | (simp only [hji6] at H ⊢; exact H)
              have hji6_ : (if x3_1 < (rd l0 x4_1) then (rd l0 x4_1) else x3_1) = ji6 := hji6
              have H' := Aside0.mk H
              clear H
              have p229 : 0 ≤ (x4_1 : Int) := of_decide_eq_true (by first | (with_reducible assumption) | assumption)
              have q229 : x4_1 < (l0.length : Int) := of_decide_eq_true (by first | (with_reducible assumption) | assumption)
              obtain ⟨ad229, e229, hx229_0⟩ := Kd.at_int HR0.out x4_1 p229 q229
              obtain rfl : ad228 = ad229 := (by injection e229)
              replace hx229_0 := (HB.out.cell (World.block_lt_of_cell? w _ hx229_0)).trans hx229_0
              replace p229 := eq_true p229
              replace q229 := eq_true q229
              go_wp2
              go_roundg k1
              case measure => have := HK1.out; omega
              case rel => exact ⟨(ji6), (wrap64 (x4_1 + 1)), (by first | rfl | (simp; done) | (simp only [← hji6] <;> (first | rfl | simp)) | (simp [*]; done)), (by first | rfl | (simp; done) | (simp [*]; done)), H', ⟨by have := HK1.out; omega⟩, ⟨by repeat (first | (with_reducible first | exact HB.out | apply below_alloc | apply pw_below_drewN | apply below_drew1) | exact HB.out)⟩⟩
            · rw [if_neg c5] at H
              exact absurd H (by simp)
          · rw [if_neg c4] at H
            have c4b0 : decide (x4_1 < (l0.length : Int)) = false := decide_eq_false c4
            clear c4
            obtain rfl := Option.some.inj H
            go_wp2
            go_ret
            exact ⟨by first | rfl | (simp [errW_none, errW_some] <;> rfl) | (simp [*, errW_none, errW_some] <;> rfl), by repeat (first | (with_reducible first | exact HB.out | apply below_alloc | apply pw_below_drewN | apply below_drew1) | exact HB.out)⟩
    · rw [if_neg c3] at H
      exact absurd H (by simp)

/-! ### impl_in: function 64 -/
def impl_in.f (a0 : Int) (a1 : Int) (a2 : Int) : Option (Bool) := if a0 ≥ a1 then (some (decide (a0 ≤ a2))) else (some false)
set_option maxHeartbeats 8000000 in
set_option maxRecDepth 100000 in
theorem impl_in.calls (a0 : Int) (a1 : Int) (a2 : Int) (r : Bool) (w : World) (h : impl_in.f a0 a1 a2 = some r) :
    Calls Try.prog 64 #[.int .i64 a0, .int .i64 a1, .int .i64 a2] w fun e w' => e = .returned (.bool r) ∧ Drawn0 w w' := by
  have H : (if a0 ≥ a1 then (some (decide (a0 ≤ a2))) else (some false)) = some r := h
  clear h
  by_cases c4 : a0 ≥ a1
  · rw [if_pos c4] at H
    have c4b0 : decide (a1 ≤ a0) = true := decide_eq_true c4
    clear c4
    obtain rfl := Option.some.inj H
    go_enter Try.func64, Try.ntmps64
    go_wp2
    go_ret
    exact ⟨by first | rfl | (simp; done) | (simp [*]; done), by repeat (first | exact Drawn0.refl _ | apply Drawn0.step)⟩
  · rw [if_neg c4] at H
    have c4b0 : decide (a1 ≤ a0) = false := decide_eq_false c4
    clear c4
    obtain rfl := Option.some.inj H
    go_enter Try.func64, Try.ntmps64
    go_wp2
    go_ret
    exact ⟨by first | rfl | (simp; done) | (simp [*]; done), by repeat (first | exact Drawn0.refl _ | apply Drawn0.step)⟩

/-! ### impl_Plan_many: function 65 -/
def impl_Plan_many.f (a0_0 : Int) (l0_1 : List (S69)) (l0_2 : List Int) : Option (Int) := some (wrap64 (a0_0 + (l0_1.length : Int)))
set_option maxHeartbeats 8000000 in
set_option maxRecDepth 100000 in
theorem impl_Plan_many.calls (g0_ : Nat) (a0_0 : Int) (A0_1 : Option Addr) (c0_1 : Nat) (l0_1 : List (S69)) (A0_2 : Option Addr) (c0_2 : Nat) (l0_2 : List Int) (r : Int) (w : World) (hx0_ : w.heap[g0_]? = some (.cells #[.int .i64 a0_0, .slice A0_1 l0_1.length c0_1, .slice A0_2 l0_2.length c0_2] 30 (0, 0))) (hr0_1 : Kd.C k69 w A0_1 l0_1.length l0_1) (hc0_1 : l0_1.length ≤ c0_1) (hr0_2 : Kd.C (Kd.int .i64) w A0_2 l0_2.length l0_2) (hc0_2 : l0_2.length ≤ c0_2) (h : impl_Plan_many.f a0_0 l0_1 l0_2 = some r) :
    Calls Try.prog 65 #[.pointer (some ⟨g0_, 0, none⟩)] w fun e w' => e = .returned (.int .i64 r) ∧ Below w.heap.size w w' := by
  have HR0_1 := Aside0.mk hr0_1
  have HC0_1 := Aside0.mk hc0_1
  clear hr0_1 hc0_1
  have HR0_2 := Aside0.mk hr0_2
  have HC0_2 := Aside0.mk hc0_2
  clear hr0_2 hc0_2
  have BK0 := Aside0.mk hx0_
  clear hx0_
  have HB := Aside0.mk (Below.refl w.heap.size w)
  have H : (some (wrap64 (a0_0 + (l0_1.length : Int)))) = some r := h
  clear h
  obtain rfl := Option.some.inj H
  have hcz2_0 : w.cell? ⟨g0_, 0, none⟩ = some (.int .i64 a0_0) := (blk_cell BK0.out 0).trans rfl
  have hcz2_1 : w.cell? ⟨g0_, 1, none⟩ = some (.slice A0_1 l0_1.length c0_1) := (blk_cell BK0.out 1).trans rfl
  have hcz2_2 : w.cell? ⟨g0_, 2, none⟩ = some (.slice A0_2 l0_2.length c0_2) := (blk_cell BK0.out 2).trans rfl
  have hfz2_0 := blk_frozen BK0.out 0
  have hfz2_1 := blk_frozen BK0.out 1
  have hfz2_2 := blk_frozen BK0.out 2
  go_enter Try.func65, Try.ntmps65
  go_wp2
  repeat (go_quiet (fail); try go_wp2)
  go_ret
  exact ⟨by first | rfl | (simp [errW_none, errW_some] <;> rfl) | (simp [*, errW_none, errW_some] <;> rfl), by repeat (first | (with_reducible first | exact HB.out | apply below_alloc | apply pw_below_drewN | apply below_drew1 | refine below_set ?_ GE0.out) | exact HB.out)⟩


/-! ### impl_IsPlan: function 18 -/
def impl_IsPlan.steps (n : Int) (ss : List (S69)) : Nat → Nat → Bool
  | 0, _ => true
  | d + 1, i => if (rd_T69 ss i).f0 < 0 then false else if (rd_T69 ss i).f0 > (rd_T69 ss i).f1 then false else if (rd_T69 ss i).f1 ≥ n + i then false else impl_IsPlan.steps n ss d (i + 1)
def impl_IsPlan.outs (n : Int) (ss : List (S69)) (os : List Int) (j : Nat) : Bool := !(decide (0 ≤ rd os j) && decide (rd os j ≤ n + ss.length - 1))
def impl_IsPlan.formed (n : Int) (ss : List (S69)) (os : List Int) : Bool :=
  if 1 ≤ n ∧ n ≤ 6 then (if ss.length ≤ 40 then (if os.length ≤ 6 then (if impl_IsPlan.steps n ss ss.length 0 = true then !(Go.Proofs.YtopkiccdfmjjjaaH.anyIx (impl_IsPlan.outs n ss os) os.length 0) else false) else false) else false) else false
def impl_IsPlan.IsP (w0 W : World) (g : Nat) (n : Int) (ss : List (S69)) (os : List Int) : Prop := ∃ A1 c1 A2 c2, W.heap[g]? = some (.cells #[.int .i64 n, .slice A1 ss.length c1, .slice A2 os.length c2] 30 (0, 0)) ∧ w0.heap.size ≤ g ∧ Kd.C k69 w0 A1 ss.length ss ∧ Kd.C (Kd.int .i64) w0 A2 os.length os
theorem impl_IsPlan.IsP.below {w0 W W1 : World} {g : Nat} {n : Int} {ss : List (S69)} {os : List Int} (h : impl_IsPlan.IsP w0 W g n ss os) (hw : Below W.heap.size W W1) : impl_IsPlan.IsP w0 W1 g n ss os := by
  obtain ⟨A1, c1, A2, c2, hb, r⟩ := h
  exact ⟨A1, c1, A2, c2, (hw.block g (blk_lt hb)).trans hb, r⟩
set_option maxHeartbeats 2000000 in
set_option maxRecDepth 100000 in
theorem impl_IsPlan.many_reads (g : Nat) (n : Int) (ss : List S69) (os : List Int) (w0 w : World) (hI : impl_IsPlan.IsP w0 w g n ss os) :
    Calls Try.prog 65 #[.pointer (some ⟨g, 0, none⟩)] w fun e w' => e = .returned (.int .i64 (wrap64 (n + ss.length))) ∧ Drawn0 w w' := by
  obtain ⟨A1, c1, A2, c2, HG, hge, HS1, HS2⟩ := hI
  have hc0 : w.cell? ⟨g, 0, none⟩ = some (.int .i64 n) := (blk_cell HG 0).trans rfl
  have hc1 : w.cell? ⟨g, 1, none⟩ = some (.slice A1 ss.length c1) := (blk_cell HG 1).trans rfl
  have hc2 : w.cell? ⟨g, 2, none⟩ = some (.slice A2 os.length c2) := (blk_cell HG 2).trans rfl
  have hf := blk_frozen HG 0
  clear HG hge
  go_enter Try.func65, Try.ntmps65
  go_wp2
  repeat (go_quiet (fail); try go_wp2)
  go_ret
  exact ⟨rfl, by repeat (first | exact Drawn0.refl _ | apply Drawn0.step)⟩

set_option maxHeartbeats 2000000 in
set_option maxRecDepth 100000 in
theorem impl_IsPlan.out_calls (B g : Nat) (n : Int) (ss : List S69) (os : List Int) (w0 w : World) (v : Int) (hI : impl_IsPlan.IsP w0 w g n ss os) (hc : w.cell? ⟨B, 0, none⟩ = some (.pointer (some ⟨g, 0, none⟩))) (h1 : 1 ≤ n) (h2 : n ≤ 6) (h3 : ss.length ≤ 40) :
    Calls Try.prog 91 #[.int .i64 v, .pointer (some ⟨B, 0, none⟩)] w fun e w' => e = .returned (.bool (!(decide (0 ≤ v) && decide (v ≤ n + ss.length - 1)))) ∧ Below w.heap.size w w' := by
  obtain ⟨r, hr⟩ : ∃ r, r = (decide (0 ≤ v) && decide (v ≤ n + ss.length - 1)) := ⟨_, rfl⟩
  have hin : impl_in.f v 0 (n + ss.length - 1) = some r := by
    unfold impl_in.f
    by_cases c : v ≥ 0
    · rw [if_pos c, hr, decide_eq_true (show 0 ≤ v from c), Bool.true_and]
    · rw [if_neg c, hr, decide_eq_false (show ¬ 0 ≤ v from c), Bool.false_and]
  rw [← hr]
  have HM := Aside0.mk (impl_IsPlan.many_reads g n ss os w0 w hI)
  have HIN := Aside0.mk hin
  clear hr hin hI
  have e1 : wrap64 (n + (ss.length : Int)) = n + ss.length := by unfold wrap64; omega
  have e2 : wrap64 (n + (ss.length : Int) - 1) = n + ss.length - 1 := by unfold wrap64; omega
  generalize n + (ss.length : Int) = m at *
  go_enter Try.func91, Try.ntmps91
  go_wp2_with (first | (go_at_call 65; refine HM.out.mono ?_; rw [e1]; rintro e w1 ⟨rfl, hd1⟩; have HD1 := Aside0.mk hd1; clear hd1) | (go_at_call 64; refine (impl_in.calls _ _ _ r _ (by first | exact HIN.out | (rw [e2]; exact HIN.out))).mono ?_; rintro e w2 ⟨rfl, hd2⟩; have HD2 := Aside0.mk hd2; clear hd2))
  go_ret
  exact ⟨rfl, HD1.out.below.trans (HD2.out.below.mono HD1.out.below.size)⟩
set_option maxHeartbeats 2000000 in
set_option maxRecDepth 100000 in
theorem impl_IsPlan.formed_calls (g : Nat) (n : Int) (ss : List S69) (os : List Int) (w0 w : World) (hI : impl_IsPlan.IsP w0 w g n ss os) (hB : Below w0.heap.size w0 w) :
    Calls Try.prog 55 #[.pointer (some ⟨g, 0, none⟩)] w fun e w' => e = .returned (.bool (impl_IsPlan.formed n ss os)) ∧ Below w.heap.size w w' := by
  obtain ⟨r, hr⟩ : ∃ r, r = impl_IsPlan.formed n ss os := ⟨_, rfl⟩
  rw [← hr]
  unfold impl_IsPlan.formed at hr
  obtain ⟨A1, cc1, A2, cc2, HG, hge, HS1, HS2⟩ := id hI
  have hc0 : w.cell? ⟨g, 0, none⟩ = some (.int .i64 n) := (blk_cell HG 0).trans rfl
  have hc1 : w.cell? ⟨g, 1, none⟩ = some (.slice A1 ss.length cc1) := (blk_cell HG 1).trans rfl
  have hc2 : w.cell? ⟨g, 2, none⟩ = some (.slice A2 os.length cc2) := (blk_cell HG 2).trans rfl
  have HI := Aside0.mk hI
  clear HG hI hge
  by_cases c1 : 1 ≤ n ∧ n ≤ 6
  · rw [if_pos c1] at hr
    have HIN := Aside0.mk (show impl_in.f n 1 6 = some true by unfold impl_in.f; rw [if_pos c1.1, decide_eq_true c1.2])
    by_cases c2 : ss.length ≤ 40
    · rw [if_pos c2] at hr
      have b2 : decide ((40 : Int) < (ss.length : Int)) = false := by rw [decide_eq_false_iff_not]; omega
      by_cases c3 : os.length ≤ 6
      · rw [if_pos c3] at hr
        have b3 : decide ((6 : Int) < (os.length : Int)) = false := by rw [decide_eq_false_iff_not]; omega
        have HR := Aside0.mk hr
        clear hr
        have HS := Aside0.mk HS1
        have HO := Aside0.mk HS2
        have HBB := Aside0.mk hB
        clear HS1 HS2 hB
        go_enter Try.func55, Try.ntmps55
        go_wp2_with (first | ((with_reducible refine gate_dst (N := 1) rfl ?_); refine box_event ?hg (N := 1) ?hd (cs := #[.pointer (some ⟨g, 0, none⟩)]) (t := 80) ?hr ?_; (case hd => rfl); (case hg => rfl); (case hr => first | (go_simp; done) | (go_simp; rfl)); intro gb hg w4 hbox hb; have d0 := pw_cell_below hb hc0; have d1 := pw_cell_below hb hc1; have d2 := pw_cell_below hb hc2; have db : w4.cell? ⟨gb, 0, none⟩ = some (.pointer (some ⟨g, 0, none⟩)) := (blk_cell hbox 0).trans rfl; have HGB := Aside0.mk hg; have HB := Aside0.mk hb; clear hb hbox hg) | (go_at_call 64; refine (impl_in.calls _ _ _ _ _ HIN.out).mono ?_; rintro e w2 ⟨rfl, hd2⟩; have HD2 := Aside0.mk hd2.below; replace d0 := pw_cell_below hd2.below d0; replace d1 := pw_cell_below hd2.below d1; replace d2 := pw_cell_below hd2.below d2; replace db := pw_cell_below hd2.below db; clear hd2))
        go_loopg [32] ss.length (fun gg s32 wr => ∃ kk : Nat, Aside0 (kk ≤ ss.length ∧ ss.length - kk ≤ gg ∧ (r = if impl_IsPlan.steps n ss (ss.length - kk) kk = true then !(Go.Proofs.YtopkiccdfmjjjaaH.anyIx (impl_IsPlan.outs n ss os) os.length 0) else false) ∧ Below w2.heap.size w2 wr) ∧ s32 = .int .i64 kk)
        case atStart => exact ⟨0, ⟨⟨Nat.zero_le _, by omega, HR.out, Below.refl _ _⟩⟩, rfl⟩
        case round =>
          obtain ⟨kk, HK, rfl⟩ := hrel
          obtain ⟨h1, h2, h3, hb⟩ := HK.out
          clear HK
          have HB2 := Aside0.mk ((HBB.out.trans (HB.out.mono HBB.out.size)).trans (HD2.out.mono (Nat.le_trans HBB.out.size HB.out.size)))
          replace d0 := pw_cell_below hb d0
          replace d1 := pw_cell_below hb d1
          replace d2 := pw_cell_below hb d2
          replace db := pw_cell_below hb db
          by_cases hlt : kk < ss.length
          · have hltz : (kk : Int) < (ss.length : Int) := by omega
            obtain ⟨ad, e1, hx0, hx1⟩ := at_T69 HS.out (kk : Int) (by omega) hltz
            subst e1
            rw [Int.toNat_natCast] at hx0 hx1
            replace hx0 := pw_cell_below hb (pw_cell_below HB2.out hx0)
            replace hx1 := pw_cell_below hb (pw_cell_below HB2.out hx1)
            obtain ⟨m, hm⟩ : ∃ m, ss.length - kk = m + 1 := ⟨ss.length - kk - 1, by omega⟩
            rw [hm, impl_IsPlan.steps] at h3
            generalize (rd_T69 ss kk).f0 = a at *
            generalize (rd_T69 ss kk).f1 = b at *
            have HBR := Aside0.mk hb
            have HM := Aside0.mk hm
            have H2 := Aside0.mk h2
            have e2 : wrap64 (n + (kk : Int)) = n + kk := by unfold wrap64; omega
            have HW := Aside0.mk (HB.out.trans (HD2.out.mono HB.out.size))
            have d0a : (wr.alloc (Obj.cells #[.int .i64 a, .int .i64 b] 69)).cell? ⟨g, 0, none⟩ = some (.int .i64 n) := pw_cell_below (below_alloc (Below.refl _ _) _) d0
            have dba : (wr.alloc (Obj.cells #[.int .i64 a, .int .i64 b] 69)).cell? ⟨gb, 0, none⟩ = some (.pointer (some ⟨g, 0, none⟩)) := pw_cell_below (below_alloc (Below.refl _ _) _) db
            clear hb hm h2
            by_cases k1 : a < 0
            · rw [if_pos k1] at h3
              have H3 := Aside0.mk (show r = false from h3)
              clear h3
              have b4 : decide (a < 0) = true := decide_eq_true k1
              go_wp2
              repeat (go_quiet (fail); try go_wp2)
              go_ret
              refine ⟨by rw [H3.out]; rfl, HW.out.trans (Below.mono ?_ HW.out.size)⟩
              repeat (first | exact HBR.out | apply below_alloc | apply below_drew1 | apply pw_below_drewN)
            · rw [if_neg k1] at h3
              have b4 : decide (a < 0) = false := decide_eq_false k1
              by_cases k2 : a > b
              · rw [if_pos k2] at h3
                have H3 := Aside0.mk (show r = false from h3)
                clear h3
                have b5 : decide (b < a) = true := decide_eq_true k2
                go_wp2
                repeat (go_quiet (fail); try go_wp2)
                go_ret
                refine ⟨by rw [H3.out]; rfl, HW.out.trans (Below.mono ?_ HW.out.size)⟩
                repeat (first | exact HBR.out | apply below_alloc | apply below_drew1 | apply pw_below_drewN)
              · rw [if_neg k2] at h3
                have b5 : decide (b < a) = false := decide_eq_false k2
                by_cases k3 : b ≥ n + kk
                · rw [if_pos k3] at h3
                  have H3 := Aside0.mk (show r = false from h3)
                  clear h3
                  have b6 : decide (n + (kk : Int) ≤ b) = true := decide_eq_true k3
                  have b7 : decide (wrap64 (n + (kk : Int)) ≤ b) = true := by rw [e2]; exact b6
                  go_wp2
                  repeat (go_quiet (fail); try go_wp2)
                  go_ret
                  refine ⟨by rw [H3.out]; rfl, HW.out.trans (Below.mono ?_ HW.out.size)⟩
                  repeat (first | exact HBR.out | apply below_alloc | apply below_drew1 | apply pw_below_drewN)
                · rw [if_neg k3] at h3
                  have H3 := Aside0.mk h3
                  clear h3
                  have b6 : decide (n + (kk : Int) ≤ b) = false := decide_eq_false k3
                  have b7 : decide (wrap64 (n + (kk : Int)) ≤ b) = false := by rw [e2]; exact b6
                  go_wp2
                  repeat (go_quiet (fail); try go_wp2)
                  go_roundg (ss.length - (kk + 1))
                  case measure => have := H2.out; have := HM.out; omega
                  case rel =>
                    refine ⟨kk + 1, ⟨⟨by omega, by omega, ?_, ?_⟩⟩, by go_num⟩
                    · rw [show ss.length - (kk + 1) = m by have := HM.out; omega]
                      exact H3.out
                    · repeat (first | exact HBR.out | apply below_alloc | apply below_drew1 | apply pw_below_drewN)
          · have hltz : ¬ (kk : Int) < (ss.length : Int) := by omega
            obtain rfl : kk = ss.length := by omega
            rw [Nat.sub_self, impl_IsPlan.steps, if_pos rfl] at h3
            have HBR := Aside0.mk hb
            have H3 := Aside0.mk h3
            have HW := Aside0.mk (HB.out.trans (HD2.out.mono HB.out.size))
            have HA := fun (hp : 0 < os.length) => (show ∃ ad : Addr, A2 = some ad ∧ ∀ j, j < os.length → wr.cell? (ad.add j) = some (Value.int .i64 (rd os j)) from by
              obtain ⟨ad, e, _⟩ := Kd.at_int HO.out (0 : Int) (by omega) (by omega)
              subst e
              refine ⟨ad, rfl, fun j hj => ?_⟩
              obtain ⟨ad', e', h'⟩ := Kd.at_int HO.out (j : Int) (by omega) (by omega)
              obtain rfl : ad = ad' := by injection e'
              rw [Int.toNat_natCast] at h'
              exact pw_cell_below hb (pw_cell_below HB2.out h'))
            have HP := fun (j : Nat) (hj : j < os.length) (W : World) (hW : Below wr.heap.size wr W) => impl_IsPlan.out_calls gb g n ss os w0 W (rd os j) (impl_IsPlan.IsP.below (impl_IsPlan.IsP.below (impl_IsPlan.IsP.below (impl_IsPlan.IsP.below HI.out HB.out) HD2.out) hb) hW) (pw_cell_below hW db) c1.1 c1.2 c2
            have HC := Aside0.mk (Go.Proofs.YtopkiccdfmjjjaaH.contains_f110 wr A2 os.length cc2 (fun j => .int .i64 (rd os j)) (impl_IsPlan.outs n ss os) 91 #[.pointer (some ⟨gb, 0, none⟩)] (enters_of Try.func91 (by kernel_rfl) rfl) (by omega) HA HP)
            clear h3 hb HA HP h2
            go_wp2_with (go_at_call 84; refine HC.out.mono ?_; rintro e w6 ⟨rfl, hb6⟩; have HB6 := Aside0.mk hb6; clear hb6)
            go_ret
            refine ⟨?_, HW.out.trans ((HBR.out.trans (HB6.out.mono HBR.out.size)).mono HW.out.size)⟩
            rw [H3.out]
            rfl
      · rw [if_neg c3] at hr
        subst hr
        have b3 : decide ((6 : Int) < (os.length : Int)) = true := by rw [decide_eq_true_iff]; omega
        clear HS1 HS2 hB
        go_enter Try.func55, Try.ntmps55
        go_wp2_with (first | ((with_reducible refine gate_dst (N := 1) rfl ?_); refine box_event ?hg (N := 1) ?hd (cs := #[.pointer (some ⟨g, 0, none⟩)]) (t := 80) ?hr ?_; (case hd => rfl); (case hg => rfl); (case hr => first | (go_simp; done) | (go_simp; rfl)); intro gb hg w4 hbox hb; have d0 := pw_cell_below hb hc0; have d1 := pw_cell_below hb hc1; have d2 := pw_cell_below hb hc2; have db : w4.cell? ⟨gb, 0, none⟩ = some (.pointer (some ⟨g, 0, none⟩)) := (blk_cell hbox 0).trans rfl; have HGB := Aside0.mk hg; have HB := Aside0.mk hb; clear hb hbox hg) | (go_at_call 64; refine (impl_in.calls _ _ _ _ _ HIN.out).mono ?_; rintro e w2 ⟨rfl, hd2⟩; have HD2 := Aside0.mk hd2.below; replace d0 := pw_cell_below hd2.below d0; replace d1 := pw_cell_below hd2.below d1; replace d2 := pw_cell_below hd2.below d2; replace db := pw_cell_below hd2.below db; clear hd2))
        go_ret
        exact ⟨rfl, HB.out.trans (HD2.out.mono HB.out.size)⟩
    · rw [if_neg c2] at hr
      subst hr
      have b2 : decide ((40 : Int) < (ss.length : Int)) = true := by rw [decide_eq_true_iff]; omega
      clear HS1 HS2 hB
      go_enter Try.func55, Try.ntmps55
      go_wp2_with (first | ((with_reducible refine gate_dst (N := 1) rfl ?_); refine box_event ?hg (N := 1) ?hd (cs := #[.pointer (some ⟨g, 0, none⟩)]) (t := 80) ?hr ?_; (case hd => rfl); (case hg => rfl); (case hr => first | (go_simp; done) | (go_simp; rfl)); intro gb hg w4 hbox hb; have d0 := pw_cell_below hb hc0; have d1 := pw_cell_below hb hc1; have d2 := pw_cell_below hb hc2; have db : w4.cell? ⟨gb, 0, none⟩ = some (.pointer (some ⟨g, 0, none⟩)) := (blk_cell hbox 0).trans rfl; have HGB := Aside0.mk hg; have HB := Aside0.mk hb; clear hb hbox hg) | (go_at_call 64; refine (impl_in.calls _ _ _ _ _ HIN.out).mono ?_; rintro e w2 ⟨rfl, hd2⟩; have HD2 := Aside0.mk hd2.below; replace d0 := pw_cell_below hd2.below d0; replace d1 := pw_cell_below hd2.below d1; replace d2 := pw_cell_below hd2.below d2; replace db := pw_cell_below hd2.below db; clear hd2))
      go_ret
      exact ⟨rfl, HB.out.trans (HD2.out.mono HB.out.size)⟩
  · rw [if_neg c1] at hr
    subst hr
    have HIN := Aside0.mk (show impl_in.f n 1 6 = some false by unfold impl_in.f; by_cases h : n ≥ 1; rw [if_pos h, decide_eq_false (by omega)]; rw [if_neg h])
    clear HS1 HS2 hB
    go_enter Try.func55, Try.ntmps55
    go_wp2_with (first | ((with_reducible refine gate_dst (N := 1) rfl ?_); refine box_event ?hg (N := 1) ?hd (cs := #[.pointer (some ⟨g, 0, none⟩)]) (t := 80) ?hr ?_; (case hd => rfl); (case hg => rfl); (case hr => first | (go_simp; done) | (go_simp; rfl)); intro gb hg w4 hbox hb; have d0 := pw_cell_below hb hc0; have d1 := pw_cell_below hb hc1; have d2 := pw_cell_below hb hc2; have db : w4.cell? ⟨gb, 0, none⟩ = some (.pointer (some ⟨g, 0, none⟩)) := (blk_cell hbox 0).trans rfl; have HGB := Aside0.mk hg; have HB := Aside0.mk hb; clear hb hbox hg) | (go_at_call 64; refine (impl_in.calls _ _ _ _ _ HIN.out).mono ?_; rintro e w2 ⟨rfl, hd2⟩; have HD2 := Aside0.mk hd2.below; replace d0 := pw_cell_below hd2.below d0; replace d1 := pw_cell_below hd2.below d1; replace d2 := pw_cell_below hd2.below d2; replace db := pw_cell_below hd2.below db; clear hd2))
    go_ret
    exact ⟨rfl, HB.out.trans (HD2.out.mono HB.out.size)⟩
/-- Is some row's greatest number too great. -/
def impl_IsPlan.top (k : Nat) : List (List Int) → Option Bool
  | [] => some false
  | x :: xs => (slices_Max_int_int.f k x).bind fun m => (impl_IsPlan.top k xs).bind fun b => some (decide (m > 1000000) || b)
theorem impl_IsPlan.top_mono : ∀ (k : Nat) (xs : List (List Int)), LeO (impl_IsPlan.top k xs) (impl_IsPlan.top (k + 1) xs)
  | _, [] => LeO.refl _
  | k, x :: xs => LeO.bind (slices_Max_int_int.mono _ _) (fun _ => LeO.bind (impl_IsPlan.top_mono k xs) (fun _ => LeO.refl _))
def impl_IsPlan.pv (k : Nat) (rows : List (List Int)) (j : Nat) : Bool := match slices_Max_int_int.f k (Go.Proofs.YtopkiccdfmjjjaaH.rdRow rows j) with
  | some m => decide (m > 1000000)
  | none => false
theorem impl_IsPlan.top_any (k : Nat) (rows : List (List Int)) : ∀ (xs : List (List Int)) (i : Nat) (b : Bool), (∀ j : Nat, j < xs.length → Go.Proofs.YtopkiccdfmjjjaaH.rdRow rows ((i + j : Nat) : Int) = xs.getD j []) → impl_IsPlan.top k xs = some b → (∀ j : Nat, j < xs.length → ∃ m, slices_Max_int_int.f k (Go.Proofs.YtopkiccdfmjjjaaH.rdRow rows ((i + j : Nat) : Int)) = some m) ∧ Go.Proofs.YtopkiccdfmjjjaaH.anyIx (impl_IsPlan.pv k rows) xs.length i = b
  | [], i, b, _, h => by
    rw [impl_IsPlan.top] at h
    exact ⟨fun j hj => absurd hj (Nat.not_lt_zero _), Option.some.inj h⟩
  | x :: xs, i, b, hx, h => by
    rw [impl_IsPlan.top] at h
    obtain ⟨m, h1, h⟩ := Option.bind_eq_some_iff.mp h
    obtain ⟨b', h2, h⟩ := Option.bind_eq_some_iff.mp h
    have h0 := hx 0 (Nat.succ_pos _)
    rw [Nat.add_zero] at h0
    have hg : (x :: xs).getD 0 [] = x := rfl
    rw [hg] at h0
    obtain ⟨k1, k2⟩ := impl_IsPlan.top_any k rows xs (i + 1) b' (fun j hj => by
      have := hx (j + 1) (Nat.succ_lt_succ hj)
      rw [show i + 1 + j = i + (j + 1) by omega, this]; rfl) h2
    refine ⟨fun j hj => ?_, ?_⟩
    · cases j with
      | zero => exact ⟨m, by rw [Nat.add_zero, h0]; exact h1⟩
      | succ j =>
        have := k1 j (Nat.lt_of_succ_lt_succ hj)
        rwa [show i + 1 + j = i + (j + 1) by omega] at this
    · have hp : impl_IsPlan.pv k rows i = decide (m > 1000000) := by unfold impl_IsPlan.pv; rw [h0, h1]
      rw [List.length_cons, Go.Proofs.YtopkiccdfmjjjaaH.anyIx, hp, k2]
      have := Option.some.inj h
      rw [← this]
      cases decide (m > 1000000) <;> rfl
set_option maxHeartbeats 2000000 in
set_option maxRecDepth 100000 in
theorem impl_IsPlan.row_calls (k : Nat) (A : Option Addr) (c : Nat) (l : List Int) (m : Int) (w : World) (hr : Kd.C (Kd.int .i64) w A l.length l) (hc : l.length ≤ c) (h : slices_Max_int_int.f k l = some m) :
    Calls Try.prog 58 #[.slice A l.length c] w fun e w' => e = .returned (.bool (decide (m > 1000000))) ∧ Below w.heap.size w w' := by
  have HX := Aside0.mk (slices_Max_int_int.calls k A c l m w hr hc h)
  obtain ⟨b, hb⟩ : ∃ b, decide (m > 1000000) = b := ⟨_, rfl⟩
  have hb' : decide (1000000 < m) = b := hb
  rw [hb]
  clear hr h hb
  go_enter Try.func58, Try.ntmps58
  go_wp2_with (go_at_call 59; refine HX.out.mono ?_; rintro e w1 ⟨rfl, hd1⟩; have HD1 := Aside0.mk hd1; clear hd1)
  go_ret
  exact ⟨rfl, HD1.out⟩
def impl_IsPlan.elOf (w : World) (A : Option Addr) (j : Nat) : Value := match A with | some ad => (w.cell? (ad.add j)).getD (.bool false) | none => .bool false
theorem impl_IsPlan.elOf_some {w : World} {ad : Addr} {j : Nat} {v : Value} (h : w.cell? (ad.add j) = some v) : impl_IsPlan.elOf w (some ad) j = v := by show (w.cell? (ad.add j)).getD (.bool false) = v; rw [h]; rfl
theorem impl_IsPlan.some_calls (k : Nat) (rows : List (List Int)) (b : Bool) (base : Nat) (ok : Nat → Prop) (v : Value) (w : World) (hS : Kd.S (Kd.slice 3 (Kd.int .i64)) 23 w base ok v rows) (h : impl_IsPlan.top k rows = some b) :
    Calls Try.prog 56 #[v, .func (.func 58) #[] #[]] w fun e w' => e = .returned (.bool b) ∧ Below w.heap.size w w' := by
  obtain ⟨A, c, rfl⟩ := Kd.S_slice hS
  obtain ⟨k1, k2⟩ := impl_IsPlan.top_any k rows rows 0 b (fun j _ => by unfold Go.Proofs.YtopkiccdfmjjjaaH.rdRow; rw [Nat.zero_add, Int.toNat_natCast]) h
  rw [← k2]
  have hR := (Kd.S_reads' hS).2.2
  refine Go.Proofs.YtopkiccdfmjjjaaH.contains_f92 w A rows.length c (impl_IsPlan.elOf w A) (impl_IsPlan.pv k rows) 58 #[] (enters_of Try.func58 (by kernel_rfl) rfl) (Kd.C_max hR) (fun hp => ?_) (fun j hj W hW => ?_)
  · obtain ⟨ad, _, _, e, _⟩ := Go.Proofs.YtopkiccdfmjjjaaH.at_row hR 0 (by omega) (by omega)
    subst e
    refine ⟨ad, rfl, fun j hj => ?_⟩
    obtain ⟨ad', A', c', e', h', _⟩ := Go.Proofs.YtopkiccdfmjjjaaH.at_row hR (j : Int) (by omega) (by omega)
    obtain rfl : ad = ad' := by injection e'
    rw [Int.toNat_natCast] at h'
    rw [impl_IsPlan.elOf_some h']
    exact h'
  · obtain ⟨ad', A', c', e', h', hl', hC⟩ := Go.Proofs.YtopkiccdfmjjjaaH.at_row hR (j : Int) (by omega) (by omega)
    subst e'
    rw [Int.toNat_natCast] at h'
    obtain ⟨m, hm⟩ := k1 j hj
    rw [Nat.zero_add] at hm
    rw [impl_IsPlan.elOf_some h']
    have hp : impl_IsPlan.pv k rows j = decide (m > 1000000) := by unfold impl_IsPlan.pv; rw [hm]
    rw [hp]
    exact impl_IsPlan.row_calls k A' c' (Go.Proofs.YtopkiccdfmjjjaaH.rdRow rows j) m W (Kd.C_below hC hW) hl' hm
def impl_IsPlan.f (k : Nat) (n : Int) (ss : List S69) (os : List Int) : Option Bool := if impl_IsPlan.formed n ss os = true then ((impl_Plan_exponents.f k n ss os).bind fun t => (impl_IsPlan.top k t).bind fun b => some (!b)) else some false
theorem impl_IsPlan.mono : ∀ n ss os k, LeO (impl_IsPlan.f k n ss os) (impl_IsPlan.f (k + 1) n ss os) := by
  intro n ss os k
  unfold impl_IsPlan.f
  exact LeO.ite (LeO.bind (impl_Plan_exponents.mono _ _ _ _) (fun _ => LeO.bind (impl_IsPlan.top_mono _ _) (fun _ => LeO.refl _))) (LeO.refl _)
set_option maxHeartbeats 2000000 in
set_option maxRecDepth 100000 in
theorem impl_IsPlan.calls (k : Nat) (a0_0 : Int) (A0_1 : Option Addr) (c0_1 : Nat) (l0_1 : List S69) (A0_2 : Option Addr) (c0_2 : Nat) (l0_2 : List Int) (r : Bool) (w : World) (hr0_1 : Kd.C k69 w A0_1 l0_1.length l0_1) (hc0_1 : l0_1.length ≤ c0_1) (hr0_2 : Kd.C (Kd.int .i64) w A0_2 l0_2.length l0_2) (hc0_2 : l0_2.length ≤ c0_2) (h : impl_IsPlan.f k a0_0 l0_1 l0_2 = some r) :
    Calls Try.prog 18 #[.agg #[.int .i64 a0_0, .slice A0_1 l0_1.length c0_1, .slice A0_2 l0_2.length c0_2]] w fun e w' => e = .returned (.bool r) ∧ Below w.heap.size w w' := by
  unfold impl_IsPlan.f at h
  by_cases cf : impl_IsPlan.formed a0_0 l0_1 l0_2 = true
  · rw [if_pos cf] at h
    obtain ⟨rows, he, h⟩ := Option.bind_eq_some_iff.mp h
    obtain ⟨b, ht, h⟩ := Option.bind_eq_some_iff.mp h
    obtain rfl := Option.some.inj h
    have HE := Aside0.mk he
    have HT := Aside0.mk ht
    have HN := Aside0.mk (show ∀ W g, impl_IsPlan.IsP w W g a0_0 l0_1 l0_2 → Below w.heap.size w W → Calls Try.prog 55 #[.pointer (some ⟨g, 0, none⟩)] W fun e w' => e = .returned (.bool true) ∧ Below W.heap.size W w' from fun W g h1 h2 => by have := impl_IsPlan.formed_calls g a0_0 l0_1 l0_2 w W h1 h2; rwa [cf] at this)
    have HR1 := Aside0.mk hr0_1
    have HR2 := Aside0.mk hr0_2
    clear h he ht cf hr0_1 hr0_2
    go_enter Try.func18, Try.ntmps18
    go_wp2_with (first | ((with_reducible refine gate_dst (N := 1) rfl ?_); refine box_event ?hg (N := 1) ?hd (cs := #[.int .i64 a0_0, .slice A0_1 l0_1.length c0_1, .slice A0_2 l0_2.length c0_2]) (t := 30) ?hr ?_; (case hd => rfl); (case hg => rfl); (case hr => first | (go_simp; done) | (go_simp; rfl)); intro gb hg w4 hbox hb; have HI := Aside0.mk (show impl_IsPlan.IsP w w4 gb a0_0 l0_1 l0_2 from ⟨A0_1, c0_1, A0_2, c0_2, hbox, (by rw [hg]; exact Nat.le_refl _), HR1.out, HR2.out⟩); have HB := Aside0.mk hb; have HBX := Aside0.mk hbox; clear hb hbox hg) | (go_at_call 55; refine (HN.out _ gb HI.out HB.out).mono ?_; rintro e w5 ⟨rfl, hb5⟩; have HBX5 := Aside0.mk ((hb5.block gb (blk_lt HBX.out)).trans HBX.out); have HB5 := Aside0.mk (HB.out.trans (hb5.mono HB.out.size)); clear hb5) | (go_at_call 57; refine (impl_Plan_exponents.calls k gb a0_0 A0_1 c0_1 l0_1 A0_2 c0_2 l0_2 rows _ HBX5.out (Kd.C_below HR1.out HB5.out) hc0_1 (Kd.C_below HR2.out HB5.out) hc0_2 HE.out).mono ?_; rintro e w6 ⟨v, rfl, hS, hB6⟩; have HS := Aside0.mk hS; have HB6 := Aside0.mk (HB5.out.trans (hB6.mono HB5.out.size)); clear hS hB6) | (go_at_call 56; refine (impl_IsPlan.some_calls k rows b _ _ _ _ HS.out HT.out).mono ?_; rintro e w7 ⟨rfl, hb7⟩; have HB7 := Aside0.mk (HB6.out.trans (hb7.mono HB6.out.size)); clear hb7))
    go_ret
    exact ⟨rfl, HB7.out⟩
  · rw [if_neg cf] at h
    obtain rfl := Option.some.inj h
    replace cf := Bool.eq_false_iff.mpr cf
    have HN := Aside0.mk (show ∀ W g, impl_IsPlan.IsP w W g a0_0 l0_1 l0_2 → Below w.heap.size w W → Calls Try.prog 55 #[.pointer (some ⟨g, 0, none⟩)] W fun e w' => e = .returned (.bool false) ∧ Below W.heap.size W w' from fun W g h1 h2 => by have := impl_IsPlan.formed_calls g a0_0 l0_1 l0_2 w W h1 h2; rwa [cf] at this)
    have HR1 := Aside0.mk hr0_1
    have HR2 := Aside0.mk hr0_2
    clear h cf hr0_1 hr0_2
    go_enter Try.func18, Try.ntmps18
    go_wp2_with (first | ((with_reducible refine gate_dst (N := 1) rfl ?_); refine box_event ?hg (N := 1) ?hd (cs := #[.int .i64 a0_0, .slice A0_1 l0_1.length c0_1, .slice A0_2 l0_2.length c0_2]) (t := 30) ?hr ?_; (case hd => rfl); (case hg => rfl); (case hr => first | (go_simp; done) | (go_simp; rfl)); intro gb hg w4 hbox hb; have HI := Aside0.mk (show impl_IsPlan.IsP w w4 gb a0_0 l0_1 l0_2 from ⟨A0_1, c0_1, A0_2, c0_2, hbox, (by rw [hg]; exact Nat.le_refl _), HR1.out, HR2.out⟩); have HB := Aside0.mk hb; have HBX := Aside0.mk hbox; clear hb hbox hg) | (go_at_call 55; refine (HN.out _ gb HI.out HB.out).mono ?_; rintro e w5 ⟨rfl, hb5⟩; have HBX5 := Aside0.mk ((hb5.block gb (blk_lt HBX.out)).trans HBX.out); have HB5 := Aside0.mk (HB.out.trans (hb5.mono HB.out.size)); clear hb5))
    go_ret
    exact ⟨rfl, HB5.out⟩


/-! ### slices_Equal_int_int: function 106 -/
def slices_Equal_int_int.l0 : Nat → List Int → List Int → Int → Int → Option (Bool)
  | 0, _, _, _, _ => none
  | k + 1, x0, x1, x12, x13 => if x13 < x12 then (if 0 ≤ x13 then (if x13 < (x0.length : Int) then (if x13 < (x1.length : Int) then (if (rd x0 x13) = (rd x1 x13) then (slices_Equal_int_int.l0 k x0 x1 x12 (wrap64 (x13 + 1))) else (some false)) else (none)) else (none)) else (none)) else (some true)
def slices_Equal_int_int.f (k : Nat) (l0 : List Int) (l1 : List Int) : Option (Bool) := if (l0.length : Int) = (l1.length : Int) then (slices_Equal_int_int.l0 k l0 l1 (l0.length : Int) 0) else (some false)
theorem slices_Equal_int_int.mono_l : ∀ k, (∀ y0 y1 y2 y3, LeO (slices_Equal_int_int.l0 k y0 y1 y2 y3) (slices_Equal_int_int.l0 (k + 1) y0 y1 y2 y3))
  | 0 => fun _ _ _ _ r h => by simp [slices_Equal_int_int.l0] at h
  | k + 1 => by
    have ih0 := slices_Equal_int_int.mono_l k
    · intro y0 y1 y2 y3
      unfold slices_Equal_int_int.l0
      repeat' first
      | (with_reducible exact ih0 _ _ _ _)
      | (with_reducible exact LeO.refl _)
      | (with_reducible exact LeO.none _)
      | (with_reducible refine LeO.ite ?_ ?_)
      | (with_reducible refine LeO.bind ?_ (fun _ => ?_))
      | exact ih0 _ _ _ _
      | exact LeO.none _
      | refine LeO.ite ?_ ?_
      | refine LeO.bind ?_ (fun _ => ?_)
theorem slices_Equal_int_int.mono : ∀ a0 a1 k, LeO (slices_Equal_int_int.f k a0 a1) (slices_Equal_int_int.f (k + 1) a0 a1) := by
  intro a0 a1 k
  have ih0 := slices_Equal_int_int.mono_l k
  unfold slices_Equal_int_int.f
  repeat' first
      | (with_reducible exact ih0 _ _ _ _)
      | (with_reducible exact LeO.refl _)
      | (with_reducible exact LeO.none _)
      | (with_reducible refine LeO.ite ?_ ?_)
      | (with_reducible refine LeO.bind ?_ (fun _ => ?_))
      | exact ih0 _ _ _ _
      | exact LeO.none _
      | refine LeO.ite ?_ ?_
      | refine LeO.bind ?_ (fun _ => ?_)
set_option maxHeartbeats 8000000 in
set_option maxRecDepth 100000 in
theorem slices_Equal_int_int.calls (k : Nat) (A0 : Option Addr) (c0 : Nat) (l0 : List Int) (A1 : Option Addr) (c1 : Nat) (l1 : List Int) (r : Bool) (w : World) (hr0 : Kd.C (Kd.int .i64) w A0 l0.length l0) (hc0 : l0.length ≤ c0) (hr1 : Kd.C (Kd.int .i64) w A1 l1.length l1) (hc1 : l1.length ≤ c1) (h : slices_Equal_int_int.f k l0 l1 = some r) :
    Calls Try.prog 106 #[.slice A0 l0.length c0, .slice A1 l1.length c1] w fun e w' => e = .returned (.bool r) ∧ Drawn0 w w' := by
  have HR0 := Aside0.mk hr0
  have HC0 := Aside0.mk hc0
  clear hr0 hc0
  have HR1 := Aside0.mk hr1
  have HC1 := Aside0.mk hc1
  clear hr1 hc1
  have H : (if (l0.length : Int) = (l1.length : Int) then (slices_Equal_int_int.l0 k l0 l1 (l0.length : Int) 0) else (some false)) = some r := h
  clear h
  by_cases c3 : (l0.length : Int) = (l1.length : Int)
  · rw [if_pos c3] at H
    have c3b0 : ((l0.length : Int) == (l1.length : Int)) = true := beq_iff_eq.mpr c3
    have c3b1 : ((l0.length : Int) != (l1.length : Int)) = false := bne_eq_false_iff_eq.mpr c3
    have c3b2 : (l0.length == l1.length) = true := by first | simpa using c3 | (simp at c3 ⊢; omega)
    clear c3
    have H' := Aside0.mk H
    clear H
    go_enter Try.func106, Try.ntmps106
    go_wp2
    repeat (go_quiet (fail); try go_wp2)
    go_loopg [13] k (fun kq v13 w' => ∃ (x13_1 : Int), v13 = .int .i64 x13_1 ∧ Aside0 (slices_Equal_int_int.l0 kq l0 l1 (l0.length : Int) x13_1 = some r) ∧ Aside0 (kq ≤ k) ∧ Drawn0 w w')
    case atStart => exact ⟨(0), (by first | rfl | (simp; done) | (simp [*]; done)), H', ⟨Nat.le_refl _⟩, by repeat (first | exact Drawn0.refl _ | apply Drawn0.step)⟩
    case round =>
      clear H'
      try clear c1
      try clear p2
      try clear c3
      try clear c3b0
      try clear c3b1
      try clear c3b2
      obtain ⟨x13_1, rfl, HA, HK1, ⟨m1, rfl⟩⟩ := hrel
      cases gk with
      | zero => exact absurd HA.out (by simp [slices_Equal_int_int.l0])
      | succ k1 =>
        have H := HA.out
        clear HA
        simp only [slices_Equal_int_int.l0] at H
        by_cases c4 : x13_1 < (l0.length : Int)
        · rw [if_pos c4] at H
          have c4b0 : decide (x13_1 < (l0.length : Int)) = true := decide_eq_true c4
          clear c4
          by_cases c5 : 0 ≤ x13_1
          · rw [if_pos c5] at H
            have c5b0 : decide (0 ≤ x13_1) = true := decide_eq_true c5
            clear c5
            by_cases c6 : x13_1 < (l0.length : Int)
            · rw [if_pos c6] at H
              have c6b0 : decide (x13_1 < (l0.length : Int)) = true := decide_eq_true c6
              clear c6
              by_cases c7 : x13_1 < (l1.length : Int)
              · rw [if_pos c7] at H
                have c7b0 : decide (x13_1 < (l1.length : Int)) = true := decide_eq_true c7
                clear c7
                by_cases c8 : (rd l0 x13_1) = (rd l1 x13_1)
                · rw [if_pos c8] at H
                  have c8b0 : ((rd l0 x13_1) == (rd l1 x13_1)) = true := beq_iff_eq.mpr c8
                  have c8b1 : ((rd l0 x13_1) != (rd l1 x13_1)) = false := bne_eq_false_iff_eq.mpr c8
                  clear c8
                  have H' := Aside0.mk H
                  clear H
                  have p230 : 0 ≤ (x13_1 : Int) := of_decide_eq_true (by first | (with_reducible assumption) | assumption)
                  have q230 : x13_1 < (l0.length : Int) := of_decide_eq_true (by first | (with_reducible assumption) | assumption)
                  obtain ⟨ad230, e230, hx230_0⟩ := Kd.at_int HR0.out x13_1 p230 q230
                  cases e230
                  replace p230 := eq_true p230
                  replace q230 := eq_true q230
                  have p231 : 0 ≤ (x13_1 : Int) := of_decide_eq_true (by first | (with_reducible assumption) | assumption)
                  have q231 : x13_1 < (l1.length : Int) := of_decide_eq_true (by first | (with_reducible assumption) | assumption)
                  obtain ⟨ad231, e231, hx231_0⟩ := Kd.at_int HR1.out x13_1 p231 q231
                  cases e231
                  replace p231 := eq_true p231
                  replace q231 := eq_true q231
                  go_wp2
                  repeat (go_quiet (fail); try go_wp2)
                  go_roundg k1
                  case measure => have := HK1.out; omega
                  case rel => exact ⟨(wrap64 (x13_1 + 1)), (by first | rfl | (simp; done) | (simp [*]; done)), H', ⟨by have := HK1.out; omega⟩, by repeat (first | exact Drawn0.refl _ | apply Drawn0.step)⟩
                · rw [if_neg c8] at H
                  have c8b0 : ((rd l0 x13_1) == (rd l1 x13_1)) = false := beq_eq_false_iff_ne.mpr c8
                  have c8b1 : ((rd l0 x13_1) != (rd l1 x13_1)) = true := bne_iff_ne.mpr c8
                  obtain rfl := Option.some.inj H
                  have p230 : 0 ≤ (x13_1 : Int) := of_decide_eq_true (by first | (with_reducible assumption) | assumption)
                  have q230 : x13_1 < (l0.length : Int) := of_decide_eq_true (by first | (with_reducible assumption) | assumption)
                  obtain ⟨ad230, e230, hx230_0⟩ := Kd.at_int HR0.out x13_1 p230 q230
                  cases e230
                  replace p230 := eq_true p230
                  replace q230 := eq_true q230
                  have p231 : 0 ≤ (x13_1 : Int) := of_decide_eq_true (by first | (with_reducible assumption) | assumption)
                  have q231 : x13_1 < (l1.length : Int) := of_decide_eq_true (by first | (with_reducible assumption) | assumption)
                  obtain ⟨ad231, e231, hx231_0⟩ := Kd.at_int HR1.out x13_1 p231 q231
                  cases e231
                  replace p231 := eq_true p231
                  replace q231 := eq_true q231
                  go_wp2
                  repeat (go_quiet (fail); try go_wp2)
                  go_ret
                  exact ⟨by first | rfl | (simp; done) | (simp [*]; done), by repeat (first | exact Drawn0.refl _ | apply Drawn0.step)⟩
              · rw [if_neg c7] at H
                exact absurd H (by simp)
            · rw [if_neg c6] at H
              exact absurd H (by simp)
          · rw [if_neg c5] at H
            exact absurd H (by simp)
        · rw [if_neg c4] at H
          have c4b0 : decide (x13_1 < (l0.length : Int)) = false := decide_eq_false c4
          clear c4
          obtain rfl := Option.some.inj H
          go_wp2
          repeat (go_quiet (fail); try go_wp2)
          go_ret
          exact ⟨by first | rfl | (simp; done) | (simp [*]; done), by repeat (first | exact Drawn0.refl _ | apply Drawn0.step)⟩
  · rw [if_neg c3] at H
    have c3b0 : ((l0.length : Int) == (l1.length : Int)) = false := beq_eq_false_iff_ne.mpr c3
    have c3b1 : ((l0.length : Int) != (l1.length : Int)) = true := bne_iff_ne.mpr c3
    have c3b2 : (l0.length == l1.length) = false := by first | simpa using c3 | (simp at c3 ⊢; omega)
    obtain rfl := Option.some.inj H
    go_enter Try.func106, Try.ntmps106
    go_wp2
    repeat (go_quiet (fail); try go_wp2)
    go_ret
    exact ⟨by first | rfl | (simp; done) | (simp [*]; done), by repeat (first | exact Drawn0.refl _ | apply Drawn0.step)⟩


/-! ### impl_Plan_firstSame: function 75 -/
theorem impl_Plan_firstSame.eq_at (a b : List Int) (ha : a.length ≤ 1000000) : ∃ k, slices_Equal_int_int.f k a b = some (decide (a = b)) := by
  by_cases hl : a.length = b.length
  · have loop : ∀ (d i : Nat), i + d = a.length → a.take i = b.take i → slices_Equal_int_int.l0 (d + 1) a b a.length i = some (decide (a = b)) := by
      intro d
      induction d with
      | zero =>
        intro i hi ht
        rw [slices_Equal_int_int.l0, if_neg (by omega)]
        rw [List.take_of_length_le (by omega), List.take_of_length_le (by omega)] at ht
        rw [decide_eq_true ht]
      | succ d ih =>
        intro i hi ht
        rw [slices_Equal_int_int.l0, if_pos (by omega), if_pos (by omega), if_pos (by omega), if_pos (by omega)]
        have ea : rd a (i : Int) = a[i]'(by omega) := by unfold rd; rw [Int.toNat_natCast]; simp [List.getD, show i < a.length by omega]
        have eb : rd b (i : Int) = b[i]'(by omega) := by unfold rd; rw [Int.toNat_natCast]; simp [List.getD, show i < b.length by omega]
        by_cases c : rd a (i : Int) = rd b (i : Int)
        · rw [if_pos c, show wrap64 ((i : Int) + 1) = ((i + 1 : Nat) : Int) by unfold wrap64; omega]
          refine ih (i + 1) (by omega) ?_
          rw [List.take_succ_eq_append_getElem (by omega), List.take_succ_eq_append_getElem (by omega), ht, ← ea, ← eb, c]
        · rw [if_neg c, decide_eq_false]
          rintro rfl
          exact c rfl
    refine ⟨a.length + 1, ?_⟩
    unfold slices_Equal_int_int.f
    rw [if_pos (by omega)]
    exact loop a.length 0 (by omega) (by simp)
  · refine ⟨0, ?_⟩
    unfold slices_Equal_int_int.f
    rw [if_neg (by omega), decide_eq_false (fun e => hl (by rw [e]))]
set_option maxHeartbeats 2000000 in
set_option maxRecDepth 100000 in
theorem impl_Plan_firstSame.same_calls (A0 : Option Addr) (c0 : Nat) (l0 : List Int) (B : Nat) (A1 : Option Addr) (c1 : Nat) (l1 : List Int) (w : World) (hbox : w.cell? ⟨B, 0, none⟩ = some (.slice A0 l0.length c0)) (hr0 : Kd.C (Kd.int .i64) w A0 l0.length l0) (hc0 : l0.length ≤ c0) (hr1 : Kd.C (Kd.int .i64) w A1 l1.length l1) (hc1 : l1.length ≤ c1) (hl : l0.length ≤ 1000000) :
    Calls Try.prog 105 #[.slice A1 l1.length c1, .pointer (some ⟨B, 0, none⟩)] w fun e w' => e = .returned (.bool (decide (l0 = l1))) ∧ Below w.heap.size w w' := by
  obtain ⟨k, hk⟩ := impl_Plan_firstSame.eq_at l0 l1 hl
  generalize decide (l0 = l1) = b at *
  have HX := Aside0.mk (slices_Equal_int_int.calls k A0 c0 l0 A1 c1 l1 b w hr0 hc0 hr1 hc1 hk)
  clear hr0 hc0 hr1 hc1 hk hl
  go_enter Try.func105, Try.ntmps105
  go_wp2_with (go_at_call 106; refine HX.out.mono ?_; rintro e w1 ⟨rfl, hd⟩; have HD := Aside0.mk hd.below; clear hd)
  go_ret
  exact ⟨rfl, HD.out⟩
def impl_Plan_firstSame.firsts (rows : List (List Int)) : List Int := (List.range rows.length).map fun (i : Nat) => Go.Proofs.YtopkiccdfmjjjaaH.firstIx (fun j => decide (Go.Proofs.YtopkiccdfmjjjaaH.rdRow rows (i : Int) = Go.Proofs.YtopkiccdfmjjjaaH.rdRow rows (j : Int))) rows.length 0
def impl_Plan_firstSame.small (rows : List (List Int)) : Bool := decide (rows.length ≤ 1000) && rows.all (fun r => decide (r.length ≤ 1000))
def impl_Plan_firstSame.f (k : Nat) (n : Int) (ss : List (S69)) (os : List Int) : Option (List Int) := (impl_Plan_exponents.f k n ss os).bind fun rows => if impl_Plan_firstSame.small rows = true then some (impl_Plan_firstSame.firsts rows) else none
theorem impl_Plan_firstSame.mono : ∀ n ss os k, LeO (impl_Plan_firstSame.f k n ss os) (impl_Plan_firstSame.f (k + 1) n ss os) := by
  intro n ss os k
  unfold impl_Plan_firstSame.f
  exact LeO.bind (impl_Plan_exponents.mono _ _ _ _) (fun _ => LeO.refl _)
def impl_Plan_firstSame.elOf (w : World) (A : Option Addr) (j : Nat) : Value := match A with | some ad => (w.cell? (ad.add j)).getD (.bool false) | none => .bool false
theorem impl_Plan_firstSame.elOf_some {w : World} {ad : Addr} {j : Nat} {v : Value} (h : w.cell? (ad.add j) = some v) : impl_Plan_firstSame.elOf w (some ad) j = v := by show (w.cell? (ad.add j)).getD (.bool false) = v; rw [h]; rfl
theorem impl_Plan_firstSame.row_len {rows : List (List Int)} (h : impl_Plan_firstSame.small rows = true) (j : Nat) : (Go.Proofs.YtopkiccdfmjjjaaH.rdRow rows (j : Int)).length ≤ 1000 := by
  unfold Go.Proofs.YtopkiccdfmjjjaaH.rdRow
  rw [Int.toNat_natCast, List.getD_eq_getElem?_getD]
  cases e : rows[j]? with
  | none => simp
  | some r =>
    unfold impl_Plan_firstSame.small at h
    rw [Bool.and_eq_true, List.all_eq_true] at h
    have := h.2 r (List.mem_of_getElem? e)
    simpa using this
set_option maxHeartbeats 2000000 in
set_option maxRecDepth 100000 in
theorem impl_Plan_firstSame.find_calls (rows : List (List Int)) (A : Option Addr) (c : Nat) (W : World) (hR : Kd.C (Kd.slice 3 (Kd.int .i64)) W A rows.length rows) (hsm : impl_Plan_firstSame.small rows = true) (i B : Nat) (A0 : Option Addr) (c0 : Nat) (hbox : W.cell? ⟨B, 0, none⟩ = some (.slice A0 (Go.Proofs.YtopkiccdfmjjjaaH.rdRow rows (i : Int)).length c0)) (hr0 : Kd.C (Kd.int .i64) W A0 (Go.Proofs.YtopkiccdfmjjjaaH.rdRow rows (i : Int)).length (Go.Proofs.YtopkiccdfmjjjaaH.rdRow rows (i : Int))) (hc0 : (Go.Proofs.YtopkiccdfmjjjaaH.rdRow rows (i : Int)).length ≤ c0) :
    Calls Try.prog 92 #[.slice A rows.length c, .func (.func 105) #[] #[.pointer (some ⟨B, 0, none⟩)]] W fun e W' => e = .returned (.int .i64 (Go.Proofs.YtopkiccdfmjjjaaH.firstIx (fun j => decide (Go.Proofs.YtopkiccdfmjjjaaH.rdRow rows (i : Int) = Go.Proofs.YtopkiccdfmjjjaaH.rdRow rows (j : Int))) rows.length 0)) ∧ Below W.heap.size W W' := by
  refine Go.Proofs.YtopkiccdfmjjjaaH.index_f92 W A rows.length c (impl_Plan_firstSame.elOf W A) _ 105 #[.pointer (some ⟨B, 0, none⟩)] (enters_of Try.func105 (by kernel_rfl) rfl) (Kd.C_max hR) (fun hp => ?_) (fun j hj W2 hW => ?_)
  · obtain ⟨ad, _, _, e, _⟩ := Go.Proofs.YtopkiccdfmjjjaaH.at_row hR 0 (by omega) (by omega)
    subst e
    refine ⟨ad, rfl, fun j hj => ?_⟩
    obtain ⟨ad', A', c', e', h', _⟩ := Go.Proofs.YtopkiccdfmjjjaaH.at_row hR (j : Int) (by omega) (by omega)
    obtain rfl : ad = ad' := by injection e'
    rw [Int.toNat_natCast] at h'
    rw [impl_Plan_firstSame.elOf_some h']
    exact h'
  · obtain ⟨ad', A', c', e', h', hl', hC⟩ := Go.Proofs.YtopkiccdfmjjjaaH.at_row hR (j : Int) (by omega) (by omega)
    subst e'
    rw [Int.toNat_natCast] at h'
    rw [impl_Plan_firstSame.elOf_some h']
    exact impl_Plan_firstSame.same_calls A0 c0 _ B A' c' _ W2 (pw_cell_below hW hbox) (Kd.C_below hr0 hW) hc0 (Kd.C_below hC hW) hl' (by have := impl_Plan_firstSame.row_len hsm i; omega)
set_option maxHeartbeats 4000000 in
set_option maxRecDepth 100000 in
theorem impl_Plan_firstSame.calls (k : Nat) (g0_ : Nat) (a0_0 : Int) (A0_1 : Option Addr) (c0_1 : Nat) (l0_1 : List (S69)) (A0_2 : Option Addr) (c0_2 : Nat) (l0_2 : List Int) (r : List Int) (w : World) (hx0_ : w.heap[g0_]? = some (.cells #[.int .i64 a0_0, .slice A0_1 l0_1.length c0_1, .slice A0_2 l0_2.length c0_2] 30 (0, 0))) (hr0_1 : Kd.C k69 w A0_1 l0_1.length l0_1) (hc0_1 : l0_1.length ≤ c0_1) (hr0_2 : Kd.C (Kd.int .i64) w A0_2 l0_2.length l0_2) (hc0_2 : l0_2.length ≤ c0_2) (h : impl_Plan_firstSame.f k a0_0 l0_1 l0_2 = some r) :
    Calls Try.prog 75 #[.pointer (some ⟨g0_, 0, none⟩)] w fun e w' => ∃ v0_ : Value, e = .returned v0_ ∧ Kd.R (Kd.int .i64) 3 w' w.heap.size (fun _ => True) v0_ r ∧ Below w.heap.size w w' := by
  unfold impl_Plan_firstSame.f at h
  obtain ⟨rows, he, h⟩ := Option.bind_eq_some_iff.mp h
  by_cases hsm : impl_Plan_firstSame.small rows = true
  · rw [if_pos hsm] at h
    obtain ⟨fr, hfr⟩ : ∃ fr, fr = impl_Plan_firstSame.firsts rows := ⟨_, rfl⟩
    have hr : fr = r := by rw [hfr]; exact Option.some.inj h
    have hfl : fr.length = rows.length := by rw [hfr]; unfold impl_Plan_firstSame.firsts; simp
    have hfg : ∀ i : Nat, i < rows.length → fr[i]? = some (Go.Proofs.YtopkiccdfmjjjaaH.firstIx (fun j => decide (Go.Proofs.YtopkiccdfmjjjaaH.rdRow rows (i : Int) = Go.Proofs.YtopkiccdfmjjjaaH.rdRow rows (j : Int))) rows.length 0) := fun i hi => by rw [hfr]; unfold impl_Plan_firstSame.firsts; simp [hi]
    subst hr
    have hrl : rows.length ≤ 1000 := by unfold impl_Plan_firstSame.small at hsm; rw [Bool.and_eq_true] at hsm; exact of_decide_eq_true hsm.1
    have HFG := Aside0.mk hfg
    have HFL := Aside0.mk (And.intro hfl hrl)
    have HSM := Aside0.mk hsm
    have HE := Aside0.mk (impl_Plan_exponents.calls k g0_ a0_0 A0_1 c0_1 l0_1 A0_2 c0_2 l0_2 rows w hx0_ hr0_1 hc0_1 hr0_2 hc0_2 he)
    clear h he hsm hfr hfl hfg hrl hx0_ hr0_1 hc0_1 hr0_2 hc0_2
    go_enter Try.func75, Try.ntmps75
    go_wp2_with (first | (go_at_call 57; refine HE.out.mono ?_; rintro e w1 ⟨v, rfl, hS, hB1⟩; obtain ⟨A, c, rfl⟩ := Kd.S_slice hS; have HR := Aside0.mk (Kd.S_reads' hS).2.2; have HB1 := Aside0.mk hB1; clear hS hB1) | ((with_reducible refine gate_dst (N := 9) rfl ?_); refine Kd.R_lit (Kd.int .i64) (w0 := w1) _ 3 ?hg (N := 9) ?hd (xs := ([] : List Int)) (inner := []) (ok := fun _ => True) (okp := fun _ => True) ?hr ?hp (fun _ hk => hk) trivial (Below.refl _ _) (Nat.le_refl _) (by simp) ?_; (case hd => rfl); (case hg => rfl); (case hr => first | (go_simp; done) | (go_simp; rfl)); (case hp => exact (Reps.none _ _)); intro v9 w2 ho hb hg_ hnew_; clear hg_ hnew_; have HO := Aside0.mk ho; have HB2 := Aside0.mk hb; clear hb ho))
    go_loopg [4, 12] rows.length (fun gg s4 s12 wr => ∃ (kk : Nat) (out : List Int), Aside0 (kk ≤ rows.length ∧ rows.length - kk ≤ gg ∧ out = fr.take kk ∧ Kd.R (Kd.int .i64) 3 wr w1.heap.size (fun _ => True) s4 out ∧ Below w1.heap.size w1 wr) ∧ s12 = .int .i64 kk)
    case atStart => exact ⟨0, [], ⟨⟨Nat.zero_le _, by omega, by simp, HO.out, HB2.out⟩⟩, rfl⟩
    case round =>
      obtain ⟨kk, out, HK, rfl⟩ := hrel
      obtain ⟨h1, h2, h3, h4, h5⟩ := HK.out
      clear HK
      by_cases hlt : kk < rows.length
      · have hltz : (kk : Int) < (rows.length : Int) := by omega
        obtain ⟨ad, A0, c0, ea, hx, hl0, hC0⟩ := Go.Proofs.YtopkiccdfmjjjaaH.at_row HR.out (kk : Int) (by omega) hltz
        subst ea
        rw [Int.toNat_natCast] at hx
        replace hx := pw_cell_below h5 hx
        have hw := below_alloc h5 (Obj.cells #[.slice A0 (Go.Proofs.YtopkiccdfmjjjaaH.rdRow rows (kk : Int)).length c0] 23)
        have HF := Aside0.mk (impl_Plan_firstSame.find_calls rows (some ad) c (wr.alloc (Obj.cells #[.slice A0 (Go.Proofs.YtopkiccdfmjjjaaH.rdRow rows (kk : Int)).length c0] 23)) (Kd.C_below HR.out hw) HSM.out kk wr.heap.size A0 c0 ((blk_cell (heap_alloc_new wr (Obj.cells #[.slice A0 (Go.Proofs.YtopkiccdfmjjjaaH.rdRow rows (kk : Int)).length c0] 23)) 0).trans rfl) (Kd.C_below hC0 hw) hl0)
        have hfk := HFG.out kk hlt
        generalize Go.Proofs.YtopkiccdfmjjjaaH.firstIx (fun j => decide (Go.Proofs.YtopkiccdfmjjjaaH.rdRow rows (kk : Int) = Go.Proofs.YtopkiccdfmjjjaaH.rdRow rows (j : Int))) rows.length 0 = y at *
        have HFK := Aside0.mk hfk
        generalize Go.Proofs.YtopkiccdfmjjjaaH.rdRow rows (kk : Int) = row at *
        have H2 := Aside0.mk h2
        have H3 := Aside0.mk h3
        have H4 := Aside0.mk h4
        have H5 := Aside0.mk h5
        clear h2 h3 h4 h5 hw hC0 hfk hl0
        go_wp2_with (first | (go_at_call 92; refine HF.out.mono ?_; rintro e w3 ⟨rfl, hb3⟩; have HB3 := Aside0.mk ((below_alloc (Below.refl _ wr) (Obj.cells #[.slice A0 row.length c0] 23)).trans (hb3.mono (below_alloc (Below.refl _ wr) (Obj.cells #[.slice A0 row.length c0] 23)).size)); clear hb3) | ((with_reducible refine gate_builtin (b := .append) (xs := #[.tmp 16, .tmp 20]) rfl ?_); at_builtin; refine Kd.R_append (Kd.int .i64) (w0 := w1) w1.heap.size rfl (.tmp 16) (.tmp 20) 23 3 (.int .i64 0) 8 rfl Try.underlying23 info3 rfl (by decide) (by omega) _ out y [.int .i64 y] (fun _ => True) (fun _ => False) rfl rfl ?aP (fun _ hk => hk.elim) ?aF ?aO ?aB ?aS ?aL ?_; (case aP => exact rfl); (case aB => exact H5.out.trans (HB3.out.mono H5.out.size)); (case aF => exact (fun _ _ => trivial)); (case aO => exact Kd.R_below H4.out HB3.out); (case aS => exact (H5.out.trans (HB3.out.mono H5.out.size)).size); (case aL => have := HFL.out; have e := congrArg List.length H3.out; rw [List.length_take] at e; omega); intro v5 w5 ho hb hg hat; have HO5 := Aside0.mk ho; have HB5 := Aside0.mk hb; clear ho hb hg hat))
        go_roundg (rows.length - (kk + 1))
        case measure => have := H2.out; omega
        case rel =>
          have := HFL.out
          refine ⟨kk + 1, out ++ [y], ⟨⟨by omega, by omega, ?_, HO5.out, HB5.out⟩⟩, by rw [show wrap64 ((kk : Int) + 1) = ((kk + 1 : Nat) : Int) by unfold wrap64; omega]⟩
          have hk2 : kk < fr.length := by omega
          have e2 := HFK.out
          rw [List.getElem?_eq_getElem hk2] at e2
          rw [List.take_succ_eq_append_getElem hk2, ← H3.out, Option.some.inj e2]
      · have hltz : ¬ (kk : Int) < (rows.length : Int) := by omega
        obtain rfl : kk = rows.length := by omega
        have H3 := Aside0.mk h3
        have H4 := Aside0.mk h4
        have H5 := Aside0.mk h5
        clear h2 h3 h4 h5
        go_wp2
        go_ret
        have e : out = fr := by rw [H3.out, List.take_of_length_le (by have := HFL.out; omega)]
        rw [e] at H4
        exact ⟨_, rfl, Kd.R_lower H4.out HB1.out.size, HB1.out.trans (H5.out.mono HB1.out.size)⟩
  · rw [if_neg hsm] at h
    cases h


/-! ### impl_FirstExponents: function 37 -/
def impl_FirstExponents.f (k : Nat) (a0_0 : Int) (l0_1 : List (S69)) (l0_2 : List Int) : Option (List Int × Bool) := (impl_IsPlan.f k a0_0 l0_1 l0_2).bind fun t233 => (if t233 = true then ((impl_Plan_firstSame.f k a0_0 l0_1 l0_2).bind fun t234 => (some (t234, true))) else (some (([] : List Int), false)))
theorem impl_FirstExponents.mono : ∀ a0 a1 a2 k, LeO (impl_FirstExponents.f k a0 a1 a2) (impl_FirstExponents.f (k + 1) a0 a1 a2) := by
  intro a0 a1 a2 k
  unfold impl_FirstExponents.f
  repeat' first
      | (with_reducible exact impl_IsPlan.mono _ _ _ _)
      | (with_reducible exact impl_Plan_firstSame.mono _ _ _ _)
      | (with_reducible exact LeO.refl _)
      | (with_reducible exact LeO.none _)
      | (with_reducible refine LeO.ite ?_ ?_)
      | (with_reducible refine LeO.bind ?_ (fun _ => ?_))
      | exact impl_IsPlan.mono _ _ _ _
      | exact impl_Plan_firstSame.mono _ _ _ _
      | exact LeO.none _
      | refine LeO.ite ?_ ?_
      | refine LeO.bind ?_ (fun _ => ?_)
set_option maxHeartbeats 8000000 in
set_option maxRecDepth 100000 in
theorem impl_FirstExponents.calls (k : Nat) (a0_0 : Int) (A0_1 : Option Addr) (c0_1 : Nat) (l0_1 : List (S69)) (A0_2 : Option Addr) (c0_2 : Nat) (l0_2 : List Int) (r1 : List Int) (r2 : Bool) (w : World) (hr0_1 : Kd.C k69 w A0_1 l0_1.length l0_1) (hc0_1 : l0_1.length ≤ c0_1) (hr0_2 : Kd.C (Kd.int .i64) w A0_2 l0_2.length l0_2) (hc0_2 : l0_2.length ≤ c0_2) (h : impl_FirstExponents.f k a0_0 l0_1 l0_2 = some (r1, r2)) :
    Calls Try.prog 37 #[.agg #[.int .i64 a0_0, .slice A0_1 l0_1.length c0_1, .slice A0_2 l0_2.length c0_2]] w fun e w' => ∃ v0_ : Value, e = .returned (.tuple #[v0_, .bool r2]) ∧ Kd.R (Kd.int .i64) 3 w' w.heap.size (fun _ => True) v0_ r1 ∧ Below w.heap.size w w' := by
  have hu30 := Try.underlying30
  have HR0_1 := Aside0.mk hr0_1
  have HC0_1 := Aside0.mk hc0_1
  clear hr0_1 hc0_1
  have HR0_2 := Aside0.mk hr0_2
  have HC0_2 := Aside0.mk hc0_2
  clear hr0_2 hc0_2
  have HB := Aside0.mk (Below.refl w.heap.size w)
  have H : ((impl_IsPlan.f k a0_0 l0_1 l0_2).bind fun t233 => (if t233 = true then ((impl_Plan_firstSame.f k a0_0 l0_1 l0_2).bind fun t234 => (some (t234, true))) else (some (([] : List Int), false)))) = some (r1, r2) := h
  clear h
  replace H := Option.bind_eq_some_iff.mp H
  obtain ⟨t233, A20, H⟩ := H
  replace H : (if t233 = true then ((impl_Plan_firstSame.f k a0_0 l0_1 l0_2).bind fun t234 => (some (t234, true))) else (some (([] : List Int), false))) = some (r1, r2) := H
  have A2 := Aside0.mk A20
  clear A20
  by_cases c3 : t233 = true
  · subst c3
    have H1 : ((impl_Plan_firstSame.f k a0_0 l0_1 l0_2).bind fun t234 => (some (t234, true))) = some (r1, r2) := by rw [if_pos rfl] at H; exact H
    clear H
    have H := H1
    clear H1
    replace H := Option.bind_eq_some_iff.mp H
    obtain ⟨t234, A40, H⟩ := H
    replace H : (some (t234, true)) = some (r1, r2) := H
    have A4 := Aside0.mk A40
    clear A40
    simp only [Option.some.injEq, Prod.mk.injEq] at H
    obtain ⟨rfl, rfl⟩ := H
    go_enter Try.func37, Try.ntmps37
    go_wp2_with (first | ((with_reducible refine gate_dst (N := 1) rfl ?_); refine box_event ?hg (N := 1) ?hd (cs := #[.int .i64 a0_0, .slice A0_1 l0_1.length c0_1, .slice A0_2 l0_2.length c0_2]) (t := 30) ?hr ?_; (case hd => rfl); (case hg => rfl); (case hr => first | (go_simp; done) | (go_simp; rfl)); intro gb232 hg w5 hbox hb; have n0_ := Aside0.mk (below_step (by repeat (first | (with_reducible first | exact HB.out | apply below_alloc | apply pw_below_drewN | apply below_drew1) | exact HB.out)) hb); have n1_ := Aside0.mk (hbox); have n2_ := Aside0.mk ((by rw [hg]; exact (below_size (by repeat (first | (with_reducible first | exact HB.out | apply below_alloc | apply pw_below_drewN | apply below_drew1) | exact HB.out))) : w.heap.size ≤ gb232)); have n3_ := Aside0.mk ((by rw [hg]; exact (below_size (by repeat (first | (with_reducible first | exact HB.out | apply below_alloc | apply pw_below_drewN | apply below_drew1) | exact HB.out))) : w.heap.size ≤ gb232)); clear HB; have HB := n0_; have BK232 := n1_; have GW232 := n2_; have GE232 := n3_; clear n0_ n1_ n2_ n3_; clear hb hbox hg; have hcz6_0 : w5.cell? ⟨gb232, 0, none⟩ = some (.int .i64 a0_0) := (blk_cell BK232.out 0).trans rfl; have hcz6_1 : w5.cell? ⟨gb232, 1, none⟩ = some (.slice A0_1 l0_1.length c0_1) := (blk_cell BK232.out 1).trans rfl; have hcz6_2 : w5.cell? ⟨gb232, 2, none⟩ = some (.slice A0_2 l0_2.length c0_2) := (blk_cell BK232.out 2).trans rfl; have hfz6_0 := blk_frozen BK232.out 0; have hfz6_1 := blk_frozen BK232.out 1; have hfz6_2 := blk_frozen BK232.out 2) | ((with_reducible refine gate_callee (f := 18) rfl ?_); refine goesL_ (some 5) rfl rfl Try.func18 (by kernel_rfl) rfl #[.agg #[.int .i64 a0_0, .slice A0_1 l0_1.length c0_1, .slice A0_2 l0_2.length c0_2]] rfl (by (try simp only [List.map_toArray, List.map_cons, List.map_nil]); first | done | rfl | (simp only [List.length_drop, List.length_take]; rfl)) ?_; (with_reducible refine (impl_IsPlan.calls k a0_0 _ _ l0_1 _ _ l0_2 true _ ?side1 ?side2 ?side3 ?side4 A2.out).mono ?_); (case side1 => repeat (first | exact (Kd.C_below HR0_1.out HB.out) | (with_reducible refine Kd.C_alloc ?_ _) | (with_reducible refine Kd.C_drewN ?_ _) | (with_reducible refine Kd.C_drew ?_))); (case side2 => exact HC0_1.out); (case side3 => repeat (first | exact (Kd.C_below HR0_2.out HB.out) | (with_reducible refine Kd.C_alloc ?_ _) | (with_reducible refine Kd.C_drewN ?_ _) | (with_reducible refine Kd.C_drew ?_))); (case side4 => exact HC0_2.out); rintro e w7 ⟨rfl, hb⟩; refine ⟨_, rfl, ?_⟩; have n0_ := Aside0.mk (blk_below (g := gb232) (o := .cells #[.int .i64 a0_0, .slice A0_1 l0_1.length c0_1, .slice A0_2 l0_2.length c0_2] 30 (0, 0)) (by (with_reducible repeat (first | refine blk_drewN ?_ _ | refine blk_drew ?_ | refine blk_alloc ?_ _)); exact BK232.out) hb); have n1_ := Aside0.mk (below_step (by repeat (first | (with_reducible first | exact HB.out | apply below_alloc | apply pw_below_drewN | apply below_drew1 | refine below_set ?_ GE232.out) | exact HB.out)) hb); clear BK232; clear HB; have BK232 := n0_; have HB := n1_; clear n0_ n1_; (try clear hb)) | ((with_reducible refine gate_callee (f := 75) rfl ?_); refine goesL_ (some 7) rfl rfl Try.func75 (by kernel_rfl) rfl #[.pointer (some ⟨gb232, 0, none⟩)] rfl (by (try simp only [List.map_toArray, List.map_cons, List.map_nil]); first | done | rfl | (simp only [List.length_drop, List.length_take]; rfl)) ?_; (with_reducible refine (impl_Plan_firstSame.calls k gb232 a0_0 A0_1 c0_1 l0_1 A0_2 c0_2 l0_2 t234 _ ?side1 ?side2 ?side3 ?side4 ?side5 A4.out).mono ?_); (case side1 => exact by (with_reducible repeat (first | refine blk_drewN ?_ _ | refine blk_drew ?_ | refine blk_alloc ?_ _)); exact BK232.out); (case side2 => repeat (first | exact (Kd.C_below HR0_1.out HB.out) | (with_reducible refine Kd.C_alloc ?_ _) | (with_reducible refine Kd.C_drewN ?_ _) | (with_reducible refine Kd.C_drew ?_))); (case side3 => exact HC0_1.out); (case side4 => repeat (first | exact (Kd.C_below HR0_2.out HB.out) | (with_reducible refine Kd.C_alloc ?_ _) | (with_reducible refine Kd.C_drewN ?_ _) | (with_reducible refine Kd.C_drew ?_))); (case side5 => exact HC0_2.out); rintro e w8 ⟨v235, rfl, ho0, hb⟩; refine ⟨_, rfl, ?_⟩; have n0_ := Aside0.mk (Kd.R_lower ho0 (below_size (by repeat (first | (with_reducible first | exact HB.out | apply below_alloc | apply pw_below_drewN | apply below_drew1 | refine below_set ?_ GE232.out) | exact HB.out)))); have n1_ := Aside0.mk (blk_below (g := gb232) (o := .cells #[.int .i64 a0_0, .slice A0_1 l0_1.length c0_1, .slice A0_2 l0_2.length c0_2] 30 (0, 0)) (by (with_reducible repeat (first | refine blk_drewN ?_ _ | refine blk_drew ?_ | refine blk_alloc ?_ _)); exact BK232.out) hb); have n2_ := Aside0.mk (below_step (by repeat (first | (with_reducible first | exact HB.out | apply below_alloc | apply pw_below_drewN | apply below_drew1 | refine below_set ?_ GE232.out) | exact HB.out)) hb); clear BK232; clear HB; have HO236 := n0_; have BK232 := n1_; have HB := n2_; clear n0_ n1_ n2_; (try clear hb); (try clear ho0)))
    go_ret2
    exact ⟨_, by first | rfl | (simp [errW_none, errW_some] <;> rfl) | (simp [*, errW_none, errW_some] <;> rfl), by (with_reducible repeat (first | apply Kd.R_alloc | apply Kd.R_drewN | apply Kd.R_drew)); exact HO236.out, by repeat (first | (with_reducible first | exact HB.out | apply below_alloc | apply pw_below_drewN | apply below_drew1 | refine below_set ?_ GE232.out) | exact HB.out)⟩
  · replace c3 := Bool.eq_false_iff.mpr c3
    subst c3
    have H1 : (some (([] : List Int), false)) = some (r1, r2) := by rw [if_neg (show ¬ (false = true) by decide)] at H; exact H
    clear H
    have H := H1
    clear H1
    simp only [Option.some.injEq, Prod.mk.injEq] at H
    obtain ⟨rfl, rfl⟩ := H
    go_enter Try.func37, Try.ntmps37
    go_wp2_with (first | ((with_reducible refine gate_dst (N := 1) rfl ?_); refine box_event ?hg (N := 1) ?hd (cs := #[.int .i64 a0_0, .slice A0_1 l0_1.length c0_1, .slice A0_2 l0_2.length c0_2]) (t := 30) ?hr ?_; (case hd => rfl); (case hg => rfl); (case hr => first | (go_simp; done) | (go_simp; rfl)); intro gb232 hg w9 hbox hb; have n0_ := Aside0.mk (below_step (by repeat (first | (with_reducible first | exact HB.out | apply below_alloc | apply pw_below_drewN | apply below_drew1) | exact HB.out)) hb); have n1_ := Aside0.mk (hbox); have n2_ := Aside0.mk ((by rw [hg]; exact (below_size (by repeat (first | (with_reducible first | exact HB.out | apply below_alloc | apply pw_below_drewN | apply below_drew1) | exact HB.out))) : w.heap.size ≤ gb232)); have n3_ := Aside0.mk ((by rw [hg]; exact (below_size (by repeat (first | (with_reducible first | exact HB.out | apply below_alloc | apply pw_below_drewN | apply below_drew1) | exact HB.out))) : w.heap.size ≤ gb232)); clear HB; have HB := n0_; have BK232 := n1_; have GW232 := n2_; have GE232 := n3_; clear n0_ n1_ n2_ n3_; clear hb hbox hg; have hcz10_0 : w9.cell? ⟨gb232, 0, none⟩ = some (.int .i64 a0_0) := (blk_cell BK232.out 0).trans rfl; have hcz10_1 : w9.cell? ⟨gb232, 1, none⟩ = some (.slice A0_1 l0_1.length c0_1) := (blk_cell BK232.out 1).trans rfl; have hcz10_2 : w9.cell? ⟨gb232, 2, none⟩ = some (.slice A0_2 l0_2.length c0_2) := (blk_cell BK232.out 2).trans rfl; have hfz10_0 := blk_frozen BK232.out 0; have hfz10_1 := blk_frozen BK232.out 1; have hfz10_2 := blk_frozen BK232.out 2) | ((with_reducible refine gate_callee (f := 18) rfl ?_); refine goesL_ (some 5) rfl rfl Try.func18 (by kernel_rfl) rfl #[.agg #[.int .i64 a0_0, .slice A0_1 l0_1.length c0_1, .slice A0_2 l0_2.length c0_2]] rfl (by (try simp only [List.map_toArray, List.map_cons, List.map_nil]); first | done | rfl | (simp only [List.length_drop, List.length_take]; rfl)) ?_; (with_reducible refine (impl_IsPlan.calls k a0_0 _ _ l0_1 _ _ l0_2 false _ ?side1 ?side2 ?side3 ?side4 A2.out).mono ?_); (case side1 => repeat (first | exact (Kd.C_below HR0_1.out HB.out) | (with_reducible refine Kd.C_alloc ?_ _) | (with_reducible refine Kd.C_drewN ?_ _) | (with_reducible refine Kd.C_drew ?_))); (case side2 => exact HC0_1.out); (case side3 => repeat (first | exact (Kd.C_below HR0_2.out HB.out) | (with_reducible refine Kd.C_alloc ?_ _) | (with_reducible refine Kd.C_drewN ?_ _) | (with_reducible refine Kd.C_drew ?_))); (case side4 => exact HC0_2.out); rintro e w11 ⟨rfl, hb⟩; refine ⟨_, rfl, ?_⟩; have n0_ := Aside0.mk (blk_below (g := gb232) (o := .cells #[.int .i64 a0_0, .slice A0_1 l0_1.length c0_1, .slice A0_2 l0_2.length c0_2] 30 (0, 0)) (by (with_reducible repeat (first | refine blk_drewN ?_ _ | refine blk_drew ?_ | refine blk_alloc ?_ _)); exact BK232.out) hb); have n1_ := Aside0.mk (below_step (by repeat (first | (with_reducible first | exact HB.out | apply below_alloc | apply pw_below_drewN | apply below_drew1 | refine below_set ?_ GE232.out) | exact HB.out)) hb); clear BK232; clear HB; have BK232 := n0_; have HB := n1_; clear n0_ n1_; (try clear hb)))
    go_ret2
    exact ⟨_, by first | rfl | (simp [errW_none, errW_some] <;> rfl) | (simp [*, errW_none, errW_some] <;> rfl), by first | exact Kd.R_nil _ _ _ _ _ | exact Kd.N_nil _ _ _ _ _ | exact Kd.V_nil _ _ _ _ _ | exact Kd.Q_nil _ _ _ _ _ | exact Kd.S_nil _ _ _ _ _, by repeat (first | (with_reducible first | exact HB.out | apply below_alloc | apply pw_below_drewN | apply below_drew1 | refine below_set ?_ GE232.out) | exact HB.out)⟩

end Go.Proofs.Ytopkiccdfmjjjaa.MFnExactFirstExponents
