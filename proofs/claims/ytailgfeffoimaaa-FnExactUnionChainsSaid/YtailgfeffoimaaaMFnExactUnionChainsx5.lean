-- Written by wip/mine.py (a program of this repo) for this claim.
import Derived.Test.YtailgfeffoimaaaMFnExactUnionChainsx0
import Derived.Test.YtailgfeffoimaaaMFnExactUnionChainsx4
import Derived.Test.YtailgfeffoimaaaMFnExactUnionChainsx1
import Derived.Test.YtailgfeffoimaaaMFnExactUnionChainsx2
import Derived.Test.YtailgfeffoimaaaMFnExactUnionChainsx3
namespace Go.Proofs.Ytailgfeffoimaaa.MFnExactUnionChains
open Go.RowKit Go.Proofs.YtailgfeffoimaaaW.PrintWords Go.Proofs.YtailgfeffoimaaaW.PrintLast Go.Proofs.YtailgfeffoimaaaW.PrintMore Go.Proofs.YtailgfeffoimaaaV
attribute [local go_sem] max2_int min2_int max_two min_two max_three min_three max_four min_four   -- for this text's walks alone
set_option linter.unusedVariables false
set_option linter.unusedSimpArgs false

/-! ### impl_toldChain: function 55 -/
def impl_toldChain.f (k : Nat) (l0 : List Int) : Option (List Int × Bool) := (impl_IsChain.f k l0).bind fun t204 => (if t204 = true then (some (l0, true)) else (some (([] : List Int), false)))
theorem impl_toldChain.mono : ∀ a0 k, LeO (impl_toldChain.f k a0) (impl_toldChain.f (k + 1) a0) := by
  intro a0 k
  unfold impl_toldChain.f
  repeat' first
      | (with_reducible exact impl_IsChain.mono _ _)
      | (with_reducible exact LeO.refl _)
      | (with_reducible exact LeO.none _)
      | (with_reducible refine LeO.ite ?_ ?_)
      | (with_reducible refine LeO.bind ?_ (fun _ => ?_))
      | exact impl_IsChain.mono _ _
      | exact LeO.none _
      | refine LeO.ite ?_ ?_
      | refine LeO.bind ?_ (fun _ => ?_)
set_option maxHeartbeats 8000000 in
set_option maxRecDepth 100000 in
theorem impl_toldChain.calls (k : Nat) (P0_ : Nat → Prop) (u9000_ : Value) (l0 : List Int) (r1 : List Int) (r2 : Bool) (w0 w : World) (hB : Below w0.heap.size w0 w) (ho0 : Kd.R (Kd.int .i64) 3 w w0.heap.size P0_ u9000_ l0) (h : impl_toldChain.f k l0 = some (r1, r2)) :
    Calls Try.prog 55 #[u9000_] w fun e w' => ∃ v0_ : Value, e = .returned (.tuple #[v0_, .bool r2]) ∧ Kd.R (Kd.int .i64) 3 w' w0.heap.size (fun k_ => (P0_ k_ ∨ w.heap.size ≤ k_)) v0_ r1 ∧ Below w0.heap.size w0 w' ∧ Kept w w' (fun k_ => P0_ k_) := by
  have HO0 := Aside0.mk (show Kd.R (Kd.int .i64) 3 w w0.heap.size (fun k_ => (P0_ k_ ∨ w.heap.size ≤ k_)) u9000_ l0 from Kd.R_mono ho0 (fun k_ hk => (.inl hk)))
  have HK := Aside0.mk (Kept.refl w (fun k_ => P0_ k_))
  have HW0 := Aside0.mk hB.size
  have HB := Aside0.mk hB
  clear hB
  have H : ((impl_IsChain.f k l0).bind fun t204 => (if t204 = true then (some (l0, true)) else (some (([] : List Int), false)))) = some (r1, r2) := h
  clear h
  replace H := Option.bind_eq_some_iff.mp H
  obtain ⟨t204, A20, H⟩ := H
  replace H : (if t204 = true then (some (l0, true)) else (some (([] : List Int), false))) = some (r1, r2) := H
  have A2 := Aside0.mk A20
  clear A20
  by_cases c3 : t204 = true
  · subst c3
    have H1 : (some (l0, true)) = some (r1, r2) := by rw [if_pos rfl] at H; exact H
    clear H
    have H := H1
    clear H1
    simp only [Option.some.injEq, Prod.mk.injEq] at H
    obtain ⟨rfl, rfl⟩ := H
    obtain ⟨Ao4, co4, eo4⟩ := Kd.R_slice HO0.out
    subst eo4
    go_enter Try.func55, Try.ntmps55
    go_wp2_with (first | ((with_reducible refine gate_callee (f := 53) rfl ?_); refine goesL_ (some 5) rfl rfl Try.func53 (by kernel_rfl) rfl #[.slice Ao4 l0.length co4] rfl (by (try simp only [List.map_toArray, List.map_cons, List.map_nil]); first | done | rfl | (simp only [List.length_drop, List.length_take]; rfl)) ?_; (with_reducible refine (impl_IsChain.calls k _ _ l0 true _ ?side1 ?side2 A2.out).mono ?_); (case side1 => repeat (first | exact (Kd.R_reads' HO0.out).2.2 | (with_reducible refine Kd.C_alloc ?_ _) | (with_reducible refine Kd.C_drewN ?_ _) | (with_reducible refine Kd.C_drew ?_))); (case side2 => exact (Kd.R_reads' HO0.out).2.1); rintro e w5 ⟨rfl, hb⟩; refine ⟨_, rfl, ?_⟩; have n0_ := Aside0.mk (Kd.R_below (by (with_reducible repeat (first | apply Kd.R_alloc | apply Kd.R_drewN | apply Kd.R_drew)); exact HO0.out) hb); have n1_ := Aside0.mk (Kept.below (S := (fun k_ => P0_ k_)) (by repeat (first | (with_reducible first | exact HK.out | apply Kept.alloc | apply Kept.drewN | apply Kept.drew) | exact HK.out)) hb); have n2_ := Aside0.mk (below_step (by repeat (first | (with_reducible first | exact HB.out | apply below_alloc | apply pw_below_drewN | apply below_drew1) | exact HB.out)) hb); clear HO0; clear HK; clear HB; have HO0 := n0_; have HK := n1_; have HB := n2_; clear n0_ n1_ n2_; (try clear hb)))
    go_ret2
    exact ⟨_, by first | rfl | (simp [errW_none, errW_some] <;> rfl) | (simp [*, errW_none, errW_some] <;> rfl), by (with_reducible repeat (first | apply Kd.R_alloc | apply Kd.R_drewN | apply Kd.R_drew)); exact HO0.out, by repeat (first | (with_reducible first | exact HB.out | apply below_alloc | apply pw_below_drewN | apply below_drew1) | exact HB.out), by repeat (first | (with_reducible first | exact HK.out | apply Kept.alloc | apply Kept.drewN | apply Kept.drew) | exact HK.out)⟩
  · replace c3 := Bool.eq_false_iff.mpr c3
    subst c3
    have H1 : (some (([] : List Int), false)) = some (r1, r2) := by rw [if_neg (show ¬ (false = true) by decide)] at H; exact H
    clear H
    have H := H1
    clear H1
    simp only [Option.some.injEq, Prod.mk.injEq] at H
    obtain ⟨rfl, rfl⟩ := H
    obtain ⟨Ao6, co6, eo6⟩ := Kd.R_slice HO0.out
    subst eo6
    go_enter Try.func55, Try.ntmps55
    go_wp2_with (first | ((with_reducible refine gate_callee (f := 53) rfl ?_); refine goesL_ (some 5) rfl rfl Try.func53 (by kernel_rfl) rfl #[.slice Ao6 l0.length co6] rfl (by (try simp only [List.map_toArray, List.map_cons, List.map_nil]); first | done | rfl | (simp only [List.length_drop, List.length_take]; rfl)) ?_; (with_reducible refine (impl_IsChain.calls k _ _ l0 false _ ?side1 ?side2 A2.out).mono ?_); (case side1 => repeat (first | exact (Kd.R_reads' HO0.out).2.2 | (with_reducible refine Kd.C_alloc ?_ _) | (with_reducible refine Kd.C_drewN ?_ _) | (with_reducible refine Kd.C_drew ?_))); (case side2 => exact (Kd.R_reads' HO0.out).2.1); rintro e w7 ⟨rfl, hb⟩; refine ⟨_, rfl, ?_⟩; have n0_ := Aside0.mk (Kd.R_below (by (with_reducible repeat (first | apply Kd.R_alloc | apply Kd.R_drewN | apply Kd.R_drew)); exact HO0.out) hb); have n1_ := Aside0.mk (Kept.below (S := (fun k_ => P0_ k_)) (by repeat (first | (with_reducible first | exact HK.out | apply Kept.alloc | apply Kept.drewN | apply Kept.drew) | exact HK.out)) hb); have n2_ := Aside0.mk (below_step (by repeat (first | (with_reducible first | exact HB.out | apply below_alloc | apply pw_below_drewN | apply below_drew1) | exact HB.out)) hb); clear HO0; clear HK; clear HB; have HO0 := n0_; have HK := n1_; have HB := n2_; clear n0_ n1_ n2_; (try clear hb)))
    go_ret2
    exact ⟨_, by first | rfl | (simp [errW_none, errW_some] <;> rfl) | (simp [*, errW_none, errW_some] <;> rfl), by first | exact Kd.R_nil _ _ _ _ _ | exact Kd.N_nil _ _ _ _ _ | exact Kd.V_nil _ _ _ _ _ | exact Kd.Q_nil _ _ _ _ _ | exact Kd.S_nil _ _ _ _ _, by repeat (first | (with_reducible first | exact HB.out | apply below_alloc | apply pw_below_drewN | apply below_drew1) | exact HB.out), by repeat (first | (with_reducible first | exact HK.out | apply Kept.alloc | apply Kept.drewN | apply Kept.drew) | exact HK.out)⟩


/-! ### slices_Concat_int_int: function 72 -/
section
def slices_Concat_int_int.f (l0 : List (List Int)) : Option (List Int) := if l0.length ≤ 1000000 ∧ l0.flatten.length ≤ 1000000000 then some l0.flatten else none
theorem slices_Concat_int_int.step (l0 : List (List Int)) (k : Nat) (h : k < l0.length) : (l0.take (k + 1)).flatten = (l0.take k).flatten ++ Go.Proofs.YtailgfeffoimaaaH.rdRow l0 (k : Int) := by
  have e : Go.Proofs.YtailgfeffoimaaaH.rdRow l0 (k : Int) = l0[k] := by unfold Go.Proofs.YtailgfeffoimaaaH.rdRow; rw [Int.toNat_natCast]; simp [List.getD, h]
  rw [List.take_succ_eq_append_getElem h, List.flatten_append, e]
  simp
theorem slices_Concat_int_int.part (l0 : List (List Int)) (k : Nat) : (l0.take k).flatten.length ≤ l0.flatten.length := by
  have := congrArg (fun l => l.flatten.length) (List.take_append_drop k l0)
  simp only [List.flatten_append, List.length_append] at this
  omega
theorem slices_Concat_int_int.num (n m : Nat) (h : n + m ≤ 1000000000) : wrap64 ((n : Int) + (m : Int)) = ((n + m : Nat) : Int) ∧ ¬ ((n + m : Nat) : Int) < 0 ∧ ¬ (n : Int) + (m : Int) < 0 ∧ wrap64 ((n : Int) + (m : Int)) = (n : Int) + (m : Int) := by
  refine ⟨?_, ?_, ?_, ?_⟩ <;> first | omega | (unfold wrap64; omega)
theorem slices_Concat_int_int.nums (l0 : List (List Int)) (k : Nat) (h : k < l0.length) (hs : l0.flatten.length ≤ 1000000000) : ∃ n m : Nat, (l0.take k).flatten.length = n ∧ (Go.Proofs.YtailgfeffoimaaaH.rdRow l0 (k : Int)).length = m ∧ (l0.take (k + 1)).flatten.length = n + m ∧ wrap64 ((n : Int) + (m : Int)) = ((n + m : Nat) : Int) ∧ ¬ ((n + m : Nat) : Int) < 0 ∧ ¬ (n : Int) + (m : Int) < 0 ∧ wrap64 ((n : Int) + (m : Int)) = (n : Int) + (m : Int) := by
  have e : (l0.take (k + 1)).flatten.length = (l0.take k).flatten.length + (Go.Proofs.YtailgfeffoimaaaH.rdRow l0 (k : Int)).length := by rw [slices_Concat_int_int.step l0 k h, List.length_append]
  have b := Nat.le_trans (e ▸ slices_Concat_int_int.part l0 (k + 1)) hs
  exact ⟨_, _, rfl, rfl, e, slices_Concat_int_int.num _ _ b⟩
theorem slices_Concat_int_int.eight (a b : Nat) (h : a + b ≤ 1000000000) : (a + b) * 8 ≤ 140737488355328 := by omega
set_option maxHeartbeats 2000000 in
set_option maxRecDepth 100000 in
theorem slices_Concat_int_int.calls (A0 : Option Addr) (c0 : Nat) (l0 : List (List Int)) (r : List Int) (w : World) (hr0 : Kd.C (Kd.slice 3 (Kd.int .i64)) w A0 l0.length l0) (hc0 : l0.length ≤ c0) (h : slices_Concat_int_int.f l0 = some r) :
    Calls Try.prog 72 #[.slice A0 l0.length c0] w fun e w' => ∃ v0_ : Value, e = .returned v0_ ∧ Kd.R (Kd.int .i64) 3 w' w.heap.size (fun _ => True) v0_ r ∧ Below w.heap.size w w' := by
  unfold slices_Concat_int_int.f at h
  by_cases hs : l0.length ≤ 1000000 ∧ l0.flatten.length ≤ 1000000000
  · rw [if_pos hs] at h
    obtain rfl := Option.some.inj h
    have HR0 := Aside0.mk hr0
    have HS := Aside0.mk hs
    clear hr0 hs h
    go_enter Try.func72, Try.ntmps72
    go_wp2
    go_loopg [3, 11] l0.length (fun gg s3 s11 wr => ∃ kk : Nat, Aside0 (kk ≤ l0.length ∧ l0.length - kk ≤ gg ∧ Below w.heap.size w wr) ∧ s3 = .int .i64 (((l0.take kk).flatten.length : Nat) : Int) ∧ s11 = .int .i64 kk)
    case atStart => exact ⟨0, ⟨⟨Nat.zero_le _, by omega, Below.refl _ _⟩⟩, rfl, rfl⟩
    case round =>
      obtain ⟨kk, HK, rfl, rfl⟩ := hrel
      obtain ⟨h1, h2, h4⟩ := HK.out
      clear HK
      by_cases hlt : kk < l0.length
      · have hltz : (kk : Int) < (l0.length : Int) := by omega
        obtain ⟨a0, B0, b0, ea, hx0, g0, hC0⟩ := Go.Proofs.YtailgfeffoimaaaH.at_row HR0.out (kk : Int) (by omega) hltz
        subst ea
        rw [Int.toNat_natCast] at hx0
        replace hx0 := pw_cell_below h4 hx0
        obtain ⟨n, m, hn, hm, hnm, w1, w2, w3, w4⟩ := slices_Concat_int_int.nums l0 kk hlt HS.out.2
        rw [hn]
        rw [hm] at hx0
        have H2 := Aside0.mk h2
        have H4 := Aside0.mk h4
        have HNM := Aside0.mk hnm
        clear h2 h4 hnm hn hm hC0 g0
        go_wp2
        go_roundg (l0.length - (kk + 1))
        case measure => have := H2.out; omega
        case rel => exact ⟨kk + 1, ⟨⟨by omega, by omega, H4.out⟩⟩, by rw [HNM.out]; first | rfl | (rw [w1]; done) | simp, by rw [show wrap64 ((kk : Int) + 1) = ((kk + 1 : Nat) : Int) by have := HS.out.1; unfold wrap64; omega]⟩
      · have hltz : ¬ (kk : Int) < (l0.length : Int) := by omega
        obtain rfl : kk = l0.length := by omega
        rw [List.take_length]
        obtain ⟨n, hn⟩ : ∃ n, l0.flatten.length = n := ⟨_, rfl⟩
        have HN := Aside0.mk (show n ≤ 1000000000 by rw [← hn]; exact HS.out.2)
        rw [hn]
        have H4 := Aside0.mk h4
        clear h2 h4 hn
        go_wp2_with (go_at_call 97; refine (Go.Proofs.YtailgfeffoimaaaS.grow_f97 n wr HN.out).mono ?_; rintro e w5 ⟨v5, rfl, ho, hb⟩; have HO5 := Aside0.mk ho; have HB5 := Aside0.mk hb; clear ho hb)
        go_loopg [6, 27] l0.length (fun gg s6 s27 wq => ∃ (kk : Nat) (v : Value), Aside0 (kk ≤ l0.length ∧ l0.length - kk ≤ gg ∧ Below w.heap.size w wq ∧ Kd.R (Kd.int .i64) 3 wq w.heap.size (fun _ => True) v (l0.take kk).flatten) ∧ s6 = v ∧ s27 = .int .i64 kk)
        case atStart => exact ⟨0, v5, ⟨⟨Nat.zero_le _, by omega, H4.out.trans (HB5.out.mono H4.out.size), by rw [List.take_zero]; exact Kd.R_lower HO5.out H4.out.size⟩⟩, rfl, rfl⟩
        case round =>
          obtain ⟨kk, v, HK, rfl, rfl⟩ := hrel
          obtain ⟨h1, h2, h4, h5⟩ := HK.out
          clear HK
          by_cases hlt : kk < l0.length
          · have hltz : (kk : Int) < (l0.length : Int) := by omega
            obtain ⟨a0, B0, b0, ea, hx0, g0, hC0⟩ := Go.Proofs.YtailgfeffoimaaaH.at_row HR0.out (kk : Int) (by omega) hltz
            subst ea
            rw [Int.toNat_natCast] at hx0
            replace hx0 := pw_cell_below h4 hx0
            have hst := slices_Concat_int_int.step l0 kk hlt
            have hb := Nat.le_trans (slices_Concat_int_int.part l0 (kk + 1)) HS.out.2
            rw [hst, List.length_append] at hb
            have HL := Aside0.mk (slices_Concat_int_int.eight _ _ hb)
            clear hb
            generalize Go.Proofs.YtailgfeffoimaaaH.rdRow l0 (kk : Int) = ys at *
            generalize (l0.take kk).flatten = xs at *
            have H2 := Aside0.mk h2
            have H4 := Aside0.mk h4
            have H5 := Aside0.mk h5
            have HST := Aside0.mk hst
            have HC := Aside0.mk (Kd.C_below hC0 h4)
            clear h2 h4 h5 hst hC0 g0
            go_wp2_with ((with_reducible refine gate_builtin (b := .append) (xs := #[.tmp 31, .tmp 32]) rfl ?_); at_builtin; refine Kd.R_append_rows (Kd.int .i64) (w0 := w) w.heap.size rfl (.tmp 31) (.tmp 32) 22 3 (.int .i64 0) 8 rfl Try.underlying22 info3 rfl (by decide) (by omega) _ xs ys _ _ _ (fun _ => True) (fun _ => False) rfl rfl H5.out HC.out (fun _ _ h => h) (fun _ h => h.elim) (fun _ _ => trivial) H4.out H4.out.size HL.out ?_; intro v6 w6 ho hb hg hat; have HO6 := Aside0.mk ho; have HB6 := Aside0.mk hb; clear ho hb hg hat)
            go_roundg (l0.length - (kk + 1))
            case measure => have := H2.out; omega
            case rel => exact ⟨kk + 1, v6, ⟨⟨by omega, by omega, HB6.out, by rw [HST.out]; exact HO6.out⟩⟩, rfl, by rw [show wrap64 ((kk : Int) + 1) = ((kk + 1 : Nat) : Int) by unfold wrap64; have := HS.out.1; omega]⟩
          · have hltz : ¬ (kk : Int) < (l0.length : Int) := by omega
            obtain rfl : kk = l0.length := by omega
            rw [List.take_length] at h5
            have H4 := Aside0.mk h4
            have H5 := Aside0.mk h5
            clear h2 h4 h5
            go_wp2
            go_ret
            exact ⟨_, rfl, H5.out, H4.out⟩
  · rw [if_neg hs] at h; cases h
end



/-! ### impl_UnionChains: function 39 -/
section
def impl_UnionChains.inc (l : List Int) : List Int := Go.Lib.compact (l.mergeSort fun x y => decide (x ≤ y))
def impl_UnionChains.j (k : Nat) (l0 l1 : List Int) : Option (List Int × Bool) :=
  if 0 < l0.length then (if l0.length ≤ 1000000 then (if l1.length ≤ 1000000 then impl_toldChain.f k (impl_UnionChains.inc (l0 ++ l1)) else none) else none) else none
def impl_UnionChains.f (k : Nat) (l0 l1 : List Int) : Option (List Int × Bool) :=
  (impl_IsChain.f k l0).bind fun c => if c = true then ((impl_IsChain.f k l1).bind fun d => if d = true then impl_UnionChains.j k l0 l1 else some ([], false)) else some ([], false)
theorem impl_UnionChains.mono : ∀ a0 a1 k, LeO (impl_UnionChains.f k a0 a1) (impl_UnionChains.f (k + 1) a0 a1) := by
  intro a0 a1 k
  unfold impl_UnionChains.f impl_UnionChains.j
  repeat' first
      | (with_reducible exact impl_IsChain.mono _ _)
      | (with_reducible exact impl_toldChain.mono _ _)
      | (with_reducible exact LeO.refl _)
      | (with_reducible exact LeO.none _)
      | (with_reducible refine LeO.ite ?_ ?_)
      | (with_reducible refine LeO.bind ?_ (fun _ => ?_))
set_option maxHeartbeats 2000000 in
set_option maxRecDepth 100000 in
/-- increasing. -/
theorem impl_UnionChains.inc_calls {base : Nat} {w0 w : World} {ok : Nat → Prop} {v : Value} {l : List Int} (hB : Below base w0 w) (ho : Kd.R (Kd.int .i64) 3 w base ok v l) (hp : 0 < l.length) (hs : l.length ≤ 1000000000) :
    Calls Try.prog 71 #[v] w fun e w' => ∃ v' : Value, e = .returned v' ∧ Kd.R (Kd.int .i64) 3 w' base ok v' (impl_UnionChains.inc l) ∧ Below base w0 w' := by
  have hl : (l.mergeSort fun x y => decide (x ≤ y)).length = l.length := List.length_mergeSort l
  have HP := Aside0.mk (show 0 < (l.mergeSort fun x y => decide (x ≤ y)).length by rw [hl]; exact hp)
  have HSRT := Aside0.mk (Go.Proofs.YtailgfeffoimaaaS.sort_f95 hB ho hp (Nat.lt_of_le_of_lt hs (by decide)))
  have HI := Aside0.mk (show Go.Lib.compact (l.mergeSort fun x y => decide (x ≤ y)) = impl_UnionChains.inc l from rfl)
  clear hB ho hp hs hl
  obtain ⟨m, hm⟩ : ∃ m, (l.mergeSort fun x y => decide (x ≤ y)) = m := ⟨_, rfl⟩
  rw [hm] at HP HSRT HI
  clear hm
  go_enter Try.func71, Try.ntmps71
  go_wp2_with (first | (go_at_call 95; refine HSRT.out.mono ?_; rintro e w1 ⟨rfl, ho, hb⟩; have HO1 := Aside0.mk ho; have HB1 := Aside0.mk hb; clear ho hb) | (go_at_call 96; refine (Go.Proofs.YtailgfeffoimaaaS.comp_f96 HB1.out HO1.out HP.out (Go.Lib.compact_length_le _)).mono ?_; rintro e w2 ⟨v2, rfl, ho, hb⟩; have HO2 := Aside0.mk ho; have HB2 := Aside0.mk hb; clear ho hb))
  go_ret
  exact ⟨_, rfl, by rw [← HI.out]; exact HO2.out, HB2.out⟩
/-- The row of two rows. -/
theorem impl_UnionChains.two (W : World) (vb : Nat) (A0 A1 : Option Addr) (c0 c1 : Nat) (l0 l1 : List Int) (h : W.heap[vb]? = some (.cells #[.slice A0 l0.length c0, .slice A1 l1.length c1] 22 (0, 0))) (h0 : Kd.C (Kd.int .i64) W A0 l0.length l0) (hc0 : l0.length ≤ c0) (h1 : Kd.C (Kd.int .i64) W A1 l1.length l1) (hc1 : l1.length ≤ c1) :
    Kd.C (Kd.slice 3 (Kd.int .i64)) W (some ⟨vb, 0, none⟩) [l0, l1].length [l0, l1] := by
  refine ⟨rfl, by simp, fun _ => ⟨_, rfl, fun j p hj => ?_⟩⟩
  match j, hj with
  | 0, hj =>
    obtain rfl : l0 = p := by simpa using hj
    refine ⟨[.slice A0 l0.length c0], rfl, ⟨A0, c0, rfl, hc0, h0⟩, fun i u hi => ?_⟩
    obtain ⟨rfl, rfl⟩ : i = 0 ∧ Value.slice A0 l0.length c0 = u := by match i, hi with | 0, hi => exact ⟨rfl, by simpa using hi⟩ | i + 1, hi => simp at hi
    exact (blk_cell h 0).trans rfl
  | 1, hj =>
    obtain rfl : l1 = p := by simpa using hj
    refine ⟨[.slice A1 l1.length c1], rfl, ⟨A1, c1, rfl, hc1, h1⟩, fun i u hi => ?_⟩
    obtain ⟨rfl, rfl⟩ : i = 0 ∧ Value.slice A1 l1.length c1 = u := by match i, hi with | 0, hi => exact ⟨rfl, by simpa using hi⟩ | i + 1, hi => simp at hi
    exact (blk_cell h 1).trans rfl
  | j + 2, hj => simp at hj
set_option maxHeartbeats 2000000 in
set_option maxRecDepth 100000 in
theorem impl_UnionChains.calls (k : Nat) (A0 : Option Addr) (c0 : Nat) (l0 : List Int) (A1 : Option Addr) (c1 : Nat) (l1 : List Int) (r1 : List Int) (r2 : Bool) (w : World) (hr0 : Kd.C (Kd.int .i64) w A0 l0.length l0) (hc0 : l0.length ≤ c0) (hr1 : Kd.C (Kd.int .i64) w A1 l1.length l1) (hc1 : l1.length ≤ c1) (h : impl_UnionChains.f k l0 l1 = some (r1, r2)) :
    Calls Try.prog 39 #[.slice A0 l0.length c0, .slice A1 l1.length c1] w fun e w' => ∃ v0_ : Value, e = .returned (.tuple #[v0_, .bool r2]) ∧ Kd.R (Kd.int .i64) 3 w' w.heap.size (fun _ => True) v0_ r1 ∧ Below w.heap.size w w' := by
  unfold impl_UnionChains.f at h
  obtain ⟨c, hch, h⟩ := Option.bind_eq_some_iff.1 h
  have HR := Aside0.mk hr0
  have HC0 := Aside0.mk hc0
  have HR1 := Aside0.mk hr1
  have HC1 := Aside0.mk hc1
  have HCH := Aside0.mk hch
  clear hr0 hc0 hr1 hc1 hch
  cases c with
  | false =>
    obtain ⟨rfl, rfl⟩ : r1 = [] ∧ r2 = false := by simp at h; exact h
    clear h
    go_enter Try.func39, Try.ntmps39
    go_wp2_with (go_at_call 53; (with_reducible refine (impl_IsChain.calls k A0 c0 l0 false _ HR.out HC0.out HCH.out).mono ?_); rintro e w5 ⟨rfl, hb⟩; have HB5 := Aside0.mk hb; clear hb)
    go_ret2
    exact ⟨_, rfl, Kd.R_nil _ _ _ _ _, HB5.out⟩
  | true =>
    rw [if_pos rfl] at h
    obtain ⟨d, hd, h⟩ := Option.bind_eq_some_iff.1 h
    have HD := Aside0.mk hd
    clear hd
    cases d with
    | false =>
      obtain ⟨rfl, rfl⟩ : r1 = [] ∧ r2 = false := by simp at h; exact h
      clear h
      go_enter Try.func39, Try.ntmps39
      go_wp2_with (first | (go_at_call 53; (with_reducible refine (impl_IsChain.calls k A0 c0 l0 true w HR.out HC0.out HCH.out).mono ?_); rintro e w5 ⟨rfl, hb⟩; have HB5 := Aside0.mk hb; clear hb) | (go_at_call 53; (with_reducible refine (impl_IsChain.calls k A1 c1 l1 false w5 (Kd.C_below HR1.out HB5.out) HC1.out HD.out).mono ?_); rintro e w6 ⟨rfl, hb⟩; have HB6 := Aside0.mk (HB5.out.trans (hb.mono HB5.out.size)); clear hb))
      go_ret2
      exact ⟨_, rfl, Kd.R_nil _ _ _ _ _, HB6.out⟩
    | true =>
      rw [if_pos rfl] at h
      unfold impl_UnionChains.j at h
      by_cases q0 : 0 < l0.length
      · rw [if_pos q0] at h
        by_cases q1 : l0.length ≤ 1000000
        · rw [if_pos q1] at h
          by_cases q2 : l1.length ≤ 1000000
          · rw [if_pos q2] at h
            have H := Aside0.mk h
            have QP := Aside0.mk (show 0 < (l0 ++ l1).length by rw [List.length_append]; omega)
            have QS := Aside0.mk (show (l0 ++ l1).length ≤ 1000000000 by rw [List.length_append]; omega)
            have QC := Aside0.mk (show slices_Concat_int_int.f [l0, l1] = some (l0 ++ l1) by
              unfold slices_Concat_int_int.f
              have e : [l0, l1].flatten = l0 ++ l1 := by simp
              rw [e, if_pos ⟨by simp, by rw [List.length_append]; omega⟩])
            clear h q0 q1 q2
            go_enter Try.func39, Try.ntmps39
            go_wp2_with (first | (go_at_call 53; (with_reducible refine (impl_IsChain.calls k A0 c0 l0 true w HR.out HC0.out HCH.out).mono ?_); rintro e w5 ⟨rfl, hb⟩; have HB5 := Aside0.mk hb; clear hb) | (go_at_call 53; (with_reducible refine (impl_IsChain.calls k A1 c1 l1 true w5 (Kd.C_below HR1.out HB5.out) HC1.out HD.out).mono ?_); rintro e w6 ⟨rfl, hb⟩; have HB6 := Aside0.mk (HB5.out.trans (hb.mono HB5.out.size)); clear hb) | (go_at_call 72; refine (slices_Concat_int_int.calls (some ⟨w6.heap.size, 0, none⟩) 2 [l0, l1] (l0 ++ l1) _ (impl_UnionChains.two _ w6.heap.size A0 A1 c0 c1 l0 l1 (Go.Proofs.YtailgfeffoimaaaS.new_blk w6 _) (Kd.C_alloc (Kd.C_below HR.out HB6.out) _) HC0.out (Kd.C_alloc (Kd.C_below HR1.out HB6.out) _) HC1.out) (Nat.le_refl _) QC.out).mono ?_; rintro e w7 ⟨v7, rfl, ho, hb⟩; have HB7 := Aside0.mk (below_alloc (Below.refl w6.heap.size w6) (Obj.cells #[.slice A0 l0.length c0, .slice A1 l1.length c1] 22)); have HO7 := Aside0.mk (Kd.R_lower ho HB7.out.size); have HB8 := Aside0.mk (HB7.out.trans (hb.mono HB7.out.size)); clear ho hb) | (go_at_call 71; refine (impl_UnionChains.inc_calls (base := w6.heap.size) (w0 := w6) (w := w7) HB8.out HO7.out QP.out QS.out).mono ?_; rintro e w8 ⟨v8, rfl, ho, hb⟩; have HO8 := Aside0.mk ho; have HB9 := Aside0.mk hb; clear ho hb) | (go_at_call 55; refine (impl_toldChain.calls k _ v8 _ r1 r2 w6 w8 HB9.out HO8.out H.out).mono ?_; rintro e w9 ⟨v9, rfl, ho, hb, _⟩; have HO9 := Aside0.mk ho; have HB10 := Aside0.mk hb; clear ho hb))
            go_ret2
            exact ⟨_, rfl, Kd.R_lower (Kd.R_mono HO9.out (fun _ _ => trivial)) HB6.out.size, HB6.out.trans (HB10.out.mono HB6.out.size)⟩
          · rw [if_neg q2] at h; cases h
        · rw [if_neg q1] at h; cases h
      · rw [if_neg q0] at h; cases h
end


end Go.Proofs.Ytailgfeffoimaaa.MFnExactUnionChains
