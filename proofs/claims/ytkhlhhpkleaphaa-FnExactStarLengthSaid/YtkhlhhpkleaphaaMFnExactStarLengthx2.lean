-- Written by wip/mine.py (a program of this repo) for this claim.
import Derived.Test.YtkhlhhpkleaphaaMFnExactStarLengthx0
import Derived.Test.YtkhlhhpkleaphaaMFnExactStarLengthx1
namespace Go.Proofs.Ytkhlhhpkleaphaa.MFnExactStarLength
open Go.RowKit Go.Proofs.YtkhlhhpkleaphaaW.PrintWords Go.Proofs.YtkhlhhpkleaphaaW.PrintLast Go.Proofs.YtkhlhhpkleaphaaW.PrintMore Go.Proofs.YtkhlhhpkleaphaaV
attribute [local go_sem] max2_int min2_int max_two min_two max_three min_three max_four min_four   -- for this text's walks alone
set_option linter.unusedVariables false
set_option linter.unusedSimpArgs false


/-! ### slices_Clone_int_int: function 87 -/
def slices_Clone_int_int.f (l0 : List Int) : Option (List Int) := if l0.length < 17592186044416 then some l0 else none
set_option maxHeartbeats 8000000 in
set_option maxRecDepth 100000 in
theorem slices_Clone_int_int.calls (A0 : Option Addr) (c0 : Nat) (l0 : List Int) (r : List Int) (w : World) (hr0 : Kd.C (Kd.int .i64) w A0 l0.length l0) (hc0 : l0.length ≤ c0) (h : slices_Clone_int_int.f l0 = some r) :
    Calls Try.prog 87 #[.slice A0 l0.length c0] w fun e w' => ∃ v0_ : Value, e = .returned (v0_) ∧ Kd.R (Kd.int .i64) 3 w' w.heap.size (fun _ => True) v0_ r ∧ Below w.heap.size w w' := by
  have hlr : l0.length < 17592186044416 ∧ l0 = r := by
    unfold slices_Clone_int_int.f at h
    split at h
    · exact ⟨by assumption, Option.some.inj h⟩
    · cases h
  obtain ⟨hlt, rfl⟩ := hlr
  clear h
  cases A0 with
  | none =>
    have hl : l0 = [] := by
      by_cases hp : 0 < l0.length
      · obtain ⟨ad, e, _⟩ := hr0.2.2 hp
        cases e
      · exact List.eq_nil_of_length_eq_zero (by omega)
    subst hl
    have heq := fun (W : World) => Lib.run_eql_slice_nil (P := Try.prog) W 26 3 none 0 c0 0 0 Try.underlying26
    go_enter Try.func87, Try.ntmps87
    go_wp2
    go_ret
    exact ⟨_, rfl, Kd.R_nil _ _ _ _ _, Below.refl _ _⟩
  | some a0 =>
    have heq := fun (W : World) => Lib.run_eql_slice_nil (P := Try.prog) W 26 3 (some a0) l0.length c0 0 0 Try.underlying26
    have HR0 := Aside0.mk hr0
    have HC0 := Aside0.mk hc0
    have LM := Aside0.mk hlt
    clear hr0 hc0 hlt
    have HB := Aside0.mk (Below.refl w.heap.size w)
    go_enter Try.func87, Try.ntmps87
    go_wp2_with (first | ((with_reducible refine gate_dst (N := 5) rfl ?_); refine Kd.R_lit (Kd.int .i64) _ 3 ?hg (N := 5) ?hd (xs := ([] : List Int)) (inner := []) (ok := fun _ => True) (okp := fun _ => True) ?hr ?hp (fun _ hk => hk) trivial (Below.refl _ _) (Nat.le_refl _) (by simp) ?_; (case hd => rfl); (case hg => rfl); (case hr => first | (go_simp; done) | (go_simp; rfl)); (case hp => exact (Reps.none _ _)); intro v119 w3 ho4 hb hg_ hnew_; clear hg_ hnew_; have HO120 := Aside0.mk ho4; have HB1 := Aside0.mk hb; clear hb ho4) | ((with_reducible refine gate_builtin (b := .append) (xs := #[.tmp 5, .tmp 6]) rfl ?_); at_builtin; refine Kd.R_append_rows (Kd.int .i64) (w0 := w) w.heap.size rfl (.tmp 5) (.tmp 6) 26 3 (.int .i64 0) 8 rfl Try.underlying26 info3 rfl (by decide) (by omega) v119 [] l0 _ _ _ (fun _ => True) (fun _ => False) rfl rfl ?aO ?aR (fun _ _ h => h) (fun _ h => h.elim) ?aF ?aB ?aS ?aL ?_; (case aR => exact Kd.C_below HR0.out HB1.out); (case aB => exact HB1.out); (case aF => exact (fun _ _ => trivial)); (case aO => exact HO120.out); (case aS => exact HB1.out.size); (case aL => have := LM.out; simp only [List.length_nil]; omega); intro v122 w5 ho hb hg hat; rw [List.nil_append] at ho; have HO2 := Aside0.mk ho; have HB2 := Aside0.mk hb; clear ho hb hg hat))
    go_ret
    exact ⟨_, rfl, HO2.out, HB2.out⟩



/-! ### impl_firstStar: function 85 -/
def impl_firstStar.fc (l : List Int) (_ : List Int) : Bool × List Int := (true, l)
def impl_firstStar.f (k : Nat) (n len : Int) : Option (List Int × Bool) := (impl_stars.f impl_firstStar.fc k n len [1] []).bind fun r => some (r.2, r.1)
theorem impl_firstStar.mono : ∀ a0 a1 k, LeO (impl_firstStar.f k a0 a1) (impl_firstStar.f (k + 1) a0 a1) := by
  intro a0 a1 k
  unfold impl_firstStar.f
  repeat' first
      | (with_reducible exact impl_stars.mono _ _ _ _ _ _)
      | (with_reducible exact LeO.refl _)
      | (with_reducible exact LeO.none _)
      | (with_reducible refine LeO.ite ?_ ?_)
      | (with_reducible refine LeO.bind ?_ (fun _ => ?_))
def impl_firstStar.I (base B : Nat) (s : List Int) (W : World) : Prop := ∃ v, W.heap[B]? = some (.cells #[v] 26 (0, 0)) ∧ Kd.R (Kd.int .i64) 3 W base (fun k => k ≠ B) v s
set_option maxHeartbeats 2000000 in
set_option maxRecDepth 100000 in
theorem impl_firstStar.clos (base B : Nat) (hb : base ≤ B) (A : Option Addr) (c : Nat) (l s : List Int) (w : World) (h : impl_firstStar.I base B s w) (hr : Kd.C (Kd.int .i64) w A l.length l) (hc : l.length ≤ c) (hl : l.length < 17592186044416) :
    Calls Try.prog 86 #[.slice A l.length c, .pointer (some ⟨B, 0, none⟩)] w fun e w' => e = .returned (.bool true) ∧ impl_firstStar.I base B l w' ∧ Kept w w' (fun k => k = B) ∧ Below base w w' := by
  obtain ⟨v, hx, hR⟩ := h
  have HX := Aside0.mk hx
  have HLT := Aside0.mk (blk_lt hx)
  have HR := Aside0.mk hr
  have HCL := Aside0.mk (show slices_Clone_int_int.f l = some l by unfold slices_Clone_int_int.f; rw [if_pos hl])
  clear hx hR hr hl
  go_enter Try.func86, Try.ntmps86
  go_wp2_with (go_at_call 87; (with_reducible refine (slices_Clone_int_int.calls A c l l w HR.out hc HCL.out).mono ?_); rintro e w1 ⟨v1, rfl, ho0, hb1⟩; have HO := Aside0.mk ho0; have HB1 := Aside0.mk hb1; have hc0 : w1.cell? ⟨B, 0, none⟩ = some v := (blk_cell ((hb1.block B HLT.out).trans HX.out) 0).trans rfl; have hf0 := blk_frozen ((hb1.block B HLT.out).trans HX.out) 0; clear ho0 hb1; obtain ⟨Ao, co, eo⟩ := Kd.R_slice HO.out; subst eo)
  go_ret
  have hX1 : w1.heap[B]? = some (.cells #[v] 26 (0, 0)) := (HB1.out.block B HLT.out).trans HX.out
  have hK : Kept w1 (w1.setCell ⟨B, 0, none⟩ (.slice Ao l.length co)) (fun k => k = B) := Kept.setCell (S := fun k => k = B) (p := ⟨B, 0, none⟩) (Kept.refl w1 _) (.inl rfl) _
  have hge : ∀ k, (Value.slice Ao l.length co).ownBlock = some k → k ≠ B := fun k hk e => by have := Kd.R_base HO.out k hk; have := HLT.out; omega
  refine ⟨rfl, ⟨.slice Ao l.length co, (blk_set hX1 0 _).trans rfl, ?_⟩, ?_, ?_⟩
  · exact Kd.R_lower (Kd.R_mono (Kd.R_keptB (Kd.R_tight rfl HO.out) hK (fun k e => hge k e.symm)) (fun k hk => hge k hk.1.symm)) (by have := HLT.out; omega)
  · exact (Kept.of_below HB1.out _).then_ hK (fun _ h => .inl h)
  · exact (HB1.out.mono (by have := HLT.out; omega)).trans ((Below.refl base w1).setCell hb _)
theorem impl_firstStar.env (base B : Nat) (hb : base ≤ B) : impl_stars.Env impl_firstStar.fc 86 #[.pointer (some ⟨B, 0, none⟩)] base (fun k => k = B) (impl_firstStar.I base B) where
  enters := enters_of Try.func86 (by kernel_rfl) rfl
  lt := fun s w k h hk => by subst hk; obtain ⟨v, h, _⟩ := h; exact blk_lt h
  size := fun s w h => by obtain ⟨v, h, _⟩ := h; exact Nat.le_of_lt (Nat.lt_of_le_of_lt hb (blk_lt h))
  step := fun s w W h hW => by obtain ⟨v, h, hR⟩ := h; exact ⟨v, (hW.block B (blk_lt h)).trans h, Kd.R_below hR hW⟩
  call := fun s A c l w h hr hc hl => impl_firstStar.clos base B hb A c l s w h (hr w (Kept.refl w _)) hc hl
theorem impl_firstStar.go (k : Nat) (n len : Int) (r : Bool × List Int) (W : World) (B C base : Nat) (hB : impl_firstStar.I base B [] W) (hC : W.heap[C]? = some (.cells #[.int .i64 1] 3 (0, 0))) (hne : C ≠ B) (hb : base ≤ B) (h : impl_stars.f impl_firstStar.fc k n len [1] [] = some r) :
    Calls Try.prog 55 #[.int .i64 n, .int .i64 len, .slice (some ⟨C, 0, none⟩) 1 1, .func (.func 86) #[] #[.pointer (some ⟨B, 0, none⟩)]] W fun e w' => e = .returned (.bool r.1) ∧ impl_firstStar.I base B r.2 w' ∧ Below base W w' := by
  refine (impl_stars.calls (impl_firstStar.env base B hb) k n len (some ⟨C, 0, none⟩) 1 [1] [] r W hB (fun W' hk => ?_) (Nat.le_refl _) h).mono ?_
  · have hC' : W'.heap[C]? = some (.cells #[.int .i64 1] 3 (0, 0)) := (hk.2 C (blk_lt hC) hne).trans hC
    have hR : Kd.R (Kd.int .i64) 3 W' C (fun _ => True) (.slice (some ⟨C, 0, none⟩) 1 1) [(1 : Int)] :=
      Kd.R_of_own (enc := Value.int .i64) (h1 := fun _ => rfl) ⟨by simp [encs], .inr ⟨C, 1, #[.int .i64 1], rfl, Nat.le_refl _, hC', by decide, by decide, by simp, by simp [encs]⟩⟩ (fun _ _ => trivial)
    exact (Kd.R_reads' hR).2.2
  · rintro e w' ⟨rfl, h1, h2, h3⟩
    exact ⟨rfl, h1, h3⟩
set_option maxHeartbeats 2000000 in
set_option maxRecDepth 100000 in
theorem impl_firstStar.calls (k : Nat) (a0 : Int) (a1 : Int) (r1 : List Int) (r2 : Bool) (w : World) (h : impl_firstStar.f k a0 a1 = some (r1, r2)) :
    Calls Try.prog 85 #[.int .i64 a0, .int .i64 a1] w fun e w' => ∃ v0_ : Value, e = .returned (.tuple #[v0_, .bool r2]) ∧ Kd.R (Kd.int .i64) 3 w' w.heap.size (fun _ => True) v0_ r1 ∧ Below w.heap.size w w' := by
  unfold impl_firstStar.f at h
  obtain ⟨⟨rb, rm⟩, hst, h⟩ := Option.bind_eq_some_iff.mp h
  obtain ⟨rfl, rfl⟩ := Prod.mk.inj (Option.some.inj h)
  clear h
  have HST := Aside0.mk hst
  clear hst
  obtain ⟨W, hW⟩ : ∃ W, ((w.alloc (Obj.cells #[] 3)).alloc (Obj.cells #[.slice (some ⟨w.heap.size, 0, none⟩) 0 0] 26)).alloc (Obj.cells #[.int .i64 1] 3) = W := ⟨_, rfl⟩
  have s1 : (w.alloc (Obj.cells #[] 3)).heap.size = w.heap.size + 1 := by simp
  have s2 : ((w.alloc (Obj.cells #[] 3)).alloc (Obj.cells #[.slice (some ⟨w.heap.size, 0, none⟩) 0 0] 26)).heap.size = w.heap.size + 1 + 1 := by simp
  have hB0 : W.heap[w.heap.size + 1]? = some (.cells #[.slice (some ⟨w.heap.size, 0, none⟩) 0 0] 26 (0, 0)) := by
    rw [← hW, ← s1]
    exact blk_alloc (blk_new _ _) _
  have hC : W.heap[w.heap.size + 1 + 1]? = some (.cells #[.int .i64 1] 3 (0, 0)) := by
    rw [← hW, ← s2]
    exact blk_new _ _
  have hE : W.heap[w.heap.size]? = some (.cells #[] 3 (0, 0)) := by
    rw [← hW]
    exact blk_alloc (blk_alloc (blk_new _ _) _) _
  have hbW : Below w.heap.size w W := by
    rw [← hW]
    exact below_alloc (below_alloc (below_alloc (Below.refl _ _) _) _) _
  have HBW := Aside0.mk hbW
  have HI := Aside0.mk (show impl_firstStar.I w.heap.size (w.heap.size + 1) [] W from ⟨_, hB0, Kd.R_of_own (enc := Value.int .i64) (h1 := fun _ => rfl) ⟨by simp [encs], .inr ⟨w.heap.size, 0, #[], rfl, Nat.le_refl _, hE, by decide, by decide, by simp, by simp [encs]⟩⟩ (fun k hk => by cases hk; show w.heap.size ≠ w.heap.size + 1; omega)⟩)
  have HC := Aside0.mk hC
  have HW := Aside0.mk hW
  clear s1 s2 hB0 hC hE hbW hW
  go_enter Try.func85, Try.ntmps85
  go_wp2_with (go_at_call 55; rw [HW.out]; refine (impl_firstStar.go k a0 a1 (rb, rm) W (w.heap.size + 1) (w.heap.size + 1 + 1) w.heap.size HI.out HC.out (by omega) (by omega) HST.out).mono ?_; rintro e w5 ⟨rfl, ⟨v5, hx5, hr5⟩, hb5⟩; have hc5 : w5.cell? ⟨w.heap.size + 1, 0, none⟩ = some v5 := (blk_cell hx5 0).trans rfl; have HR5 := Aside0.mk hr5; have HB5 := Aside0.mk (HBW.out.trans hb5); clear hx5 hr5 hb5; obtain ⟨Ao, co, eo⟩ := Kd.R_slice HR5.out; subst eo)
  go_ret2
  exact ⟨_, rfl, Kd.R_mono (by (with_reducible repeat (first | apply Kd.R_alloc | apply Kd.R_drewN | apply Kd.R_drew)); exact HR5.out) (fun _ _ => trivial), by repeat (first | exact HB5.out | (with_reducible first | apply below_alloc | apply pw_below_drewN | apply below_drew1))⟩


/-! ### impl_shortest: function 71 -/
def impl_shortest.l0 : Nat → Int → Int → Option (List Int)
  | 0, _, _ => none
  | k + 1, x0, x3 => (impl_firstStar.f k x0 x3).bind fun bt137 => (if bt137.2 = true then (some bt137.1) else (impl_shortest.l0 k x0 (wrap64 (x3 + 1))))
def impl_shortest.f (k : Nat) (a0 : Int) : Option (List Int) := impl_shortest.l0 k a0 0
theorem impl_shortest.mono_l : ∀ k, (∀ y0 y1, LeO (impl_shortest.l0 k y0 y1) (impl_shortest.l0 (k + 1) y0 y1))
  | 0 => fun _ _ r h => by simp [impl_shortest.l0] at h
  | k + 1 => by
    have ih0 := impl_shortest.mono_l k
    · intro y0 y1
      unfold impl_shortest.l0
      repeat' first
      | (with_reducible exact ih0 _ _)
      | (with_reducible exact impl_firstStar.mono _ _ _)
      | (with_reducible exact LeO.refl _)
      | (with_reducible exact LeO.none _)
      | (with_reducible refine LeO.ite ?_ ?_)
      | (with_reducible refine LeO.bind ?_ (fun _ => ?_))
      | exact ih0 _ _
      | exact impl_firstStar.mono _ _ _
      | exact LeO.none _
      | refine LeO.ite ?_ ?_
      | refine LeO.bind ?_ (fun _ => ?_)
theorem impl_shortest.mono : ∀ a0 k, LeO (impl_shortest.f k a0) (impl_shortest.f (k + 1) a0) := by
  intro a0 k
  have ih0 := impl_shortest.mono_l k
  unfold impl_shortest.f
  repeat' first
      | (with_reducible exact ih0 _ _)
      | (with_reducible exact impl_firstStar.mono _ _ _)
      | (with_reducible exact LeO.refl _)
      | (with_reducible exact LeO.none _)
      | (with_reducible refine LeO.ite ?_ ?_)
      | (with_reducible refine LeO.bind ?_ (fun _ => ?_))
      | exact ih0 _ _
      | exact impl_firstStar.mono _ _ _
      | exact LeO.none _
      | refine LeO.ite ?_ ?_
      | refine LeO.bind ?_ (fun _ => ?_)
set_option maxHeartbeats 8000000 in
set_option maxRecDepth 100000 in
theorem impl_shortest.calls (k : Nat) (a0 : Int) (r : List Int) (w : World) (h : impl_shortest.f k a0 = some r) :
    Calls Try.prog 71 #[.int .i64 a0] w fun e w' => ∃ v0_ : Value, e = .returned (v0_) ∧ Kd.R (Kd.int .i64) 3 w' w.heap.size (fun _ => True) v0_ r ∧ Below w.heap.size w w' := by
  have HB := Aside0.mk (Below.refl w.heap.size w)
  have H : (impl_shortest.l0 k a0 0) = some r := h
  clear h
  have H' := Aside0.mk H
  clear H
  go_enter Try.func71, Try.ntmps71
  go_wp2
  go_loopg [3] k (fun kq v3 w' => ∃ (x3_1 : Int), v3 = .int .i64 x3_1 ∧ Aside0 (impl_shortest.l0 kq a0 x3_1 = some r) ∧ Aside0 (kq ≤ k) ∧ Aside0 (Below w.heap.size w w'))
  case atStart => exact ⟨(0), (by first | rfl | (simp; done) | (simp [*]; done)), H', ⟨Nat.le_refl _⟩, ⟨by repeat (first | (with_reducible first | exact HB.out | apply below_alloc | apply pw_below_drewN | apply below_drew1) | exact HB.out)⟩⟩
  case round =>
    clear H'
    obtain ⟨x3_1, rfl, HA, HK1, HB⟩ := hrel
    cases gk with
    | zero => exact absurd HA.out (by simp [impl_shortest.l0])
    | succ k1 =>
      have H := HA.out
      clear HA
      simp only [impl_shortest.l0] at H
      replace H := Option.bind_eq_some_iff.mp H
      obtain ⟨⟨t137, t138⟩, A20, H⟩ := H
      replace H : (if t138 = true then (some t137) else (impl_shortest.l0 k1 a0 (wrap64 (x3_1 + 1)))) = some r := H
      have A2 := Aside0.mk A20
      clear A20
      by_cases c3 : t138 = true
      · subst c3
        have H1 : (some t137) = some r := by rw [if_pos rfl] at H; exact H
        clear H
        have H := H1
        clear H1
        obtain rfl := Option.some.inj H
        go_wp2_with (first | ((with_reducible refine gate_callee (f := 85) rfl ?_); refine goesL_ (some 11) rfl rfl Try.func85 (by kernel_rfl) rfl #[.int .i64 a0, .int .i64 x3_1] rfl (by (try simp only [List.map_toArray, List.map_cons, List.map_nil]); first | done | rfl | (simp only [List.length_drop, List.length_take]; rfl)) ?_; (with_reducible refine (impl_firstStar.calls k1 a0 x3_1 t137 true _ A2.out).mono ?_); rintro e w4 ⟨v139, rfl, ho0, hb⟩; refine ⟨_, rfl, ?_⟩; have n0_ := Aside0.mk (Kd.R_lower ho0 (below_size (by repeat (first | (with_reducible first | exact HB.out | apply below_alloc | apply pw_below_drewN | apply below_drew1) | exact HB.out)))); have n1_ := Aside0.mk (below_step (by repeat (first | (with_reducible first | exact HB.out | apply below_alloc | apply pw_below_drewN | apply below_drew1) | exact HB.out)) hb); clear HB; have HO140 := n0_; have HB := n1_; clear n0_ n1_; (try clear hb); (try clear ho0)))
        go_ret
        exact ⟨_, by first | rfl | (simp [errW_none, errW_some] <;> rfl) | (simp [*, errW_none, errW_some] <;> rfl), by (with_reducible repeat (first | apply Kd.R_alloc | apply Kd.R_drewN | apply Kd.R_drew)); exact HO140.out, by repeat (first | (with_reducible first | exact HB.out | apply below_alloc | apply pw_below_drewN | apply below_drew1) | exact HB.out)⟩
      · replace c3 := Bool.eq_false_iff.mpr c3
        subst c3
        have H1 : (impl_shortest.l0 k1 a0 (wrap64 (x3_1 + 1))) = some r := by rw [if_neg (show ¬ (false = true) by decide)] at H; exact H
        clear H
        have H := H1
        clear H1
        have H' := Aside0.mk H
        clear H
        go_wp2_with (first | ((with_reducible refine gate_callee (f := 85) rfl ?_); refine goesL_ (some 11) rfl rfl Try.func85 (by kernel_rfl) rfl #[.int .i64 a0, .int .i64 x3_1] rfl (by (try simp only [List.map_toArray, List.map_cons, List.map_nil]); first | done | rfl | (simp only [List.length_drop, List.length_take]; rfl)) ?_; (with_reducible refine (impl_firstStar.calls k1 a0 x3_1 t137 false _ A2.out).mono ?_); rintro e w5 ⟨v139, rfl, ho0, hb⟩; refine ⟨_, rfl, ?_⟩; have n0_ := Aside0.mk (Kd.R_lower ho0 (below_size (by repeat (first | (with_reducible first | exact HB.out | apply below_alloc | apply pw_below_drewN | apply below_drew1) | exact HB.out)))); have n1_ := Aside0.mk (below_step (by repeat (first | (with_reducible first | exact HB.out | apply below_alloc | apply pw_below_drewN | apply below_drew1) | exact HB.out)) hb); clear HB; have HO140 := n0_; have HB := n1_; clear n0_ n1_; (try clear hb); (try clear ho0)))
        go_roundg k1
        case measure => have := HK1.out; omega
        case rel => exact ⟨(wrap64 (x3_1 + 1)), (by first | rfl | (simp; done) | (simp [*]; done)), H', ⟨by have := HK1.out; omega⟩, ⟨by repeat (first | (with_reducible first | exact HB.out | apply below_alloc | apply pw_below_drewN | apply below_drew1) | exact HB.out)⟩⟩

/-! ### impl_StarLength: function 38 -/
def impl_StarLength.f (k : Nat) (a0 : Int) : Option (Int × Bool) := (impl_isShort.f a0).bind fun t141 => (if t141 = true then ((impl_shortest.f k a0).bind fun t142 => (some (wrap64 ((t142.length : Int) - 1), true))) else (some (0, false)))
theorem impl_StarLength.mono : ∀ a0 k, LeO (impl_StarLength.f k a0) (impl_StarLength.f (k + 1) a0) := by
  intro a0 k
  unfold impl_StarLength.f
  repeat' first
      | (with_reducible exact impl_shortest.mono _ _)
      | (with_reducible exact LeO.refl _)
      | (with_reducible exact LeO.none _)
      | (with_reducible refine LeO.ite ?_ ?_)
      | (with_reducible refine LeO.bind ?_ (fun _ => ?_))
      | exact impl_shortest.mono _ _
      | exact LeO.none _
      | refine LeO.ite ?_ ?_
      | refine LeO.bind ?_ (fun _ => ?_)
set_option maxHeartbeats 8000000 in
set_option maxRecDepth 100000 in
theorem impl_StarLength.calls (k : Nat) (a0 : Int) (r1 : Int) (r2 : Bool) (w : World) (h : impl_StarLength.f k a0 = some (r1, r2)) :
    Calls Try.prog 38 #[.int .i64 a0] w fun e w' => e = .returned (.tuple #[.int .i64 r1, .bool r2]) ∧ Below w.heap.size w w' := by
  have HB := Aside0.mk (Below.refl w.heap.size w)
  have H : ((impl_isShort.f a0).bind fun t141 => (if t141 = true then ((impl_shortest.f k a0).bind fun t142 => (some (wrap64 ((t142.length : Int) - 1), true))) else (some (0, false)))) = some (r1, r2) := h
  clear h
  replace H := Option.bind_eq_some_iff.mp H
  obtain ⟨t141, A20, H⟩ := H
  replace H : (if t141 = true then ((impl_shortest.f k a0).bind fun t142 => (some (wrap64 ((t142.length : Int) - 1), true))) else (some (0, false))) = some (r1, r2) := H
  have A2 := Aside0.mk A20
  clear A20
  by_cases c3 : t141 = true
  · subst c3
    have H1 : ((impl_shortest.f k a0).bind fun t142 => (some (wrap64 ((t142.length : Int) - 1), true))) = some (r1, r2) := by rw [if_pos rfl] at H; exact H
    clear H
    have H := H1
    clear H1
    replace H := Option.bind_eq_some_iff.mp H
    obtain ⟨t142, A40, H⟩ := H
    replace H : (some (wrap64 ((t142.length : Int) - 1), true)) = some (r1, r2) := H
    have A4 := Aside0.mk A40
    clear A40
    simp only [Option.some.injEq, Prod.mk.injEq] at H
    obtain ⟨rfl, rfl⟩ := H
    go_enter Try.func38, Try.ntmps38
    go_wp2_with (first | ((with_reducible refine gate_callee (f := 53) rfl ?_); refine goesL_ (some 5) rfl rfl Try.func53 (by kernel_rfl) rfl #[.int .i64 a0] rfl (by (try simp only [List.map_toArray, List.map_cons, List.map_nil]); first | done | rfl | (simp only [List.length_drop, List.length_take]; rfl)) ?_; (with_reducible refine (impl_isShort.calls a0 true _ A2.out).mono ?_); rintro e w' ⟨rfl, ⟨nd, rfl⟩⟩; refine ⟨_, rfl, ?_⟩) | ((with_reducible refine gate_callee (f := 71) rfl ?_); refine goesL_ (some 8) rfl rfl Try.func71 (by kernel_rfl) rfl #[.int .i64 a0] rfl (by (try simp only [List.map_toArray, List.map_cons, List.map_nil]); first | done | rfl | (simp only [List.length_drop, List.length_take]; rfl)) ?_; (with_reducible refine (impl_shortest.calls k a0 t142 _ A4.out).mono ?_); rintro e w5 ⟨v143, rfl, ho0, hb⟩; refine ⟨_, rfl, ?_⟩; have n0_ := Aside0.mk (Kd.R_lower ho0 (below_size (by repeat (first | (with_reducible first | exact HB.out | apply below_alloc | apply pw_below_drewN | apply below_drew1) | exact HB.out)))); have n1_ := Aside0.mk (below_step (by repeat (first | (with_reducible first | exact HB.out | apply below_alloc | apply pw_below_drewN | apply below_drew1) | exact HB.out)) hb); clear HB; have HO144 := n0_; have HB := n1_; clear n0_ n1_; (try clear hb); (try clear ho0); obtain ⟨Ao6, co6, eo6⟩ := Kd.R_slice HO144.out; subst eo6))
    go_ret2
    exact ⟨by first | rfl | (simp [errW_none, errW_some] <;> rfl) | (simp [*, errW_none, errW_some] <;> rfl), by repeat (first | (with_reducible first | exact HB.out | apply below_alloc | apply pw_below_drewN | apply below_drew1) | exact HB.out)⟩
  · replace c3 := Bool.eq_false_iff.mpr c3
    subst c3
    have H1 : (some (0, false)) = some (r1, r2) := by rw [if_neg (show ¬ (false = true) by decide)] at H; exact H
    clear H
    have H := H1
    clear H1
    simp only [Option.some.injEq, Prod.mk.injEq] at H
    obtain ⟨rfl, rfl⟩ := H
    go_enter Try.func38, Try.ntmps38
    go_wp2_with (first | ((with_reducible refine gate_callee (f := 53) rfl ?_); refine goesL_ (some 5) rfl rfl Try.func53 (by kernel_rfl) rfl #[.int .i64 a0] rfl (by (try simp only [List.map_toArray, List.map_cons, List.map_nil]); first | done | rfl | (simp only [List.length_drop, List.length_take]; rfl)) ?_; (with_reducible refine (impl_isShort.calls a0 false _ A2.out).mono ?_); rintro e w' ⟨rfl, ⟨nd, rfl⟩⟩; refine ⟨_, rfl, ?_⟩))
    go_ret2
    exact ⟨by first | rfl | (simp [errW_none, errW_some] <;> rfl) | (simp [*, errW_none, errW_some] <;> rfl), by repeat (first | (with_reducible first | exact HB.out | apply below_alloc | apply pw_below_drewN | apply below_drew1) | exact HB.out)⟩

/-! ### laws_FnExactStarLength: function 13 -/
def laws_FnExactStarLength.f (k : Nat) (a0 : Int) : Option (Bool) := (spec_StarLength.f k a0).bind fun bt145 => ((impl_StarLength.f k a0).bind fun bt147 => (if bt147.1 = bt145.1 then (if (bt147.2 != bt145.2) = true then (some false) else (some true)) else (some false)))
theorem laws_FnExactStarLength.mono : ∀ a0 k, LeO (laws_FnExactStarLength.f k a0) (laws_FnExactStarLength.f (k + 1) a0) := by
  intro a0 k
  unfold laws_FnExactStarLength.f
  repeat' first
      | (with_reducible exact impl_StarLength.mono _ _)
      | (with_reducible exact spec_StarLength.mono _ _)
      | (with_reducible exact LeO.refl _)
      | (with_reducible exact LeO.none _)
      | (with_reducible refine LeO.ite ?_ ?_)
      | (with_reducible refine LeO.bind ?_ (fun _ => ?_))
      | exact impl_StarLength.mono _ _
      | exact spec_StarLength.mono _ _
      | exact LeO.none _
      | refine LeO.ite ?_ ?_
      | refine LeO.bind ?_ (fun _ => ?_)
set_option maxHeartbeats 8000000 in
set_option maxRecDepth 100000 in
theorem laws_FnExactStarLength.calls (k : Nat) (a0 : Int) (r : Bool) (w : World) (h : laws_FnExactStarLength.f k a0 = some r) :
    Calls Try.prog 13 #[.int .i64 a0] w fun e w' => e = .returned (.bool r) ∧ Below w.heap.size w w' := by
  have HB := Aside0.mk (Below.refl w.heap.size w)
  have H : ((spec_StarLength.f k a0).bind fun bt145 => ((impl_StarLength.f k a0).bind fun bt147 => (if bt147.1 = bt145.1 then (if (bt147.2 != bt145.2) = true then (some false) else (some true)) else (some false)))) = some r := h
  clear h
  replace H := Option.bind_eq_some_iff.mp H
  obtain ⟨⟨t145, t146⟩, A20, H⟩ := H
  replace H : ((impl_StarLength.f k a0).bind fun bt147 => (if bt147.1 = t145 then (if (bt147.2 != t146) = true then (some false) else (some true)) else (some false))) = some r := H
  have A2 := Aside0.mk A20
  clear A20
  replace H := Option.bind_eq_some_iff.mp H
  obtain ⟨⟨t147, t148⟩, A30, H⟩ := H
  replace H : (if t147 = t145 then (if (t148 != t146) = true then (some false) else (some true)) else (some false)) = some r := H
  have A3 := Aside0.mk A30
  clear A30
  by_cases c4 : t147 = t145
  · rw [if_pos c4] at H
    have c4b0 : (t147 == t145) = true := beq_iff_eq.mpr c4
    have c4b1 : (t147 != t145) = false := bne_eq_false_iff_eq.mpr c4
    clear c4
    by_cases c5 : (t148 != t146) = true
    · rw [if_pos c5] at H
      have c5b0 : (t148 != t146) = true := c5
      (try (have c5b1 : decide (t148 = t146) = false := by simpa using c5))
      (try (have c5b2 : (t148 == t146) = false := by simpa using c5))
      (try (have c5b3 : ¬ (t148 = t146) := by simpa using c5))
      clear c5
      obtain rfl := Option.some.inj H
      go_enter Try.func13, Try.ntmps13
      go_wp2_with (first | ((with_reducible refine gate_callee (f := 37) rfl ?_); refine goesL_ (some 9) rfl rfl Try.func37 (by kernel_rfl) rfl #[.int .i64 a0] rfl (by (try simp only [List.map_toArray, List.map_cons, List.map_nil]); first | done | rfl | (simp only [List.length_drop, List.length_take]; rfl)) ?_; (with_reducible refine (spec_StarLength.calls k a0 t145 t146 _ A2.out).mono ?_); rintro e w6 ⟨rfl, hb⟩; refine ⟨_, rfl, ?_⟩; have n0_ := Aside0.mk (below_step (by repeat (first | (with_reducible first | exact HB.out | apply below_alloc | apply pw_below_drewN | apply below_drew1) | exact HB.out)) hb); clear HB; have HB := n0_; clear n0_; (try clear hb)) | ((with_reducible refine gate_callee (f := 38) rfl ?_); refine goesL_ (some 14) rfl rfl Try.func38 (by kernel_rfl) rfl #[.int .i64 a0] rfl (by (try simp only [List.map_toArray, List.map_cons, List.map_nil]); first | done | rfl | (simp only [List.length_drop, List.length_take]; rfl)) ?_; (with_reducible refine (impl_StarLength.calls k a0 t147 t148 _ A3.out).mono ?_); rintro e w7 ⟨rfl, hb⟩; refine ⟨_, rfl, ?_⟩; have n0_ := Aside0.mk (below_step (by repeat (first | (with_reducible first | exact HB.out | apply below_alloc | apply pw_below_drewN | apply below_drew1) | exact HB.out)) hb); clear HB; have HB := n0_; clear n0_; (try clear hb)))
      go_ret
      exact ⟨by first | rfl | (simp [errW_none, errW_some] <;> rfl) | (simp [*, errW_none, errW_some] <;> rfl), by repeat (first | (with_reducible first | exact HB.out | apply below_alloc | apply pw_below_drewN | apply below_drew1) | exact HB.out)⟩
    · rw [if_neg c5] at H
      have c5b0 : (t148 != t146) = false := by simpa using c5
      (try (have c5b1 : decide (t148 = t146) = true := by simpa using c5))
      (try (have c5b2 : (t148 == t146) = true := by simpa using c5))
      clear c5
      obtain rfl := Option.some.inj H
      go_enter Try.func13, Try.ntmps13
      go_wp2_with (first | ((with_reducible refine gate_callee (f := 37) rfl ?_); refine goesL_ (some 9) rfl rfl Try.func37 (by kernel_rfl) rfl #[.int .i64 a0] rfl (by (try simp only [List.map_toArray, List.map_cons, List.map_nil]); first | done | rfl | (simp only [List.length_drop, List.length_take]; rfl)) ?_; (with_reducible refine (spec_StarLength.calls k a0 t145 t146 _ A2.out).mono ?_); rintro e w8 ⟨rfl, hb⟩; refine ⟨_, rfl, ?_⟩; have n0_ := Aside0.mk (below_step (by repeat (first | (with_reducible first | exact HB.out | apply below_alloc | apply pw_below_drewN | apply below_drew1) | exact HB.out)) hb); clear HB; have HB := n0_; clear n0_; (try clear hb)) | ((with_reducible refine gate_callee (f := 38) rfl ?_); refine goesL_ (some 14) rfl rfl Try.func38 (by kernel_rfl) rfl #[.int .i64 a0] rfl (by (try simp only [List.map_toArray, List.map_cons, List.map_nil]); first | done | rfl | (simp only [List.length_drop, List.length_take]; rfl)) ?_; (with_reducible refine (impl_StarLength.calls k a0 t147 t148 _ A3.out).mono ?_); rintro e w9 ⟨rfl, hb⟩; refine ⟨_, rfl, ?_⟩; have n0_ := Aside0.mk (below_step (by repeat (first | (with_reducible first | exact HB.out | apply below_alloc | apply pw_below_drewN | apply below_drew1) | exact HB.out)) hb); clear HB; have HB := n0_; clear n0_; (try clear hb)))
      go_ret
      exact ⟨by first | rfl | (simp [errW_none, errW_some] <;> rfl) | (simp [*, errW_none, errW_some] <;> rfl), by repeat (first | (with_reducible first | exact HB.out | apply below_alloc | apply pw_below_drewN | apply below_drew1) | exact HB.out)⟩
  · rw [if_neg c4] at H
    have c4b0 : (t147 == t145) = false := beq_eq_false_iff_ne.mpr c4
    have c4b1 : (t147 != t145) = true := bne_iff_ne.mpr c4
    obtain rfl := Option.some.inj H
    go_enter Try.func13, Try.ntmps13
    go_wp2_with (first | ((with_reducible refine gate_callee (f := 37) rfl ?_); refine goesL_ (some 9) rfl rfl Try.func37 (by kernel_rfl) rfl #[.int .i64 a0] rfl (by (try simp only [List.map_toArray, List.map_cons, List.map_nil]); first | done | rfl | (simp only [List.length_drop, List.length_take]; rfl)) ?_; (with_reducible refine (spec_StarLength.calls k a0 t145 t146 _ A2.out).mono ?_); rintro e w10 ⟨rfl, hb⟩; refine ⟨_, rfl, ?_⟩; have n0_ := Aside0.mk (below_step (by repeat (first | (with_reducible first | exact HB.out | apply below_alloc | apply pw_below_drewN | apply below_drew1) | exact HB.out)) hb); clear HB; have HB := n0_; clear n0_; (try clear hb)) | ((with_reducible refine gate_callee (f := 38) rfl ?_); refine goesL_ (some 14) rfl rfl Try.func38 (by kernel_rfl) rfl #[.int .i64 a0] rfl (by (try simp only [List.map_toArray, List.map_cons, List.map_nil]); first | done | rfl | (simp only [List.length_drop, List.length_take]; rfl)) ?_; (with_reducible refine (impl_StarLength.calls k a0 t147 t148 _ A3.out).mono ?_); rintro e w11 ⟨rfl, hb⟩; refine ⟨_, rfl, ?_⟩; have n0_ := Aside0.mk (below_step (by repeat (first | (with_reducible first | exact HB.out | apply below_alloc | apply pw_below_drewN | apply below_drew1) | exact HB.out)) hb); clear HB; have HB := n0_; clear n0_; (try clear hb)))
    go_ret
    exact ⟨by first | rfl | (simp [errW_none, errW_some] <;> rfl) | (simp [*, errW_none, errW_some] <;> rfl), by repeat (first | (with_reducible first | exact HB.out | apply below_alloc | apply pw_below_drewN | apply below_drew1) | exact HB.out)⟩

/-- THE ONE PURE STATEMENT of laws_FnExactStarLength: yours. -/
def laws_FnExactStarLength.Pure : Prop := ∀ (a0 : Int), (Lit.int .i64 a0).wf = true → ∃ k, laws_FnExactStarLength.f k a0 = some true
theorem laws_FnExactStarLength.walk (P : laws_FnExactStarLength.Pure) (a0 : Int) (w : World) (w0 : (Lit.int .i64 a0).wf = true) :
    Calls Try.prog 13 #[.int .i64 a0] w fun e w' => e = .returned (.bool true) ∧ Below w.heap.size w w' := by
  obtain ⟨k, h⟩ := P a0 w0
  refine (laws_FnExactStarLength.calls k a0 true w h).mono ?_
  rintro e w' ⟨rfl, hd⟩
  exact ⟨rfl, hd⟩

end Go.Proofs.Ytkhlhhpkleaphaa.MFnExactStarLength
