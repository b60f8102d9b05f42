-- Written by wip/mine.py (a program of this repo) for this claim.
import Derived.Test.YtkhlhhpkleaphaaMFnExactFromDigitsx0
import Derived.Test.YtkhlhhpkleaphaaMFnExactFromDigitsx1
namespace Go.Proofs.Ytkhlhhpkleaphaa.MFnExactFromDigits
open Go.RowKit Go.Proofs.YtkhlhhpkleaphaaW.PrintWords Go.Proofs.YtkhlhhpkleaphaaW.PrintLast Go.Proofs.YtkhlhhpkleaphaaW.PrintMore Go.Proofs.YtkhlhhpkleaphaaV
attribute [local go_sem] max2_int min2_int max_two min_two max_three min_three max_four min_four   -- for this text's walks alone
set_option linter.unusedVariables false
set_option linter.unusedSimpArgs false


/-! ### impl_FromDigits: function 34 -/
section
open Go.Shelf Go.Proofs.YtkhlhhpkleaphaaBI
attribute [local go_sem] Oper.semAt_some
def impl_FromDigits.bad (base : Int) (l : List Int) (j : Nat) : Bool := !(decide (0 ≤ rd l j) && decide (rd l j ≤ wrap64 (base - 1)))
def impl_FromDigits.step (base : Int) (l : List Int) (o : Option Int) (x : Nat) : Option Int := o.bind fun n => if 1000000 < wrap64 (wrap64 (n * base) + rd l x) then none else some (wrap64 (wrap64 (n * base) + rd l x))
def impl_FromDigits.run (base : Int) (l : List Int) (xs : List Nat) : Option Int := xs.foldl (impl_FromDigits.step base l) (some 0)
def impl_FromDigits.res : Option Int → Value
  | some n => .tuple #[.int .i64 n, .bool true]
  | none => .tuple #[.int .i64 0, .bool false]
theorem impl_FromDigits.run_snoc (base : Int) (l : List Int) (xs : List Nat) (x : Nat) : impl_FromDigits.run base l (xs ++ [x]) = impl_FromDigits.step base l (impl_FromDigits.run base l xs) x := by unfold impl_FromDigits.run; rw [List.foldl_append]; rfl
theorem impl_FromDigits.run_none (base : Int) (l : List Int) : ∀ xs : List Nat, xs.foldl (impl_FromDigits.step base l) none = none
  | [] => rfl
  | _ :: xs => impl_FromDigits.run_none base l xs
theorem impl_FromDigits.run_app (base : Int) (l : List Int) (xs ys : List Nat) (h : impl_FromDigits.run base l xs = none) : impl_FromDigits.run base l (xs ++ ys) = none := by
  unfold impl_FromDigits.run at h ⊢
  rw [List.foldl_append, h, impl_FromDigits.run_none]
theorem impl_FromDigits.down_split (L k : Nat) (h : k ≤ L) : ∃ ys, down L L = down L k ++ ys := by
  refine ⟨(down L L).drop k, ?_⟩
  have e : (down L L).take k = down L k := by
    unfold down
    rw [← List.map_take, List.take_range, Nat.min_eq_left h]
  rw [← e, List.take_append_drop]
def impl_FromDigits.good (l : List Int) (base : Int) : Bool := decide (2 ≤ base) && decide (base ≤ 64) && !(Go.Proofs.YtkhlhhpkleaphaaH.anyIx (impl_FromDigits.bad base l) l.length 0) && !(decide (l.length = 0)) && !(decide (rd l (l.length - 1 : Int) = 0))
def impl_FromDigits.f (l : List Int) (base : Int) : Option (Int × Bool) :=
  if l.length ≤ 1000000000000 then
    (if impl_FromDigits.good l base = true then (match impl_FromDigits.run base l (down l.length l.length) with | some n => some (n, true) | none => some (0, false)) else some (0, false))
  else none
set_option maxHeartbeats 2000000 in
set_option maxRecDepth 100000 in
theorem impl_FromDigits.bad_calls (B : Nat) (base v : Int) (w : World) (hc : w.cell? ⟨B, 0, none⟩ = some (.int .i64 base)) :
    Calls Try.prog 64 #[.int .i64 v, .pointer (some ⟨B, 0, none⟩)] w fun e w' => e = .returned (.bool (!(decide (0 ≤ v) && decide (v ≤ wrap64 (base - 1))))) ∧ Below w.heap.size w w' := by
  obtain ⟨r, hr⟩ : ∃ r, r = (decide (0 ≤ v) && decide (v ≤ wrap64 (base - 1))) := ⟨_, rfl⟩
  have hin : impl_in.f v 0 (wrap64 (base - 1)) = some r := by
    unfold impl_in.f
    by_cases c : v ≥ 0
    · rw [if_pos c, hr, decide_eq_true (show 0 ≤ v from c), Bool.true_and]
    · rw [if_neg c, hr, decide_eq_false (show ¬ 0 ≤ v from c), Bool.false_and]
  rw [← hr]
  have HIN := Aside0.mk hin
  clear hr hin
  go_enter Try.func64, Try.ntmps64
  go_wp2_with (go_at_call 59; refine (impl_in.calls _ _ _ r _ HIN.out).mono ?_; rintro e w2 ⟨rfl, hd2⟩; have HD2 := Aside0.mk hd2; clear hd2)
  go_ret
  exact ⟨rfl, HD2.out.below⟩
theorem impl_FromDigits.has_calls (w0 w : World) (B : Nat) (base : Int) (A0 : Option Addr) (c0 : Nat) (l0 : List Int) (hr0 : Kd.C (Kd.int .i64) w0 A0 l0.length l0) (hl : l0.length ≤ 1000000000000) (hb : Below w0.heap.size w0 w) (hB : Boxed w B 3 (.int .i64 base)) :
    Calls Try.prog 63 #[.slice A0 l0.length c0, .func (.func 64) #[] #[.pointer (some ⟨B, 0, none⟩)]] w fun e w' => e = .returned (.bool (Go.Proofs.YtkhlhhpkleaphaaH.anyIx (impl_FromDigits.bad base l0) l0.length 0)) ∧ Below w.heap.size w w' := by
  refine Go.Proofs.YtkhlhhpkleaphaaH.contains_f81 w A0 l0.length c0 (fun j => .int .i64 (rd l0 j)) (impl_FromDigits.bad base l0) 64 #[.pointer (some ⟨B, 0, none⟩)] (enters_of Try.func64 (by kernel_rfl) rfl) (by omega) (fun hp => ?_) (fun j hj W hW => ?_)
  · obtain ⟨ad, e, _⟩ := Kd.at_int hr0 (0 : Int) (by omega) (by omega)
    subst e
    refine ⟨ad, rfl, fun j hj => ?_⟩
    obtain ⟨ad', e', h'⟩ := Kd.at_int hr0 (j : Int) (by omega) (by omega)
    obtain rfl : ad = ad' := by injection e'
    rw [Int.toNat_natCast] at h'
    exact pw_cell_below hb h'
  · exact impl_FromDigits.bad_calls B base (rd l0 j) W (pw_cell_below hW hB.cell)
/-- The world between two steps: the base's variable, the results'. -/
def impl_FromDigits.St (w0 W : World) (B3 B4 B5 : Nat) (base v : Int) (b : Bool) : Prop :=
  Boxed W B3 3 (.int .i64 base) ∧ Boxed W B4 3 (.int .i64 v) ∧ Boxed W B5 4 (.bool b) ∧ Below w0.heap.size w0 W ∧ w0.heap.size ≤ B3 ∧ B3 < B4 ∧ B4 < B5
theorem impl_FromDigits.St.below {w0 W W' : World} {B3 B4 B5 : Nat} {base v : Int} {b : Bool} (h : impl_FromDigits.St w0 W B3 B4 B5 base v b) (hw : Below W.heap.size W W') : impl_FromDigits.St w0 W' B3 B4 B5 base v b := by
  obtain ⟨h1, h2, h3, h4, h5⟩ := h
  exact ⟨(hw.block _ h1.lt).trans h1, (hw.block _ h2.lt).trans h2, (hw.block _ h3.lt).trans h3, h4.trans (hw.mono h4.size), h5⟩
theorem impl_FromDigits.St.grown {w0 W W' : World} {B3 B4 B5 : Nat} {base v : Int} {b : Bool} {row : Option Nat} (h : impl_FromDigits.St w0 W B3 B4 B5 base v b) (hg : W.grownBy W' row) (hr : ∀ r, row = some r → w0.heap.size ≤ r ∧ ∃ o : Obj, W.heap[r]? = some o ∧ o.isCells = false) : impl_FromDigits.St w0 W' B3 B4 B5 base v b := by
  obtain ⟨h1, h2, h3, h4, h5⟩ := h
  have ne : ∀ {k : Nat} {u : Value} {t : TypeId}, Boxed W k t u → some k ≠ row := by
    intro k u t hk e
    obtain ⟨_, o, ho, hc⟩ := hr k e.symm
    rw [show W.heap[k]? = _ from hk] at ho
    cases ho
    cases hc
  exact ⟨h1.kept hg (ne h1), h2.kept hg (ne h2), h3.kept hg (ne h3), h4.grown hg h4.size (fun k e => (hr k e).1), h5⟩
theorem impl_FromDigits.St.set4 {w0 W : World} {B3 B4 B5 : Nat} {base v : Int} {b : Bool} (v' : Int) (h : impl_FromDigits.St w0 W B3 B4 B5 base v b) : impl_FromDigits.St w0 (W.setCell ⟨B4, 0, none⟩ (.int .i64 v')) B3 B4 B5 base v' b := by
  obtain ⟨h1, h2, h3, h4, h5, h6, h7⟩ := h
  exact ⟨h1.other (by omega) _, h2.set _, h3.other (by omega) _, below_set h4 (by omega), h5, h6, h7⟩
theorem impl_FromDigits.St.set5 {w0 W : World} {B3 B4 B5 : Nat} {base v : Int} {b : Bool} (b' : Bool) (h : impl_FromDigits.St w0 W B3 B4 B5 base v b) : impl_FromDigits.St w0 (W.setCell ⟨B5, 0, none⟩ (.bool b')) B3 B4 B5 base v b' := by
  obtain ⟨h1, h2, h3, h4, h5, h6, h7⟩ := h
  exact ⟨h1.other (by omega) _, h2.other (by omega) _, h3.set _, below_set h4 (by omega), h5, h6, h7⟩
theorem impl_FromDigits.results_cells {fn : Func} {p p' : Tmp} (h : fn.results = #[.cell p 3, .cell p' 4]) (tmps : Array Value) (w : World) (b b' : Nat) (v v' : Value) (hp : tmps.getD p undef = .pointer (some ⟨b, 0, none⟩)) (hp' : tmps.getD p' undef = .pointer (some ⟨b', 0, none⟩)) (hc : w.cell? ⟨b, 0, none⟩ = some v) (hc' : w.cell? ⟨b', 0, none⟩ = some v') :
    (results fn tmps).run Try.prog w = .ok (.tuple #[v, v']) w := by
  have h1 : tmps[p]?.getD undef = .pointer (some ⟨b, 0, none⟩) := by simpa using hp
  have h2 : tmps[p']?.getD undef = .pointer (some ⟨b', 0, none⟩) := by simpa using hp'
  simp [results, h, h1, h2, asAddr, loadVar, Try.underlying3, Try.underlying4, hc, hc']
theorem impl_FromDigits.St.start {w0 w4 : World} {B3 : Nat} {base : Int} (hg : w0.heap.size ≤ B3) (h : Boxed w4 B3 3 (.int .i64 base)) (hb : Below w0.heap.size w0 w4) :
    impl_FromDigits.St w0 ((w4.alloc (Obj.cells #[.int .i64 0] 3)).alloc (Obj.cells #[.bool false] 4)) B3 w4.heap.size (w4.heap.size + 1) base 0 false := by
  refine ⟨(h.alloc _).alloc _, (Boxed.new w4 _ _).alloc _, ?_, below_alloc (below_alloc hb _) _, hg, h.lt, by omega⟩
  have := Boxed.new (w4.alloc (Obj.cells #[.int .i64 0] 3)) 4 (.bool false)
  rwa [show (w4.alloc (Obj.cells #[.int .i64 0] 3)).heap.size = w4.heap.size + 1 by simp] at this
set_option maxHeartbeats 2000000 in
set_option maxRecDepth 100000 in
theorem impl_FromDigits.base_fails (A0 : Option Addr) (c0 : Nat) (l0 : List Int) (a1 : Int) (w : World) (hr0 : Kd.C (Kd.int .i64) w A0 l0.length l0) (hl : l0.length ≤ 1000000000000) (hb : ¬ (2 ≤ a1 ∧ a1 ≤ 64)) :
    Calls Try.prog 34 #[.slice A0 l0.length c0, .int .i64 a1] w fun e w' => e = .returned (.tuple #[.int .i64 0, .bool false]) ∧ Below w.heap.size w w' := by
  have HOK := Aside0.mk (show impl_baseOk.f a1 = some false by unfold impl_baseOk.f impl_in.f; by_cases h : a1 ≥ 2; rw [if_pos h, decide_eq_false (by omega)]; rfl; rw [if_neg h]; rfl)
  have HR := Aside0.mk hr0
  clear hr0
  go_enter Try.func34, Try.ntmps34
  go_wp2_with (first | ((with_reducible refine gate_dst (N := 3) rfl ?_); refine box_event ?hg (N := 3) ?hd (cs := #[.int .i64 a1]) (t := 3) ?hr ?_; (case hd => rfl); (case hg => rfl); (case hr => first | (go_simp; done) | (go_simp; rfl)); intro B3 hg w4 hbox hb4; have HBX4 := Aside0.mk (show Boxed w4 B3 3 _ from hbox); have HB4 := Aside0.mk hb4; have HG := Aside0.mk hg; clear hb4 hbox hg) | (go_at_call 63; refine (impl_FromDigits.has_calls w _ B3 a1 A0 c0 l0 HR.out hl (below_alloc (below_alloc HB4.out _) _) ((HBX4.out.alloc _).alloc _)).mono ?_; rintro e w6 ⟨rfl, hb6⟩; have HS := Aside0.mk (impl_FromDigits.St.below (impl_FromDigits.St.start (Nat.le_of_eq HG.out.symm) HBX4.out HB4.out) hb6); have x3 : w6.cell? ⟨B3, 0, none⟩ = some (.int .i64 a1) := HS.out.1.cell; clear hb6) | (go_at_call 49; refine (impl_baseOk.calls _ _ _ HOK.out).mono ?_; rintro e w7 ⟨rfl, hd7⟩; have HS7 := Aside0.mk (impl_FromDigits.St.below HS.out hd7.below); have x4 : w7.cell? ⟨w4.heap.size, 0, none⟩ = some (.int .i64 0) := HS7.out.2.1.cell; have x5 : w7.cell? ⟨w4.heap.size + 1, 0, none⟩ = some (.bool false) := HS7.out.2.2.1.cell; have y4 := HS7.out.2.1.frozen; have y5 := HS7.out.2.2.1.frozen; have y6 := (HS7.out.set4 0).2.2.1.frozen; have x6 := (HS7.out.set4 0).2.2.1.cell; clear hd7))
  refine bodyPost_ret (impl_FromDigits.results_cells rfl _ _ w4.heap.size (w4.heap.size + 1) _ _ rfl rfl ((HS7.out.set4 0).set5 false).2.1.cell ((HS7.out.set4 0).set5 false).2.2.1.cell) rfl ?_
  exact ⟨rfl, ((HS7.out.set4 0).set5 false).2.2.2.1⟩
set_option maxHeartbeats 2000000 in
set_option maxRecDepth 100000 in
theorem impl_FromDigits.bad_fails (A0 : Option Addr) (c0 : Nat) (l0 : List Int) (a1 : Int) (w : World) (hr0 : Kd.C (Kd.int .i64) w A0 l0.length l0) (hl : l0.length ≤ 1000000000000) (hb : 2 ≤ a1 ∧ a1 ≤ 64) (hbad : Go.Proofs.YtkhlhhpkleaphaaH.anyIx (impl_FromDigits.bad a1 l0) l0.length 0 = true) :
    Calls Try.prog 34 #[.slice A0 l0.length c0, .int .i64 a1] w fun e w' => e = .returned (.tuple #[.int .i64 0, .bool false]) ∧ Below w.heap.size w w' := by
  have HOK := Aside0.mk (show impl_baseOk.f a1 = some true by unfold impl_baseOk.f impl_in.f; rw [if_pos (show a1 ≥ 2 by omega), decide_eq_true hb.2]; rfl)
  have HR := Aside0.mk hr0
  clear hr0
  have HBAD := Aside0.mk hbad
  clear hbad
  go_enter Try.func34, Try.ntmps34
  go_wp2_with (first | ((with_reducible refine gate_dst (N := 3) rfl ?_); refine box_event ?hg (N := 3) ?hd (cs := #[.int .i64 a1]) (t := 3) ?hr ?_; (case hd => rfl); (case hg => rfl); (case hr => first | (go_simp; done) | (go_simp; rfl)); intro B3 hg w4 hbox hb4; have HBX4 := Aside0.mk (show Boxed w4 B3 3 _ from hbox); have HB4 := Aside0.mk hb4; have HG := Aside0.mk hg; clear hb4 hbox hg) | (go_at_call 63; refine (impl_FromDigits.has_calls w _ B3 a1 A0 c0 l0 HR.out hl (below_alloc (below_alloc HB4.out _) _) ((HBX4.out.alloc _).alloc _)).mono ?_; rw [HBAD.out]; rintro e w6 ⟨rfl, hb6⟩; have HS := Aside0.mk (impl_FromDigits.St.below (impl_FromDigits.St.start (Nat.le_of_eq HG.out.symm) HBX4.out HB4.out) hb6); have x3 : w6.cell? ⟨B3, 0, none⟩ = some (.int .i64 a1) := HS.out.1.cell; clear hb6) | (go_at_call 49; refine (impl_baseOk.calls _ _ _ HOK.out).mono ?_; rintro e w7 ⟨rfl, hd7⟩; have HS7 := Aside0.mk (impl_FromDigits.St.below HS.out hd7.below); have x4 : w7.cell? ⟨w4.heap.size, 0, none⟩ = some (.int .i64 0) := HS7.out.2.1.cell; have x5 : w7.cell? ⟨w4.heap.size + 1, 0, none⟩ = some (.bool false) := HS7.out.2.2.1.cell; have y4 := HS7.out.2.1.frozen; have y5 := HS7.out.2.2.1.frozen; have y6 := (HS7.out.set4 0).2.2.1.frozen; have x6 := (HS7.out.set4 0).2.2.1.cell; clear hd7))
  refine bodyPost_ret (impl_FromDigits.results_cells rfl _ _ w4.heap.size (w4.heap.size + 1) _ _ rfl rfl ((HS7.out.set4 0).set5 false).2.1.cell ((HS7.out.set4 0).set5 false).2.2.1.cell) rfl ?_
  exact ⟨rfl, ((HS7.out.set4 0).set5 false).2.2.2.1⟩
set_option maxHeartbeats 2000000 in
set_option maxRecDepth 100000 in
theorem impl_FromDigits.nil_fails (A0 : Option Addr) (c0 : Nat) (a1 : Int) (w : World) (hr0 : Kd.C (Kd.int .i64) w A0 0 []) (hb : 2 ≤ a1 ∧ a1 ≤ 64) :
    Calls Try.prog 34 #[.slice A0 0 c0, .int .i64 a1] w fun e w' => e = .returned (.tuple #[.int .i64 0, .bool false]) ∧ Below w.heap.size w w' := by
  have HOK := Aside0.mk (show impl_baseOk.f a1 = some true by unfold impl_baseOk.f impl_in.f; rw [if_pos (show a1 ≥ 2 by omega), decide_eq_true hb.2]; rfl)
  have HR := Aside0.mk hr0
  clear hr0
  have hbad : Go.Proofs.YtkhlhhpkleaphaaH.anyIx (impl_FromDigits.bad a1 []) 0 0 = false := rfl
  have HBAD := Aside0.mk hbad
  clear hbad
  go_enter Try.func34, Try.ntmps34
  go_wp2_with (first | ((with_reducible refine gate_dst (N := 3) rfl ?_); refine box_event ?hg (N := 3) ?hd (cs := #[.int .i64 a1]) (t := 3) ?hr ?_; (case hd => rfl); (case hg => rfl); (case hr => first | (go_simp; done) | (go_simp; rfl)); intro B3 hg w4 hbox hb4; have HBX4 := Aside0.mk (show Boxed w4 B3 3 _ from hbox); have HB4 := Aside0.mk hb4; have HG := Aside0.mk hg; clear hb4 hbox hg) | (go_at_call 63; refine (impl_FromDigits.has_calls w _ B3 a1 A0 c0 [] HR.out (Nat.zero_le _) (below_alloc (below_alloc HB4.out _) _) ((HBX4.out.alloc _).alloc _)).mono ?_; rw [show ([] : List Int).length = 0 from rfl, HBAD.out]; rintro e w6 ⟨rfl, hb6⟩; have HS := Aside0.mk (impl_FromDigits.St.below (impl_FromDigits.St.start (Nat.le_of_eq HG.out.symm) HBX4.out HB4.out) hb6); have x3 : w6.cell? ⟨B3, 0, none⟩ = some (.int .i64 a1) := HS.out.1.cell; clear hb6) | (go_at_call 49; refine (impl_baseOk.calls _ _ _ HOK.out).mono ?_; rintro e w7 ⟨rfl, hd7⟩; have HS7 := Aside0.mk (impl_FromDigits.St.below HS.out hd7.below); have x4 : w7.cell? ⟨w4.heap.size, 0, none⟩ = some (.int .i64 0) := HS7.out.2.1.cell; have x5 : w7.cell? ⟨w4.heap.size + 1, 0, none⟩ = some (.bool false) := HS7.out.2.2.1.cell; have y4 := HS7.out.2.1.frozen; have y5 := HS7.out.2.2.1.frozen; have y6 := (HS7.out.set4 0).2.2.1.frozen; have x6 := (HS7.out.set4 0).2.2.1.cell; clear hd7))
  refine bodyPost_ret (impl_FromDigits.results_cells rfl _ _ w4.heap.size (w4.heap.size + 1) _ _ rfl rfl ((HS7.out.set4 0).set5 false).2.1.cell ((HS7.out.set4 0).set5 false).2.2.1.cell) rfl ?_
  exact ⟨rfl, ((HS7.out.set4 0).set5 false).2.2.2.1⟩
set_option maxHeartbeats 2000000 in
set_option maxRecDepth 100000 in
theorem impl_FromDigits.last_fails (A0 : Option Addr) (c0 : Nat) (l0 : List Int) (a1 : Int) (w : World) (hr0 : Kd.C (Kd.int .i64) w A0 l0.length l0) (hl : l0.length ≤ 1000000000000) (hb : 2 ≤ a1 ∧ a1 ≤ 64) (hbad : Go.Proofs.YtkhlhhpkleaphaaH.anyIx (impl_FromDigits.bad a1 l0) l0.length 0 = false) (hn : l0.length ≠ 0) (hz : rd l0 (l0.length - 1 : Int) = 0) :
    Calls Try.prog 34 #[.slice A0 l0.length c0, .int .i64 a1] w fun e w' => e = .returned (.tuple #[.int .i64 0, .bool false]) ∧ Below w.heap.size w w' := by
  have HOK := Aside0.mk (show impl_baseOk.f a1 = some true by unfold impl_baseOk.f impl_in.f; rw [if_pos (show a1 ≥ 2 by omega), decide_eq_true hb.2]; rfl)
  have HR := Aside0.mk hr0
  clear hr0
  have HBAD := Aside0.mk hbad
  clear hbad
  obtain ⟨ad, ea, hx⟩ := Kd.at_int HR.out (l0.length - 1 : Int) (by omega) (by omega)
  subst ea
  rw [hz, show ((l0.length : Int) - 1).toNat = l0.length - 1 by omega] at hx
  have n4 : ((l0.length : Int) == 0) = false := by rw [beq_eq_false_iff_ne]; omega
  have n0 : decide ((l0.length : Int) = 0) = false := decide_eq_false (by omega)
  have n1 : wrap64 ((l0.length : Int) - 1) = (l0.length : Int) - 1 := by unfold wrap64; omega
  have n2 : (0 : Int) ≤ (l0.length : Int) - 1 := by omega
  have n3 : (l0.length : Int) - 1 < (l0.length : Int) := by omega
  go_enter Try.func34, Try.ntmps34
  go_wp2_with (first | ((with_reducible refine gate_dst (N := 3) rfl ?_); refine box_event ?hg (N := 3) ?hd (cs := #[.int .i64 a1]) (t := 3) ?hr ?_; (case hd => rfl); (case hg => rfl); (case hr => first | (go_simp; done) | (go_simp; rfl)); intro B3 hg w4 hbox hb4; have HBX4 := Aside0.mk (show Boxed w4 B3 3 _ from hbox); have HB4 := Aside0.mk hb4; have HG := Aside0.mk hg; clear hb4 hbox hg) | (go_at_call 63; refine (impl_FromDigits.has_calls w _ B3 a1 (some ad) c0 l0 HR.out hl (below_alloc (below_alloc HB4.out _) _) ((HBX4.out.alloc _).alloc _)).mono ?_; rw [HBAD.out]; rintro e w6 ⟨rfl, hb6⟩; have HS := Aside0.mk (impl_FromDigits.St.below (impl_FromDigits.St.start (Nat.le_of_eq HG.out.symm) HBX4.out HB4.out) hb6); have x3 : w6.cell? ⟨B3, 0, none⟩ = some (.int .i64 a1) := HS.out.1.cell; clear hb6) | (go_at_call 49; refine (impl_baseOk.calls _ _ _ HOK.out).mono ?_; rintro e w7 ⟨rfl, hd7⟩; have HS7 := Aside0.mk (impl_FromDigits.St.below HS.out hd7.below); have x4 : w7.cell? ⟨w4.heap.size, 0, none⟩ = some (.int .i64 0) := HS7.out.2.1.cell; have x5 : w7.cell? ⟨w4.heap.size + 1, 0, none⟩ = some (.bool false) := HS7.out.2.2.1.cell; have y4 := HS7.out.2.1.frozen; have y5 := HS7.out.2.2.1.frozen; have y6 := (HS7.out.set4 0).2.2.1.frozen; have x6 := (HS7.out.set4 0).2.2.1.cell; have xl := pw_cell_below HS7.out.2.2.2.1 hx; clear hd7))
  refine bodyPost_ret (impl_FromDigits.results_cells rfl _ _ w4.heap.size (w4.heap.size + 1) _ _ rfl rfl ((HS7.out.set4 0).set5 false).2.1.cell ((HS7.out.set4 0).set5 false).2.2.1.cell) rfl ?_
  exact ⟨rfl, ((HS7.out.set4 0).set5 false).2.2.2.1⟩
/-- .. with the number that is read. -/
def impl_FromDigits.Sn (w0 W : World) (B3 B4 B5 B7 : Nat) (base v : Int) (b : Bool) (n : Int) : Prop := impl_FromDigits.St w0 W B3 B4 B5 base v b ∧ Boxed W B7 3 (.int .i64 n) ∧ B5 < B7
theorem impl_FromDigits.Sn.below {w0 W W' : World} {B3 B4 B5 B7 : Nat} {base v n : Int} {b : Bool} (h : impl_FromDigits.Sn w0 W B3 B4 B5 B7 base v b n) (hw : Below W.heap.size W W') : impl_FromDigits.Sn w0 W' B3 B4 B5 B7 base v b n :=
  ⟨h.1.below hw, (hw.block _ h.2.1.lt).trans h.2.1, h.2.2⟩
theorem impl_FromDigits.Sn.grown {w0 W W' : World} {B3 B4 B5 B7 : Nat} {base v n : Int} {b : Bool} {row : Option Nat} (h : impl_FromDigits.Sn w0 W B3 B4 B5 B7 base v b n) (hg : W.grownBy W' row) (hr : ∀ r, row = some r → w0.heap.size ≤ r ∧ ∃ o : Obj, W.heap[r]? = some o ∧ o.isCells = false) : impl_FromDigits.Sn w0 W' B3 B4 B5 B7 base v b n :=
  ⟨h.1.grown hg hr, h.2.1.kept hg (fun e => by
    obtain ⟨_, o, ho, hc⟩ := hr B7 e.symm
    rw [show W.heap[B7]? = _ from h.2.1] at ho
    cases ho
    cases hc), h.2.2⟩
theorem impl_FromDigits.Sn.set4 {w0 W : World} {B3 B4 B5 B7 : Nat} {base v n : Int} {b : Bool} (v' : Int) (h : impl_FromDigits.Sn w0 W B3 B4 B5 B7 base v b n) : impl_FromDigits.Sn w0 (W.setCell ⟨B4, 0, none⟩ (.int .i64 v')) B3 B4 B5 B7 base v' b n :=
  ⟨h.1.set4 v', h.2.1.other (by have := h.1.2.2.2.2.2.2; have := h.2.2; omega) _, h.2.2⟩
theorem impl_FromDigits.Sn.set5 {w0 W : World} {B3 B4 B5 B7 : Nat} {base v n : Int} {b : Bool} (b' : Bool) (h : impl_FromDigits.Sn w0 W B3 B4 B5 B7 base v b n) : impl_FromDigits.Sn w0 (W.setCell ⟨B5, 0, none⟩ (.bool b')) B3 B4 B5 B7 base v b' n :=
  ⟨h.1.set5 b', h.2.1.other (by have := h.2.2; omega) _, h.2.2⟩
theorem impl_FromDigits.Sn.set7 {w0 W : World} {B3 B4 B5 B7 : Nat} {base v n : Int} {b : Bool} (n' : Int) (h : impl_FromDigits.Sn w0 W B3 B4 B5 B7 base v b n) : impl_FromDigits.Sn w0 (W.setCell ⟨B7, 0, none⟩ (.int .i64 n')) B3 B4 B5 B7 base v b n' := by
  obtain ⟨⟨h1, h2, h3, h4, h5, h6, h7⟩, h8, h9⟩ := h
  exact ⟨⟨h1.other (by omega) _, h2.other (by omega) _, h3.other (by omega) _, below_set h4 (by omega), h5, h6, h7⟩, h8.set _, h9⟩
set_option maxHeartbeats 2000000 in
set_option maxRecDepth 100000 in
theorem impl_FromDigits.good_calls (A0 : Option Addr) (c0 : Nat) (l0 : List Int) (a1 : Int) (w : World) (hr0 : Kd.C (Kd.int .i64) w A0 l0.length l0) (hl : l0.length ≤ 1000000000000) (hb : 2 ≤ a1 ∧ a1 ≤ 64) (hbad : Go.Proofs.YtkhlhhpkleaphaaH.anyIx (impl_FromDigits.bad a1 l0) l0.length 0 = false) (hn : l0.length ≠ 0) (hz : rd l0 (l0.length - 1 : Int) ≠ 0) :
    Calls Try.prog 34 #[.slice A0 l0.length c0, .int .i64 a1] w fun e w' => e = .returned (impl_FromDigits.res (impl_FromDigits.run a1 l0 (down l0.length l0.length))) ∧ Below w.heap.size w w' := by
  have HOK := Aside0.mk (show impl_baseOk.f a1 = some true by unfold impl_baseOk.f impl_in.f; rw [if_pos (show a1 ≥ 2 by omega), decide_eq_true hb.2]; rfl)
  have HR := Aside0.mk hr0
  clear hr0
  obtain ⟨R, hR⟩ : ∃ R, R = impl_FromDigits.res (impl_FromDigits.run a1 l0 (down l0.length l0.length)) := ⟨_, rfl⟩
  rw [← hR]
  have HRR := Aside0.mk hR
  clear hR
  have HBAD := Aside0.mk hbad
  clear hbad
  obtain ⟨ad, ea, hx⟩ := Kd.at_int HR.out (l0.length - 1 : Int) (by omega) (by omega)
  subst ea
  rw [show ((l0.length : Int) - 1).toNat = l0.length - 1 by omega] at hx
  have n4 : ((l0.length : Int) == 0) = false := by rw [beq_eq_false_iff_ne]; omega
  have n5 : (rd l0 (l0.length - 1 : Int) == 0) = false := by rw [beq_eq_false_iff_ne]; exact hz
  generalize rd l0 (l0.length - 1 : Int) = z at *
  have n0 : decide ((l0.length : Int) = 0) = false := decide_eq_false (by omega)
  have n1 : wrap64 ((l0.length : Int) - 1) = (l0.length : Int) - 1 := by unfold wrap64; omega
  have n2 : (0 : Int) ≤ (l0.length : Int) - 1 := by omega
  have n3 : (l0.length : Int) - 1 < (l0.length : Int) := by omega
  refine (callsIn_wide (n := 8)).1 (callsIn_of_wp_marks Try.func34 rfl trivial ?_ rfl)
  refine wpIn_wide.2 ?_
  simp only [Try.ntmps34, List.size_toArray, List.length_cons, List.length_nil, Nat.reduceAdd, Nat.reduceSub, Array.replicate_succ, Array.replicate_zero, List.push_toArray, List.append_toArray, List.nil_append, List.cons_append]
  go_wp2_with (first | ((with_reducible refine gate_dst (N := 3) rfl ?_); refine box_event ?hg (N := 3) ?hd (cs := #[.int .i64 a1]) (t := 3) ?hr ?_; (case hd => rfl); (case hg => rfl); (case hr => first | (go_simp; done) | (go_simp; rfl)); intro B3 hg w4 hbox hb4; have HBX4 := Aside0.mk (show Boxed w4 B3 3 _ from hbox); have HB4 := Aside0.mk hb4; have HG := Aside0.mk hg; clear hb4 hbox hg) | (go_at_call 63; refine (impl_FromDigits.has_calls w _ B3 a1 (some ad) c0 l0 HR.out hl (below_alloc (below_alloc HB4.out _) _) ((HBX4.out.alloc _).alloc _)).mono ?_; rw [HBAD.out]; rintro e w6 ⟨rfl, hb6⟩; have HS := Aside0.mk (impl_FromDigits.St.below (impl_FromDigits.St.start (Nat.le_of_eq HG.out.symm) HBX4.out HB4.out) hb6); have x3 : w6.cell? ⟨B3, 0, none⟩ = some (.int .i64 a1) := HS.out.1.cell; clear hb6) | (go_at_call 49; refine (impl_baseOk.calls _ _ _ HOK.out).mono ?_; rintro e w7 ⟨rfl, hd7⟩; have HS7 := Aside0.mk (impl_FromDigits.St.below HS.out hd7.below); have x4 : w7.cell? ⟨w4.heap.size, 0, none⟩ = some (.int .i64 0) := HS7.out.2.1.cell; have x5 : w7.cell? ⟨w4.heap.size + 1, 0, none⟩ = some (.bool false) := HS7.out.2.2.1.cell; have y4 := HS7.out.2.1.frozen; have y5 := HS7.out.2.2.1.frozen; have y6 := (HS7.out.set4 0).2.2.1.frozen; have x6 := (HS7.out.set4 0).2.2.1.cell; have xl := pw_cell_below HS7.out.2.2.2.1 hx; clear hd7) | (go_at_call 65; refine (back_f65 _ _ _ _).mono ?_; rintro e w' ⟨rfl, rfl⟩))
  have hadb : ad.block < w.heap.size := by
    obtain ⟨ad', ea, hx'⟩ := Kd.at_int HR.out (0 : Int) (by omega) (by omega)
    obtain rfl : ad = ad' := by injection ea
    have := World.block_lt_of_cell? _ _ hx'
    rwa [add_block] at this
  have HCL := Aside0.mk (show ∀ j : Nat, j < l0.length → w.cell? (ad.add j) = some (.int .i64 (rd l0 (j : Int))) from fun j hj => by
    obtain ⟨ad', ea, hx'⟩ := Kd.at_int HR.out (j : Int) (by omega) (by omega)
    obtain rfl : ad = ad' := by injection ea
    rw [Int.toNat_natCast] at hx'
    exact hx')
  obtain ⟨B4, hB4⟩ : ∃ B4, w4.heap.size = B4 := ⟨_, rfl⟩
  obtain ⟨B7, hB7⟩ : ∃ B7, w7.heap.size = B7 := ⟨_, rfl⟩
  have hlt7 : B4 + 1 < B7 := by rw [← hB4, ← hB7]; exact HS7.out.2.2.1.lt
  obtain ⟨W0, hW0⟩ : ∃ W0, (w7.alloc (Obj.cells #[.int .i64 0] 3)).alloc (Obj.cells #[.slice (some ad) l0.length c0] 26) = W0 := ⟨_, rfl⟩
  have hS0 : impl_FromDigits.Sn w W0 B3 B4 (B4 + 1) B7 a1 0 false 0 := by
    rw [← hW0, ← hB4]
    exact ⟨HS7.out.below (below_alloc (below_alloc (Below.refl _ _) _) _), by rw [← hB7]; exact (Boxed.new w7 _ _).alloc _, by rw [hB4]; exact hlt7⟩
  have hBs : Boxed W0 (B7 + 1) 26 (.slice (some ad) l0.length c0) := by
    rw [← hW0, ← hB7]
    have := Boxed.new (w7.alloc (Obj.cells #[.int .i64 0] 3)) 26 (.slice (some ad) l0.length c0)
    rwa [show (w7.alloc (Obj.cells #[.int .i64 0] 3)).heap.size = w7.heap.size + 1 by simp] at this
  have hsz : W0.heap.size = B7 + 2 := by rw [← hW0, ← hB7]; simp
  have hw0 : w.heap.size ≤ W0.heap.size := hS0.1.2.2.2.1.size
  have hge : w.heap.size ≤ B3 ∧ B3 < B4 := ⟨hS0.1.2.2.2.2.1, hS0.1.2.2.2.2.2.1⟩
  rw [hW0, hB4, hB7]
  clear x3 x4 x5 y4 y5 y6 x6 xl HS7 HS hW0 HBX4 HB4 HG
  refine (wpIn_wide (n := 8)).1 ?_
  refine wpIn_rangeFunc_ownH rfl (by decide) (gf := 82) (lb := #[.pointer (some ⟨B7 + 1, 0, none⟩)]) rfl trivial (enters_of Try.func82 (by kernel_rfl) rfl)
    (back_stops_f65 Fence.wide 7 trivial rfl (by decide) (B7 + 1) (some ad) l0.length c0 (fun j => rd l0 (j : Int)) hl W0 hBs ?cells)
    (fun h k => Keeps.trans h k) ?hKb (Below.refl _ _) (fun _ => rfl)
    (fun pre W => ∃ n, impl_FromDigits.run a1 l0 (pre.map Fin.val) = some n ∧ impl_FromDigits.Sn w W B3 B4 (B4 + 1) B7 a1 0 false n ∧ W0.heap.size ≤ W.heap.size)
    (fun c pre W => c = Code.ret ∧ impl_FromDigits.run a1 l0 (pre.map Fin.val) = none ∧ ∃ n, impl_FromDigits.Sn w W B3 B4 (B4 + 1) B7 a1 0 false n ∧ W0.heap.size ≤ W.heap.size) ?hI ?hIx ⟨0, rfl, hS0, Nat.le_refl _⟩
    (fun x a' _ => a' = { tmps := #[Value.slice (some ad) l0.length c0, Value.int IntKind.i64 a1, undef,
          Value.pointer (some { block := B3, off := 0 }), Value.pointer (some { block := B4, off := 0 }),
          Value.pointer (some { block := B4 + 1, off := 0 }), Value.bool false,
          Value.pointer (some { block := B7, off := 0 }), undef, Value.int IntKind.i64 (rd l0 (x.1 : Int)), Value.slice (some ad) l0.length c0,
          Value.func (Fn.func 64) #[] #[Value.pointer (some { block := B3, off := 0 })], Value.bool false,
          Value.int IntKind.i64 a1, Value.bool true, Value.bool false, Value.bool false, Value.bool false,
          Value.bool false, Value.bool false, Value.slice (some ad) l0.length c0, Value.int IntKind.i64 ↑l0.length,
          Value.bool false, Value.bool false, Value.bool false, Value.slice (some ad) l0.length c0,
          Value.slice (some ad) l0.length c0, Value.int IntKind.i64 ↑l0.length, Value.int IntKind.i64 (↑l0.length - 1),
          Value.pointer (some (ad.add (l0.length - 1))), Value.int IntKind.i64 z, Value.bool false, Value.bool false,
          Value.slice (some ad) l0.length c0,
          Value.func (Fn.func 82) #[] #[Value.pointer (some { block := B7 + 1, off := 0 })], Value.int IntKind.i64 (x.1 : Int), Value.int IntKind.i64 (rd l0 (x.1 : Int)),
          undef, undef, undef, undef, undef, undef, undef, undef], defers := [] })
    ?hAx ?assign ?body ?done ?stop
  case cells =>
    intro _
    exact ⟨ad, rfl, Nat.lt_of_lt_of_le hadb hw0, fun j hj => pw_cell_below hS0.1.2.2.2.1 (HCL.out j hj)⟩
  case hKb => exact fun W ll o o' hle ho h1 h2 i hi => World.putObj_heap_other (by rcases hi with rfl | ⟨_, ad', ea, rfl⟩; omega; cases ea; omega)
  case hI =>
    intro s A B row hs hg hr
    obtain ⟨n, e, hs, hz⟩ := hs
    exact ⟨n, e, hs.grown hg (fun r e => ⟨Nat.le_trans hw0 (hr r e).1, (hr r e).2⟩), Nat.le_trans hz hg.size⟩
  case hIx =>
    intro c s A B row hs hg hr
    obtain ⟨e0, e, n, hs, hz⟩ := hs
    exact ⟨e0, e, n, hs.grown hg (fun r e => ⟨Nat.le_trans hw0 (hr r e).1, (hr r e).2⟩), Nat.le_trans hz hg.size⟩
  case hAx =>
    intro x a' s A B row hs hg hr
    exact hs
  case assign =>
    rintro ll pre x W K hi hK
    gi_wp2
    exact hK _ _ (KeepsFrom.refl _ _) (fun i hi => rfl) hi rfl
  case body =>
    rintro ll pre x a' W hll hrec ⟨n, en, hs, hz⟩ rfl hlt
    have e3 : W.cell? ⟨B3, 0, none⟩ = some (.int .i64 a1) := hs.1.1.cell
    have e7 : W.cell? ⟨B7, 0, none⟩ = some (.int .i64 n) := hs.2.1.cell
    have f7 := hs.2.1.frozen
    obtain ⟨m, hm⟩ : ∃ m, wrap64 (wrap64 (n * a1) + rd l0 (x.1 : Int)) = m := ⟨_, rfl⟩
    have hst : impl_FromDigits.run a1 l0 ((pre ++ [x]).map Fin.val) = if 1000000 < m then none else some m := by
      rw [List.map_append, List.map_singleton, impl_FromDigits.run_snoc, en]
      unfold impl_FromDigits.step
      rw [Option.bind_some, hm]
    have g4 := (hs.set7 m).1.2.1.cell
    have g5 := (hs.set7 m).1.2.2.1.cell
    have f4 := (hs.set7 m).1.2.1.frozen
    have f5 := (hs.set7 m).1.2.2.1.frozen
    have g6 := ((hs.set7 m).set4 0).1.2.2.1.cell
    have f6 := ((hs.set7 m).set4 0).1.2.2.1.frozen
    have g7 := (hs.set7 m).2.1.cell
    have HSN := Aside0.mk hs
    have HM := Aside0.mk hst
    clear hs hst
    by_cases hc : 1000000 < m
    · have b0 : decide (1000000 < m) = true := decide_eq_true hc
      gi_wp2
      exact ⟨(((KeepsOthers.setCell _ _ _).trans (KeepsOthers.setCell _ _ _)).trans (KeepsOthers.setCell _ _ _)).from _, rfl, by rw [HM.out, if_pos hc], m, ((HSN.out.set7 m).set4 0).set5 false, by simpa using hz⟩
    · have b0 : decide (1000000 < m) = false := decide_eq_false hc
      gi_wp2
      refine ⟨(KeepsOthers.setCell _ _ _).from _, fun i hi => Below.heap_setCell _ ⟨B7, 0, none⟩ _ i ?_, m, by rw [HM.out, if_neg (by omega)], HSN.out.set7 m, by simp; omega⟩
      show i ≠ B7
      rcases hi with h | ⟨_, h⟩
      · omega
      · first | omega | (obtain ⟨_, e, h⟩ := h; cases e; omega)
  case done =>
    rintro D xs W hD hxs ⟨n, en, hs, hz⟩ hK
    rw [hxs] at en
    have hRn : R = .tuple #[.int .i64 n, .bool true] := by rw [HRR.out, en]; rfl
    subst hRn
    have e7 : W.cell? ⟨B7, 0, none⟩ = some (.int .i64 n) := hs.2.1.cell
    have e4 : W.cell? ⟨B4, 0, none⟩ = some (.int .i64 0) := hs.1.2.1.cell
    have f4 := hs.1.2.1.frozen
    have e5 := (hs.set4 n).1.2.2.1.cell
    have f5 := (hs.set4 n).1.2.2.1.frozen
    have hD4 : ¬ D = B4 := by omega
    have hD5 : ¬ D = B4 + 1 := by omega
    have HSN := Aside0.mk hs
    have HKK := Aside0.mk (show ((W.setCell ⟨B4, 0, none⟩ (.int .i64 n)).setCell ⟨B4 + 1, 0, none⟩ (.bool true)).heap[D]? = some (.deferred (some [])) from (Below.heap_setCell _ ⟨B4 + 1, 0, none⟩ _ D hD5).trans ((Below.heap_setCell _ ⟨B4, 0, none⟩ _ D hD4).trans hK))
    clear hs hK hD4 hD5
    go_wp2
    refine ⟨by simp, .inl ⟨_, _, rfl, run_takeDeferred HKK.out, ?_⟩⟩
    have hs2 := ((HSN.out.set4 n).set5 true).grown (grownBy_putObj' _ D (.deferred none)) (fun r e => by cases e; exact ⟨Nat.le_trans hw0 hD, _, HKK.out, rfl⟩)
    refine ⟨_, impl_FromDigits.results_cells rfl _ _ B4 (B4 + 1) _ _ rfl rfl hs2.1.2.1.cell hs2.1.2.2.1.cell, ?_⟩
    exact ⟨rfl, hs2.1.2.2.2.1⟩
  case stop =>
    rintro D c pre W hD ⟨k, hk, hpre⟩ ⟨rfl, en, n, hs, hz⟩ hK
    have hRn : R = .tuple #[.int .i64 0, .bool false] := by
      obtain ⟨ys, e⟩ := impl_FromDigits.down_split l0.length k hk
      rw [HRR.out, e, impl_FromDigits.run_app a1 l0 _ ys (by rw [← hpre]; exact en)]
      rfl
    subst hRn
    have HSN := Aside0.mk hs
    have HKK := Aside0.mk hK
    clear hs hK
    gi_wp2
    refine ⟨by simp, .inl ⟨_, _, rfl, run_takeDeferred HKK.out, ?_⟩⟩
    have hs2 := HSN.out.grown (grownBy_putObj' _ D (.deferred none)) (fun r e => by cases e; exact ⟨Nat.le_trans hw0 hD, _, HKK.out, rfl⟩)
    refine ⟨_, impl_FromDigits.results_cells rfl _ _ B4 (B4 + 1) _ _ rfl rfl hs2.1.2.1.cell hs2.1.2.2.1.cell, ?_⟩
    exact ⟨rfl, hs2.1.2.2.2.1⟩
set_option maxHeartbeats 2000000 in
theorem impl_FromDigits.calls (A0 : Option Addr) (c0 : Nat) (l0 : List Int) (a1 : Int) (r1 : Int) (r2 : Bool) (w : World) (hr0 : Kd.C (Kd.int .i64) w A0 l0.length l0) (hc0 : l0.length ≤ c0) (h : impl_FromDigits.f l0 a1 = some (r1, r2)) :
    Calls Try.prog 34 #[.slice A0 l0.length c0, .int .i64 a1] w fun e w' => e = .returned (.tuple #[.int .i64 r1, .bool r2]) ∧ Below w.heap.size w w' := by
  unfold impl_FromDigits.f at h
  by_cases hl : l0.length ≤ 1000000000000
  · rw [if_pos hl] at h
    unfold impl_FromDigits.good at h
    have fin : ∀ b : Bool, b = false → (if b = true then (match impl_FromDigits.run a1 l0 (down l0.length l0.length) with | some n => some (n, true) | none => some (0, false)) else some ((0 : Int), false)) = some (r1, r2) → r1 = 0 ∧ r2 = false := fun b hb h => by
      subst hb
      simp only [Bool.false_eq_true, if_false] at h
      have := Option.some.inj h
      exact ⟨(congrArg Prod.fst this).symm, (congrArg Prod.snd this).symm⟩
    by_cases hb : 2 ≤ a1 ∧ a1 ≤ 64
    · cases hx : Go.Proofs.YtkhlhhpkleaphaaH.anyIx (impl_FromDigits.bad a1 l0) l0.length 0 with
      | true =>
        obtain ⟨rfl, rfl⟩ := fin _ (by rw [hx]; simp) h
        exact impl_FromDigits.bad_fails A0 c0 l0 a1 w hr0 hl hb hx
      | false =>
        by_cases hn : l0.length = 0
        · obtain ⟨rfl, rfl⟩ := fin _ (by rw [decide_eq_true hn]; simp) h
          obtain rfl := List.length_eq_zero_iff.1 hn
          exact impl_FromDigits.nil_fails A0 c0 a1 w hr0 hb
        · obtain ⟨ad, ea, _⟩ := Kd.at_int hr0 (0 : Int) (by omega) (by omega)
          subst ea
          by_cases hz : rd l0 (l0.length - 1 : Int) = 0
          · obtain ⟨rfl, rfl⟩ := fin _ (by rw [decide_eq_true hz]; simp) h
            exact impl_FromDigits.last_fails ad c0 l0 a1 w hr0 hl hb hx hn hz
          · rw [if_pos (by rw [hx, decide_eq_true hb.1, decide_eq_true hb.2, decide_eq_false hn, decide_eq_false hz]; rfl)] at h
            refine (impl_FromDigits.good_calls ad c0 l0 a1 w hr0 hl hb hx hn hz).mono ?_
            rintro e w' ⟨rfl, hw⟩
            refine ⟨?_, hw⟩
            cases hrun : impl_FromDigits.run a1 l0 (down l0.length l0.length) with
            | some n => rw [hrun] at h; cases h; rfl
            | none => rw [hrun] at h; cases h; rfl
    · obtain ⟨rfl, rfl⟩ := fin _ (by by_cases h1 : 2 ≤ a1; rw [decide_eq_false (show ¬ a1 ≤ 64 by omega)]; simp; rw [decide_eq_false h1]; simp) h
      exact impl_FromDigits.base_fails A0 c0 l0 a1 w hr0 hl hb
  · rw [if_neg hl] at h
    cases h
end


/-! ### laws_FnExactFromDigits: function 11 -/
def laws_FnExactFromDigits.j0 : Nat → List Int → List Int → Bool → Option (Bool)
  | 0, _, _, _ => none
  | k + 1, x0, x7, x35 => if x35 = true then (some false) else ((laws_toIntS.f k x0).bind fun t126 => ((laws_eqIntS.f k x7 t126).bind fun t129 => (if t129 = true then (some true) else (some false))))
def laws_FnExactFromDigits.f (k : Nat) (l0 : List Int) (a1 : Int) : Option (Bool) := if (l0.length : Int) > 1048576 then (some true) else ((laws_toIntS.f k l0).bind fun t116 => ((spec_FromDigits.f k t116 a1).bind fun bt119 => ((laws_toIntS.f k l0).bind fun t121 => ((impl_FromDigits.f t121 a1).bind fun bt124 => (if bt124.1 = bt119.1 then (laws_FnExactFromDigits.j0 k l0 t121 (bt124.2 != bt119.2)) else (laws_FnExactFromDigits.j0 k l0 t121 true))))))
theorem laws_FnExactFromDigits.mono_l : ∀ k, (∀ y0 y1 y2, LeO (laws_FnExactFromDigits.j0 k y0 y1 y2) (laws_FnExactFromDigits.j0 (k + 1) y0 y1 y2))
  | 0 => fun _ _ _ r h => by simp [laws_FnExactFromDigits.j0] at h
  | k + 1 => by
    have ih0 := laws_FnExactFromDigits.mono_l k
    · intro y0 y1 y2
      unfold laws_FnExactFromDigits.j0
      repeat' first
      | (with_reducible exact ih0 _ _ _)
      | (with_reducible exact laws_eqIntS.mono _ _ _)
      | (with_reducible exact laws_toIntS.mono _ _)
      | (with_reducible exact spec_FromDigits.mono _ _ _)
      | (with_reducible exact LeO.refl _)
      | (with_reducible exact LeO.none _)
      | (with_reducible refine LeO.ite ?_ ?_)
      | (with_reducible refine LeO.bind ?_ (fun _ => ?_))
      | exact ih0 _ _ _
      | exact laws_eqIntS.mono _ _ _
      | exact laws_toIntS.mono _ _
      | exact spec_FromDigits.mono _ _ _
      | exact LeO.none _
      | refine LeO.ite ?_ ?_
      | refine LeO.bind ?_ (fun _ => ?_)
theorem laws_FnExactFromDigits.mono : ∀ a0 a1 k, LeO (laws_FnExactFromDigits.f k a0 a1) (laws_FnExactFromDigits.f (k + 1) a0 a1) := by
  intro a0 a1 k
  have ih0 := laws_FnExactFromDigits.mono_l k
  unfold laws_FnExactFromDigits.f
  repeat' first
      | (with_reducible exact ih0 _ _ _)
      | (with_reducible exact laws_eqIntS.mono _ _ _)
      | (with_reducible exact laws_toIntS.mono _ _)
      | (with_reducible exact spec_FromDigits.mono _ _ _)
      | (with_reducible exact LeO.refl _)
      | (with_reducible exact LeO.none _)
      | (with_reducible refine LeO.ite ?_ ?_)
      | (with_reducible refine LeO.bind ?_ (fun _ => ?_))
      | exact ih0 _ _ _
      | exact laws_eqIntS.mono _ _ _
      | exact laws_toIntS.mono _ _
      | exact spec_FromDigits.mono _ _ _
      | exact LeO.none _
      | refine LeO.ite ?_ ?_
      | refine LeO.bind ?_ (fun _ => ?_)
set_option maxHeartbeats 8000000 in
set_option maxRecDepth 100000 in
theorem laws_FnExactFromDigits.calls (k : Nat) (A0 : Option Addr) (c0 : Nat) (l0 : List Int) (a1 : Int) (r : Bool) (w : World) (hr0 : Kd.C (Kd.int .i64) w A0 l0.length l0) (hc0 : l0.length ≤ c0) (h : laws_FnExactFromDigits.f k l0 a1 = some r) :
    Calls Try.prog 11 #[.slice A0 l0.length c0, .int .i64 a1] w fun e w' => e = .returned (.bool r) ∧ Below w.heap.size w w' := by
  have HR0 := Aside0.mk hr0
  have HC0 := Aside0.mk hc0
  clear hr0 hc0
  have HB := Aside0.mk (Below.refl w.heap.size w)
  have H : (if (l0.length : Int) > 1048576 then (some true) else ((laws_toIntS.f k l0).bind fun t116 => ((spec_FromDigits.f k t116 a1).bind fun bt119 => ((laws_toIntS.f k l0).bind fun t121 => ((impl_FromDigits.f t121 a1).bind fun bt124 => (if bt124.1 = bt119.1 then (laws_FnExactFromDigits.j0 k l0 t121 (bt124.2 != bt119.2)) else (laws_FnExactFromDigits.j0 k l0 t121 true))))))) = some r := h
  clear h
  by_cases c3 : (l0.length : Int) > 1048576
  · rw [if_pos c3] at H
    have c3b0 : decide (1048576 < (l0.length : Int)) = true := decide_eq_true c3
    have c3b1 : decide (1048576 < l0.length) = true := decide_eq_true (by omega)
    clear c3
    obtain rfl := Option.some.inj H
    go_enter Try.func11, Try.ntmps11
    go_wp2
    go_ret
    exact ⟨by first | rfl | (simp [errW_none, errW_some] <;> rfl) | (simp [*, errW_none, errW_some] <;> rfl), by repeat (first | (with_reducible first | exact HB.out | apply below_alloc | apply pw_below_drewN | apply below_drew1) | exact HB.out)⟩
  · rw [if_neg c3] at H
    have c3b0 : decide (1048576 < (l0.length : Int)) = false := decide_eq_false c3
    have c3b1 : decide (1048576 < l0.length) = false := decide_eq_false (by omega)
    clear c3
    replace H := Option.bind_eq_some_iff.mp H
    obtain ⟨t116, A40, H⟩ := H
    replace H : ((spec_FromDigits.f k t116 a1).bind fun bt119 => ((laws_toIntS.f k l0).bind fun t121 => ((impl_FromDigits.f t121 a1).bind fun bt124 => (if bt124.1 = bt119.1 then (laws_FnExactFromDigits.j0 k l0 t121 (bt124.2 != bt119.2)) else (laws_FnExactFromDigits.j0 k l0 t121 true))))) = some r := H
    have A4 := Aside0.mk A40
    clear A40
    replace H := Option.bind_eq_some_iff.mp H
    obtain ⟨⟨t119, t120⟩, A50, H⟩ := H
    replace H : ((laws_toIntS.f k l0).bind fun t121 => ((impl_FromDigits.f t121 a1).bind fun bt124 => (if bt124.1 = t119 then (laws_FnExactFromDigits.j0 k l0 t121 (bt124.2 != t120)) else (laws_FnExactFromDigits.j0 k l0 t121 true)))) = some r := H
    have A5 := Aside0.mk A50
    clear A50
    replace H := Option.bind_eq_some_iff.mp H
    obtain ⟨t121, A60, H⟩ := H
    replace H : ((impl_FromDigits.f t121 a1).bind fun bt124 => (if bt124.1 = t119 then (laws_FnExactFromDigits.j0 k l0 t121 (bt124.2 != t120)) else (laws_FnExactFromDigits.j0 k l0 t121 true))) = some r := H
    have A6 := Aside0.mk A60
    clear A60
    replace H := Option.bind_eq_some_iff.mp H
    obtain ⟨⟨t124, t125⟩, A70, H⟩ := H
    replace H : (if t124 = t119 then (laws_FnExactFromDigits.j0 k l0 t121 (t125 != t120)) else (laws_FnExactFromDigits.j0 k l0 t121 true)) = some r := H
    have A7 := Aside0.mk A70
    clear A70
    have HC8 := Aside0.mk H
    clear H
    go_enter Try.func11, Try.ntmps11
    go_upto_region 6 with (first | ((with_reducible refine gate_callee (f := 29) rfl ?_); refine goesL_ (some 15) rfl rfl Try.func29 (by kernel_rfl) rfl #[.slice A0 l0.length c0] rfl (by (try simp only [List.map_toArray, List.map_cons, List.map_nil]); first | done | rfl | (simp only [List.length_drop, List.length_take]; rfl)) ?_; (with_reducible refine (laws_toIntS.calls k _ _ l0 t116 _ ?side1 ?side2 A4.out).mono ?_); (case side1 => repeat (first | exact HR0.out | (with_reducible refine Kd.C_alloc ?_ _) | (with_reducible refine Kd.C_drewN ?_ _) | (with_reducible refine Kd.C_drew ?_))); (case side2 => exact HC0.out); rintro e w9 ⟨v117, rfl, ho0, hb⟩; refine ⟨_, rfl, ?_⟩; have n0_ := Aside0.mk (Kd.R_lower ho0 (below_size (by repeat (first | (with_reducible first | exact HB.out | apply below_alloc | apply pw_below_drewN | apply below_drew1) | exact HB.out)))); have n1_ := Aside0.mk (below_step (by repeat (first | (with_reducible first | exact HB.out | apply below_alloc | apply pw_below_drewN | apply below_drew1) | exact HB.out)) hb); clear HB; have HO118 := n0_; have HB := n1_; clear n0_ n1_; (try clear hb); (try clear ho0); obtain ⟨Ao10, co10, eo10⟩ := Kd.R_slice HO118.out; subst eo10) | ((with_reducible refine gate_callee (f := 33) rfl ?_); refine goesL_ (some 17) rfl rfl Try.func33 (by kernel_rfl) rfl #[.slice Ao10 t116.length co10, .int .i64 a1] rfl (by (try simp only [List.map_toArray, List.map_cons, List.map_nil]); first | done | rfl | (simp only [List.length_drop, List.length_take]; rfl)) ?_; (with_reducible refine (spec_FromDigits.calls k _ _ t116 a1 t119 t120 _ ?side1 ?side2 A5.out).mono ?_); (case side1 => repeat (first | exact (Kd.R_reads' HO118.out).2.2 | (with_reducible refine Kd.C_alloc ?_ _) | (with_reducible refine Kd.C_drewN ?_ _) | (with_reducible refine Kd.C_drew ?_))); (case side2 => exact (Kd.R_reads' HO118.out).2.1); rintro e w' ⟨rfl, ⟨nd, rfl⟩⟩; refine ⟨_, rfl, ?_⟩) | ((with_reducible refine gate_callee (f := 29) rfl ?_); refine goesL_ (some 21) rfl rfl Try.func29 (by kernel_rfl) rfl #[.slice A0 l0.length c0] rfl (by (try simp only [List.map_toArray, List.map_cons, List.map_nil]); first | done | rfl | (simp only [List.length_drop, List.length_take]; rfl)) ?_; (with_reducible refine (laws_toIntS.calls k _ _ l0 t121 _ ?side1 ?side2 A6.out).mono ?_); (case side1 => repeat (first | exact (Kd.C_below HR0.out (by repeat (first | (with_reducible first | exact HB.out | apply below_alloc | apply pw_below_drewN | apply below_drew1) | exact HB.out))) | (with_reducible refine Kd.C_alloc ?_ _) | (with_reducible refine Kd.C_drewN ?_ _) | (with_reducible refine Kd.C_drew ?_))); (case side2 => exact HC0.out); rintro e w11 ⟨v122, rfl, ho0, hb⟩; refine ⟨_, rfl, ?_⟩; have n0_ := Aside0.mk (Kd.R_elder' (by (with_reducible repeat (first | apply Kd.R_alloc | apply Kd.R_drewN | apply Kd.R_drew)); exact HO118.out) (Kd.R_base ho0) hb); have n1_ := Aside0.mk (Kd.R_lower (Kd.R_new' ho0 (Kd.R_lt (by (with_reducible repeat (first | apply Kd.R_alloc | apply Kd.R_drewN | apply Kd.R_drew)); exact HO118.out))) (below_size (by repeat (first | (with_reducible first | exact HB.out | apply below_alloc | apply pw_below_drewN | apply below_drew1) | exact HB.out)))); have n2_ := Aside0.mk (below_step (by repeat (first | (with_reducible first | exact HB.out | apply below_alloc | apply pw_below_drewN | apply below_drew1) | exact HB.out)) hb); clear HO118; clear HB; have HO118 := n0_; have HO123 := n1_; have HB := n2_; clear n0_ n1_ n2_; (try clear hb); (try clear ho0); obtain ⟨Ao12, co12, eo12⟩ := Kd.R_slice HO123.out; subst eo12) | ((with_reducible refine gate_callee (f := 34) rfl ?_); refine goesL_ (some 25) rfl rfl Try.func34 (by kernel_rfl) rfl #[.slice Ao12 t121.length co12, .int .i64 a1] rfl (by (try simp only [List.map_toArray, List.map_cons, List.map_nil]); first | done | rfl | (simp only [List.length_drop, List.length_take]; rfl)) ?_; (with_reducible refine (impl_FromDigits.calls _ _ t121 a1 t124 t125 _ ?side1 ?side2 A7.out).mono ?_); (case side1 => repeat (first | exact (Kd.R_reads' HO123.out).2.2 | (with_reducible refine Kd.C_alloc ?_ _) | (with_reducible refine Kd.C_drewN ?_ _) | (with_reducible refine Kd.C_drew ?_))); (case side2 => exact (Kd.R_reads' HO123.out).2.1); rintro e w13 ⟨rfl, hb⟩; refine ⟨_, rfl, ?_⟩; have n0_ := Aside0.mk (Kd.R_below (by (with_reducible repeat (first | apply Kd.R_alloc | apply Kd.R_drewN | apply Kd.R_drew)); exact HO118.out) hb); have n1_ := Aside0.mk (Kd.R_below (by (with_reducible repeat (first | apply Kd.R_alloc | apply Kd.R_drewN | apply Kd.R_drew)); exact HO123.out) hb); have n2_ := Aside0.mk (below_step (by repeat (first | (with_reducible first | exact HB.out | apply below_alloc | apply pw_below_drewN | apply below_drew1) | exact HB.out)) hb); clear HO118; clear HO123; clear HB; have HO118 := n0_; have HO123 := n1_; have HB := n2_; clear n0_ n1_ n2_; (try clear hb)))
    (try simp only [Act.put, List.setIfInBounds_toArray, List.set_cons_zero, List.set_cons_succ])
    go_cut [35] (fun v35 wc => ∃ (kq : Nat) (x35_7 : Bool), v35 = .bool x35_7 ∧ Aside0 (laws_FnExactFromDigits.j0 kq l0 t121 x35_7 = some r) ∧ Aside0 (kq ≤ k) ∧ Aside0 (Kd.R (Kd.int .i64) 3 wc w.heap.size (fun _ => True) (.slice Ao12 t121.length co12) t121) ∧ Aside0 (Below w.heap.size w wc))
    case first =>
      have H := HC8.out
      clear HC8
      by_cases c14 : t124 = t119
      · rw [if_pos c14] at H
        have c14b0 : (t124 == t119) = true := beq_iff_eq.mpr c14
        have c14b1 : (t124 != t119) = false := bne_eq_false_iff_eq.mpr c14
        clear c14
        (first | rw [c14b0] | (simp only [i64_w, i32_w]; rw [c14b0]) | skip)
        have H' := Aside0.mk H
        clear H
        go_wp2
        go_meet
        case rel => exact ⟨_, ((t125 != t120)), (by first | rfl | (simp; done) | (simp [*]; done)), H', ⟨by first | omega | exact Nat.le_refl _⟩, ⟨by (with_reducible repeat (first | apply Kd.R_alloc | apply Kd.R_drewN | apply Kd.R_drew)); exact Kd.R_mono HO123.out (fun _ hk => trivial)⟩, ⟨by repeat (first | (with_reducible first | exact HB.out | apply below_alloc | apply pw_below_drewN | apply below_drew1) | exact HB.out)⟩⟩
      · rw [if_neg c14] at H
        have c14b0 : (t124 == t119) = false := beq_eq_false_iff_ne.mpr c14
        have c14b1 : (t124 != t119) = true := bne_iff_ne.mpr c14
        (first | rw [c14b0] | (simp only [i64_w, i32_w]; rw [c14b0]) | skip)
        have H' := Aside0.mk H
        clear H
        go_wp2
        go_meet
        case rel => exact ⟨_, (true), (by first | rfl | (simp; done) | (simp [*]; done)), H', ⟨by first | omega | exact Nat.le_refl _⟩, ⟨by (with_reducible repeat (first | apply Kd.R_alloc | apply Kd.R_drewN | apply Kd.R_drew)); exact Kd.R_mono HO123.out (fun _ hk => trivial)⟩, ⟨by repeat (first | (with_reducible first | exact HB.out | apply below_alloc | apply pw_below_drewN | apply below_drew1) | exact HB.out)⟩⟩
    case rest =>
      clear HC8
      try clear c1
      try clear c2
      try clear p2
      try clear c3
      try clear c3b0
      try clear c3b1
      try clear c11
      try clear c14
      try clear c14b0
      try clear c14b1
      obtain ⟨kq, x35_7, rfl, HA, HJ7, HO_7, HB⟩ := hcut
      cases kq with
      | zero => exact absurd HA.out (by simp [laws_FnExactFromDigits.j0])
      | succ kj7 =>
        have H := HA.out
        clear HA
        simp only [laws_FnExactFromDigits.j0] at H
        by_cases c15 : x35_7 = true
        · subst c15
          have H1 : (some false) = some r := by rw [if_pos rfl] at H; exact H
          clear H
          have H := H1
          clear H1
          obtain rfl := Option.some.inj H
          go_wp2
          go_ret
          exact ⟨by first | rfl | (simp [errW_none, errW_some] <;> rfl) | (simp [*, errW_none, errW_some] <;> rfl), by repeat (first | (with_reducible first | exact HB.out | apply below_alloc | apply pw_below_drewN | apply below_drew1) | exact HB.out)⟩
        · replace c15 := Bool.eq_false_iff.mpr c15
          subst c15
          have H1 : ((laws_toIntS.f kj7 l0).bind fun t126 => ((laws_eqIntS.f kj7 t121 t126).bind fun t129 => (if t129 = true then (some true) else (some false)))) = some r := by rw [if_neg (show ¬ (false = true) by decide)] at H; exact H
          clear H
          have H := H1
          clear H1
          replace H := Option.bind_eq_some_iff.mp H
          obtain ⟨t126, A160, H⟩ := H
          replace H : ((laws_eqIntS.f kj7 t121 t126).bind fun t129 => (if t129 = true then (some true) else (some false))) = some r := H
          have A16 := Aside0.mk A160
          clear A160
          replace H := Option.bind_eq_some_iff.mp H
          obtain ⟨t129, A170, H⟩ := H
          replace H : (if t129 = true then (some true) else (some false)) = some r := H
          have A17 := Aside0.mk A170
          clear A170
          by_cases c18 : t129 = true
          · subst c18
            have H1 : (some true) = some r := by rw [if_pos rfl] at H; exact H
            clear H
            have H := H1
            clear H1
            obtain rfl := Option.some.inj H
            go_wp2_with (first | ((with_reducible refine gate_callee (f := 29) rfl ?_); refine goesL_ (some 38) rfl rfl Try.func29 (by kernel_rfl) rfl #[.slice A0 l0.length c0] rfl (by (try simp only [List.map_toArray, List.map_cons, List.map_nil]); first | done | rfl | (simp only [List.length_drop, List.length_take]; rfl)) ?_; (with_reducible refine (laws_toIntS.calls kj7 _ _ l0 t126 _ ?side1 ?side2 A16.out).mono ?_); (case side1 => repeat (first | exact (Kd.C_below HR0.out HB.out) | (with_reducible refine Kd.C_alloc ?_ _) | (with_reducible refine Kd.C_drewN ?_ _) | (with_reducible refine Kd.C_drew ?_))); (case side2 => exact HC0.out); rintro e w19 ⟨v127, rfl, ho0, hb⟩; refine ⟨_, rfl, ?_⟩; have n0_ := Aside0.mk (Kd.R_elder' (by (with_reducible repeat (first | apply Kd.R_alloc | apply Kd.R_drewN | apply Kd.R_drew)); exact HO_7.out) (Kd.R_base ho0) hb); have n1_ := Aside0.mk (Kd.R_lower (Kd.R_new' ho0 (Kd.R_lt (by (with_reducible repeat (first | apply Kd.R_alloc | apply Kd.R_drewN | apply Kd.R_drew)); exact HO_7.out))) (below_size (by repeat (first | (with_reducible first | exact HB.out | apply below_alloc | apply pw_below_drewN | apply below_drew1) | exact HB.out)))); have n2_ := Aside0.mk (below_step (by repeat (first | (with_reducible first | exact HB.out | apply below_alloc | apply pw_below_drewN | apply below_drew1) | exact HB.out)) hb); clear HO_7; clear HB; have HO_7 := n0_; have HO128 := n1_; have HB := n2_; clear n0_ n1_ n2_; (try clear hb); (try clear ho0); obtain ⟨Ao20, co20, eo20⟩ := Kd.R_slice HO128.out; subst eo20) | ((with_reducible refine gate_callee (f := 21) rfl ?_); refine goesL_ (some 39) rfl rfl Try.func21 (by kernel_rfl) rfl #[.slice Ao12 t121.length co12, .slice Ao20 t126.length co20] rfl (by (try simp only [List.map_toArray, List.map_cons, List.map_nil]); first | done | rfl | (simp only [List.length_drop, List.length_take]; rfl)) ?_; (with_reducible refine (laws_eqIntS.calls kj7 _ _ t121 _ _ t126 true _ ?side1 ?side2 ?side3 ?side4 A17.out).mono ?_); (case side1 => repeat (first | exact (Kd.R_reads' HO_7.out).2.2 | (with_reducible refine Kd.C_alloc ?_ _) | (with_reducible refine Kd.C_drewN ?_ _) | (with_reducible refine Kd.C_drew ?_))); (case side2 => exact (Kd.R_reads' HO_7.out).2.1); (case side3 => repeat (first | exact (Kd.R_reads' HO128.out).2.2 | (with_reducible refine Kd.C_alloc ?_ _) | (with_reducible refine Kd.C_drewN ?_ _) | (with_reducible refine Kd.C_drew ?_))); (case side4 => exact (Kd.R_reads' HO128.out).2.1); rintro e w' ⟨rfl, ⟨nd, rfl⟩⟩; refine ⟨_, rfl, ?_⟩))
            go_ret
            exact ⟨by first | rfl | (simp [errW_none, errW_some] <;> rfl) | (simp [*, errW_none, errW_some] <;> rfl), by repeat (first | (with_reducible first | exact HB.out | apply below_alloc | apply pw_below_drewN | apply below_drew1) | exact HB.out)⟩
          · replace c18 := Bool.eq_false_iff.mpr c18
            subst c18
            have H1 : (some false) = some r := by rw [if_neg (show ¬ (false = true) by decide)] at H; exact H
            clear H
            have H := H1
            clear H1
            obtain rfl := Option.some.inj H
            go_wp2_with (first | ((with_reducible refine gate_callee (f := 29) rfl ?_); refine goesL_ (some 38) rfl rfl Try.func29 (by kernel_rfl) rfl #[.slice A0 l0.length c0] rfl (by (try simp only [List.map_toArray, List.map_cons, List.map_nil]); first | done | rfl | (simp only [List.length_drop, List.length_take]; rfl)) ?_; (with_reducible refine (laws_toIntS.calls kj7 _ _ l0 t126 _ ?side1 ?side2 A16.out).mono ?_); (case side1 => repeat (first | exact (Kd.C_below HR0.out HB.out) | (with_reducible refine Kd.C_alloc ?_ _) | (with_reducible refine Kd.C_drewN ?_ _) | (with_reducible refine Kd.C_drew ?_))); (case side2 => exact HC0.out); rintro e w21 ⟨v127, rfl, ho0, hb⟩; refine ⟨_, rfl, ?_⟩; have n0_ := Aside0.mk (Kd.R_elder' (by (with_reducible repeat (first | apply Kd.R_alloc | apply Kd.R_drewN | apply Kd.R_drew)); exact HO_7.out) (Kd.R_base ho0) hb); have n1_ := Aside0.mk (Kd.R_lower (Kd.R_new' ho0 (Kd.R_lt (by (with_reducible repeat (first | apply Kd.R_alloc | apply Kd.R_drewN | apply Kd.R_drew)); exact HO_7.out))) (below_size (by repeat (first | (with_reducible first | exact HB.out | apply below_alloc | apply pw_below_drewN | apply below_drew1) | exact HB.out)))); have n2_ := Aside0.mk (below_step (by repeat (first | (with_reducible first | exact HB.out | apply below_alloc | apply pw_below_drewN | apply below_drew1) | exact HB.out)) hb); clear HO_7; clear HB; have HO_7 := n0_; have HO128 := n1_; have HB := n2_; clear n0_ n1_ n2_; (try clear hb); (try clear ho0); obtain ⟨Ao22, co22, eo22⟩ := Kd.R_slice HO128.out; subst eo22) | ((with_reducible refine gate_callee (f := 21) rfl ?_); refine goesL_ (some 39) rfl rfl Try.func21 (by kernel_rfl) rfl #[.slice Ao12 t121.length co12, .slice Ao22 t126.length co22] rfl (by (try simp only [List.map_toArray, List.map_cons, List.map_nil]); first | done | rfl | (simp only [List.length_drop, List.length_take]; rfl)) ?_; (with_reducible refine (laws_eqIntS.calls kj7 _ _ t121 _ _ t126 false _ ?side1 ?side2 ?side3 ?side4 A17.out).mono ?_); (case side1 => repeat (first | exact (Kd.R_reads' HO_7.out).2.2 | (with_reducible refine Kd.C_alloc ?_ _) | (with_reducible refine Kd.C_drewN ?_ _) | (with_reducible refine Kd.C_drew ?_))); (case side2 => exact (Kd.R_reads' HO_7.out).2.1); (case side3 => repeat (first | exact (Kd.R_reads' HO128.out).2.2 | (with_reducible refine Kd.C_alloc ?_ _) | (with_reducible refine Kd.C_drewN ?_ _) | (with_reducible refine Kd.C_drew ?_))); (case side4 => exact (Kd.R_reads' HO128.out).2.1); rintro e w' ⟨rfl, ⟨nd, rfl⟩⟩; refine ⟨_, rfl, ?_⟩))
            go_ret
            exact ⟨by first | rfl | (simp [errW_none, errW_some] <;> rfl) | (simp [*, errW_none, errW_some] <;> rfl), by repeat (first | (with_reducible first | exact HB.out | apply below_alloc | apply pw_below_drewN | apply below_drew1) | exact HB.out)⟩

/-- THE ONE PURE STATEMENT of laws_FnExactFromDigits: yours. -/
def laws_FnExactFromDigits.Pure : Prop := ∀ (l0 : List Int) (a1 : Int), l0.length ≤ maxLen → l0.length * 8 ≤ 140737488351232 → (∀ x ∈ l0, (Lit.int .i64 x).wf = true) → (Lit.int .i64 a1).wf = true → ∃ k, laws_FnExactFromDigits.f k l0 a1 = some true
theorem laws_FnExactFromDigits.walk (P : laws_FnExactFromDigits.Pure) (a0 : Option Addr) (len0 cap0 : Nat) (z0 : List Int) (a1 : Int) (w : World) (w0 : (a0 = none ∧ len0 = 0 ∧ cap0 = 0 ∧ z0 = []) ∨ ∃ x, a0 = some x ∧ len0 ≤ cap0 ∧ cap0 ≤ maxLen ∧ z0.length = cap0 ∧ (∀ i, i < z0.length → w.cell? (x.add i) = some (.int .i64 (z0.getD i 0))) ∧ ∀ n ∈ z0, (Lit.int .i64 n).wf = true) (y0 : len0 * 8 ≤ 140737488351232) (w1 : (Lit.int .i64 a1).wf = true) :
    Calls Try.prog 11 #[.slice a0 len0 cap0, .int .i64 a1] w fun e w' => e = .returned (.bool true) ∧ Below w.heap.size w w' := by
  obtain ⟨l0, rfl, hr0, hm0, hw0, hc0⟩ := ReadsInt.ofRowC w0
  obtain ⟨k, h⟩ := P l0 a1 hm0 y0 hw0 w1
  refine (laws_FnExactFromDigits.calls k _ _ l0 a1 true w (Kd.C_of_reads (d := (0 : Int)) (h1 := fun _ => rfl) hr0) hc0 h).mono ?_
  rintro e w' ⟨rfl, hd⟩
  exact ⟨rfl, hd⟩

end Go.Proofs.Ytkhlhhpkleaphaa.MFnExactFromDigits
