/- slices.Backward at this seat: its contract, for a range over a function. -/
import Derived.Test.YtlefjgpkabijdaaProg
import Derived.Test.YtlefjgpkabijdaaWWords
import Derived.RangeFuncNested
import Derived.RangeFuncBound
import Derived.RangeFuncCalls
import Derived.RangeFuncLeaves
import Derived.Shelf.Abstract
import Derived.Shelf.RegionOpen
import Derived.WalkKit
import Derived.OwnWalkIn
import Derived.TacticsInMore
import Derived.LoopNIn
import Derived.LoopIn
import Derived.RangeFuncBox
namespace Go.Proofs.YtlefjgpkabijdaaB
open Go.RowKit Go.Shelf Go.Proofs.YtlefjgpkabijdaaW.PrintWords
attribute [local go_sem] Oper.semAt_some

/-! a region that draws its order, within a round: by an invariant -/
theorem getD_false_get {l : List Bool} {i : Nat} (h : l.getD i true = false) : l[i]? = some false := by
  rw [List.getD_eq_getElem?_getD] at h
  cases e : l[i]? with
  | none => rw [e] at h; simp at h
  | some b => rw [e] at h; simp at h; rw [h]
theorem gd_ne {α : Type} {xs : Array α} {i j : Nat} {v d : α} (h : i ≠ j) : (xs.setIfInBounds i v).getD j d = xs.getD j d := by
  rw [Array.getD_eq_getD_getElem?, Array.getD_eq_getD_getElem?, Array.getElem?_setIfInBounds_ne h]
theorem gd_eq {α : Type} {xs : Array α} {i : Nat} {v d : α} (h : i < xs.size) : (xs.setIfInBounds i v).getD i d = v := by
  rw [Array.getD_eq_getD_getElem?, Array.getElem?_setIfInBounds_self, if_pos h]
  rfl
theorem gd_any {α : Type} {xs : Array α} {i : Nat} {d d' : α} (h : i < xs.size) : xs.getD i d = xs.getD i d' := by
  rw [Array.getD_eq_getD_getElem?, Array.getD_eq_getD_getElem?, Array.getElem?_eq_getElem h]
  rfl
def cntF (l : List Bool) : Nat := (l.filter (fun b => !b)).length
theorem cntF_set : ∀ (l : List Bool) (i : Nat), l[i]? = some false → cntF (l.set i true) + 1 = cntF l
  | [], _, h => by simp at h
  | b :: l, 0, h => by
    have : b = false := by simpa using h
    subst this
    simp [cntF]
  | b :: l, i + 1, h => by
    have := cntF_set l i (by simpa using h)
    cases b <;> simp [cntF] at this ⊢ <;> omega
theorem cntF_zero {l : List Bool} (h : cntF l = 0) (i : Nat) : l.getD i true = true := by
  cases e : l.getD i true with
  | true => rfl
  | false =>
    have := cntF_set l i (getD_false_get e)
    omega
/-- Where nothing may come up, all has been done. -/
theorem ready_nil_all {md : Region.Mode} {ops : Array Oper} {listed : Array Bool} (hz : listed.size = ops.size)
    (hord : ((List.range ops.size).all fun i => match ops[i]? with | some o => o.after.all (fun e => !Region.binds md e || decide (e.on < i)) | none => true) = true)
    (hr : Region.ready md ops listed = []) : ∀ i, i < ops.size → listed.getD i false = true := by
  intro i
  induction i using Nat.strongRecOn with
  | _ i ih =>
    intro hi
    rw [gd_any (by omega) (d' := true)]
    cases e : listed.getD i true with
    | true => rfl
    | false =>
      have ho : ops[i]? = some ops[i] := Array.getElem?_eq_getElem hi
      have hm : i ∈ Region.ready md ops listed := mem_ready.2 ⟨e, ops[i], ho, fun x hx hb => by
        have h1 := List.all_eq_true.1 hord i (List.mem_range.2 hi)
        rw [ho] at h1
        have h2 := Array.all_eq_true'.1 h1 x hx
        rw [hb] at h2
        have h3 : x.on < i := by simpa using h2
        exact ih x.on h3 (by omega)⟩
      rw [hr] at hm
      cases hm
/-- A region that draws its order, by an invariant over what has been done. -/
theorem wpAnyIn_inv {F : Fence} {n : Nat} {P : Program} {md : Region.Mode} {ops : Array Oper} {Q : Exit → Act → World → Prop} (I : Array Bool → Act → World → Prop)
    (hdone : ∀ listed a w, I listed a w → Region.ready md ops listed = [] → Q .normal a w)
    (hstep : ∀ listed a w, I listed a w → ∀ i ∈ Region.ready md ops listed, wpOpIn F n P ops Q i (I (listed.setIfInBounds i true)) a w) :
    ∀ (fuel : Nat) (listed : Array Bool) (a : Act) (w : World), I listed a w → cntF listed.toList ≤ fuel → wpAnyIn F n P md ops Q fuel listed a w
  | 0, listed, a, w, hI, hc => by
    have hr : Region.ready md ops listed = [] := by
      apply List.eq_nil_iff_forall_not_mem.2
      intro i hi
      have h1 := (mem_ready.1 hi).1
      have h2 := cntF_zero (by omega) (l := listed.toList) i
      rw [Array.getD_eq_getD_getElem?] at h1
      rw [List.getD_eq_getElem?_getD, Array.getElem?_toList] at h2
      rw [h2] at h1
      cases h1
    exact ⟨hr, hdone _ _ _ hI hr⟩
  | fuel + 1, listed, a, w, hI, hc => by
    refine ⟨fun h => hdone _ _ _ hI h, fun i hi => wpOpIn_mono (fun a' w' h => wpAnyIn_inv I hdone hstep fuel _ a' w' h ?_) (hstep _ _ _ hI i hi)⟩
    have h1 := (mem_ready.1 hi).1
    rw [Array.getD_eq_getD_getElem?] at h1
    have h2 := cntF_set listed.toList i (getD_false_get (by rw [List.getD_eq_getElem?_getD, Array.getElem?_toList]; exact h1))
    rw [Array.toList_setIfInBounds]
    omega
/-- The first k indices from the top of a row of L. -/
def down (L k : Nat) : List Nat := (List.range k).map (fun j => L - 1 - j)
theorem down_succ (L k : Nat) : down L (k + 1) = down L k ++ [L - 1 - k] := by simp [down, List.range_succ]
theorem down_length (L k : Nat) : (down L k).length = k := by simp [down]
/-- What a round keeps: some blocks. -/
def Keeps (Sx : Nat → Prop) (W W' : World) : Prop := ∀ i, Sx i → W'.heap[i]? = W.heap[i]?
theorem Keeps.refl (Sx : Nat → Prop) (W : World) : Keeps Sx W W := fun _ _ => rfl
theorem Keeps.trans {Sx : Nat → Prop} {A B C : World} (h : Keeps Sx A B) (k : Keeps Sx B C) : Keeps Sx A C := fun i hi => (k i hi).trans (h i hi)
theorem Keeps.cell {Sx : Nat → Prop} {A B : World} (h : Keeps Sx A B) {p : Addr} {v : Value} (hp : Sx p.block) (hc : A.cell? p = some v) : B.cell? p = some v := by
  have := h p.block hp
  unfold World.cell? at hc ⊢
  rw [this]
  exact hc
theorem Keeps.boxed {Sx : Nat → Prop} {A B : World} (h : Keeps Sx A B) {b : Nat} {t : TypeId} {v : Value} (hp : Sx b) (hc : Boxed A b t v) : Boxed B b t v := (h b hp).trans hc
set_option maxRecDepth 100000 in
set_option maxHeartbeats 2000000 in
/-- slices.Backward's closure, for every loop body that keeps the row and its variable. -/
theorem back1_f31 (F : Fence) (n : Nat) (hF : F.fn 65) (hro : F.round = none) (hn : 1 ≤ n) (l Bs : Nat) (ad : Addr) (len cap : Nat) (fa fb : Nat → Int) (hreach : len ≤ 1000000000000) (Sx : Nat → Prop) (hSB : Sx Bs) (hSb : Sx ad.block) (J Jx : List (Fin len) → World → Prop)
    (hY : ∀ (pre : List (Fin len)) (x : Fin len) (W : World), J pre W → pre.length < len → YieldAt F (n - 1) Try.prog l #[.int .i64 (x.1 : Int), .agg #[.int .i64 (fa x.1), .int .i64 (fb x.1)]] W fun e W' =>
      (e = .returned (.bool true) ∧ J (pre ++ [x]) W' ∧ Keeps Sx W W') ∨ (e = .returned (.bool false) ∧ Jx (pre ++ [x]) W'))
    (W : World) (hBs : Boxed W Bs 30 (.slice (some ad) len cap)) (hc : ∀ j, j < len → W.cell? (ad.add (j * 2)) = some (.int .i64 (fa j)) ∧ W.cell? ⟨(ad.add (j * 2)).block, (ad.add (j * 2)).off + 1, none⟩ = some (.int .i64 (fb j))) (h0 : J [] W) :
    CallsIn F n Try.prog 65 #[.func (.yield l) #[] #[], .pointer (some ⟨Bs, 0, none⟩)] W fun e W' => (∃ v, e = .returned v) ∧
      ((∃ ys, ys.map Fin.val = down len len ∧ J ys W') ∨ (∃ pre, (∃ k, k ≤ len ∧ pre.map Fin.val = down len k) ∧ Jx pre W')) := by
  have hu := Try.underlying56
  have hB0 := hBs.cell
  refine callsIn_of_wp Try.func65 rfl hF ?_ hro
  simp only [Try.ntmps65, List.size_toArray, List.length_cons, List.length_nil, Nat.reduceAdd, Nat.reduceSub, Array.replicate_succ, Array.replicate_zero, List.push_toArray, List.append_toArray, List.nil_append, List.cons_append]
  gi_wp2
  gi_loopw [3] (fun i wr => ∃ (k : Nat) (x : Int) (pre : List (Fin len)), Aside0 (x + 1 + k = len ∧ k ≤ len ∧ pre.map Fin.val = down len k) ∧ i = .int .i64 x ∧ J pre wr ∧ Keeps Sx W wr)
    (fun i _ => (intOf i + 1).toNat)
  case atStart => exact ⟨0, _, [], ⟨⟨by simp, Nat.zero_le _, rfl⟩⟩, rfl, h0, Keeps.refl _ _⟩
  case round =>
    obtain ⟨k, x, pre, HK, rfl, hJs, hnx⟩ := hrel
    have hB1 := (hnx.boxed hSB hBs).cell
    by_cases hlt : 0 ≤ x
    · obtain ⟨j, rfl⟩ := Int.eq_ofNat_of_zero_le hlt
      clear hlt
      have hjl : j < len := by have := HK.out; omega
      obtain ⟨fn, tmps, assign, body, hy, hR⟩ := hY pre ⟨j, hjl⟩ wr hJs (by have h := congrArg List.length HK.out.2.2; rw [List.length_map, down_length] at h; have := HK.out; omega)
      dsimp only at hy
      obtain ⟨hc0, hc1⟩ := hc j hjl
      replace hc0 := hnx.cell (p := ad.add (j * 2)) (by rw [show (ad.add (j * 2)).block = ad.block from add_block _ _]; exact hSb) hc0
      replace hc1 := hnx.cell (p := ⟨(ad.add (j * 2)).block, (ad.add (j * 2)).off + 1, none⟩) (by rw [show (ad.add (j * 2)).block = ad.block from add_block _ _]; exact hSb) hc1
      gi_wp2
      refine hR.mono ?_
      rintro e W3 (⟨rfl, hJ3, hk3⟩ | ⟨rfl, hJx3⟩)
      · gi_wp2
        go_roundw
        case rel => exact ⟨k + 1, _, pre ++ [⟨j, hjl⟩], ⟨⟨by have := HK.out; first | omega | (unfold wrap64; omega), by have := HK.out; omega, by rw [down_succ, show len - 1 - k = j by have := HK.out; omega, List.map_append, HK.out.2.2]; rfl⟩⟩, rfl, hJ3, hnx.trans hk3⟩
        case measure => simp only [intOf]; first | omega | (unfold wrap64; omega)
      · gi_wp2
        refine bodyPost_ret (results_none rfl _ _ _) rfl ?_
        exact ⟨⟨_, rfl⟩, .inr ⟨_, ⟨k + 1, by have := HK.out; omega, by rw [down_succ, show len - 1 - k = j by have := HK.out; omega, List.map_append, HK.out.2.2]; rfl⟩, hJx3⟩⟩
    · obtain rfl : x = -1 := by have := HK.out; omega
      obtain rfl : k = len := by have := HK.out; omega
      clear hlt
      gi_wp2
      go_end0
      exact ⟨⟨_, rfl⟩, .inl ⟨_, HK.out.2.2, hJs⟩⟩
set_option maxRecDepth 100000 in
set_option maxHeartbeats 1000000 in
/-- .. at an empty row: no round. -/
theorem back1_nil_f31 (F : Fence) (n : Nat) (hF : F.fn 65) (hro : F.round = none) (l Bs cap : Nat) (A : Option Addr) {α : Type} (J : List α → World → Prop) (W : World) (hBs : Boxed W Bs 30 (.slice A 0 cap)) (h0 : J [] W) :
    CallsIn F n Try.prog 65 #[.func (.yield l) #[] #[], .pointer (some ⟨Bs, 0, none⟩)] W fun e W' => (∃ v, e = .returned v) ∧ J [] W' := by
  have hB0 := hBs.cell
  refine callsIn_of_wp Try.func65 rfl hF ?_ hro
  simp only [Try.ntmps65, List.size_toArray, List.length_cons, List.length_nil, Nat.reduceAdd, Nat.reduceSub, Array.replicate_succ, Array.replicate_zero, List.push_toArray, List.append_toArray, List.nil_append, List.cons_append]
  gi_wp2
  gi_loopw [3] (fun i wr => i = .int .i64 (-1) ∧ J [] wr) (fun _ _ => 0)
  case atStart => exact ⟨by simp, h0⟩
  case round =>
    obtain ⟨rfl, hJs⟩ := hrel
    gi_wp2
    go_end0
    exact ⟨⟨_, rfl⟩, hJs⟩
set_option maxHeartbeats 1000000 in
/-- slices.Backward(s): the slice is boxed; the function value captures the box. -/
theorem back_f31 (w : World) (A : Option Addr) (len cap : Nat) :
    Calls Try.prog 31 #[.slice A len cap] w fun e w' => e = .returned (.func (.func 65) #[] #[.pointer (some ⟨w.heap.size, 0, none⟩)]) ∧ w' = w.alloc (.cells #[.slice A len cap] 30) := by
  go_enter Try.func31, Try.ntmps31
  go_wp2
  go_ret
  exact ⟨rfl, rfl⟩
/-- slices.Backward(s) hands back an iterator that gives the indices from the top. -/
theorem back_stops_f31 (F : Fence) (n : Nat) (hF : F.fn 65) (hro : F.round = none) (hn : 1 ≤ n) (Bs : Nat) (A : Option Addr) (len cap : Nat) (fa fb : Nat → Int) (hreach : len ≤ 1000000000000) (w : World) (hBs : Boxed w Bs 30 (.slice A len cap))
    (hc : 0 < len → ∃ ad, A = some ad ∧ ad.block < w.heap.size ∧ ∀ j, j < len → w.cell? (ad.add (j * 2)) = some (.int .i64 (fa j)) ∧ w.cell? ⟨(ad.add (j * 2)).block, (ad.add (j * 2)).off + 1, none⟩ = some (.int .i64 (fb j))) :
    SeqStopsK F n Try.prog 65 #[.pointer (some ⟨Bs, 0, none⟩)] (fun x : Fin len => #[Value.int .i64 (x.1 : Int), .agg #[.int .i64 (fa x.1), .int .i64 (fb x.1)]]) (Keeps (fun i => i = Bs ∨ (0 < len ∧ ∃ ad, A = some ad ∧ i = ad.block))) (fun ys => ys.map Fin.val = down len len) (fun pre => ∃ k, k ≤ len ∧ pre.map Fin.val = down len k) len w := fun l J Jx W hW _ _ hY h0 => by
  have hBs' : Boxed W Bs 30 (.slice A len cap) := (hW.block Bs hBs.lt).trans hBs
  by_cases hl : 0 < len
  · obtain ⟨ad, rfl, hlt, hcs⟩ := hc hl
    exact back1_f31 F n hF hro hn l Bs ad len cap fa fb hreach _ (.inl rfl) (.inr ⟨hl, ad, rfl, rfl⟩) J Jx hY W hBs' (fun j hj => by
      obtain ⟨h1, h2⟩ := hcs j hj
      exact ⟨(hW.cell (p := ad.add (j * 2)) (by show (ad.add (j * 2)).block < _; rw [add_block]; exact hlt)).trans h1, (hW.cell (p := ⟨(ad.add (j * 2)).block, (ad.add (j * 2)).off + 1, none⟩) (by show (ad.add (j * 2)).block < _; rw [add_block]; exact hlt)).trans h2⟩) h0
  · obtain rfl : len = 0 := by omega
    exact (back1_nil_f31 F n hF hro l Bs cap A J W hBs' h0).mono fun e W' ⟨he, hj⟩ => ⟨he, .inl ⟨_, rfl, hj⟩⟩

end Go.Proofs.YtlefjgpkabijdaaB
