/- slices.Values over whole numbers at this seat: its contract, for a range over a function. -/
import Derived.Test.YtdcdaoancmpbeaaProg
import Derived.Test.YtdcdaoancmpbeaaWWords
import Derived.RangeFuncNested
import Derived.RangeFuncBound
import Derived.RangeFuncCalls
import Derived.RangeFuncLeaves
import Derived.Shelf.Abstract
import Derived.Shelf.RegionOpen
import Derived.WalkKit
import Derived.OwnWalkIn
import Derived.TacticsInMore
import Derived.LoopNIn
import Derived.LoopIn
import Derived.RangeFuncBox
namespace Go.Proofs.YtdcdaoancmpbeaaVI
open Go.RowKit Go.Shelf Go.Proofs.YtdcdaoancmpbeaaW.PrintWords
attribute [local go_sem] Oper.semAt_some
set_option linter.unusedVariables false

/-- What a round keeps: some blocks. -/
def Keeps (Sx : Nat → Prop) (W W' : World) : Prop := ∀ i, Sx i → W'.heap[i]? = W.heap[i]?
theorem Keeps.refl (Sx : Nat → Prop) (W : World) : Keeps Sx W W := fun _ _ => rfl
theorem Keeps.trans {Sx : Nat → Prop} {A B C : World} (h : Keeps Sx A B) (k : Keeps Sx B C) : Keeps Sx A C := fun i hi => (k i hi).trans (h i hi)
theorem Keeps.cell {Sx : Nat → Prop} {A B : World} (h : Keeps Sx A B) {p : Addr} {v : Value} (hp : Sx p.block) (hc : A.cell? p = some v) : B.cell? p = some v := by
  have := h p.block hp
  unfold World.cell? at hc ⊢
  rw [this]
  exact hc
theorem Keeps.boxed {Sx : Nat → Prop} {A B : World} (h : Keeps Sx A B) {b : Nat} {t : TypeId} {v : Value} (hp : Sx b) (hc : Boxed A b t v) : Boxed B b t v := (h b hp).trans hc
set_option maxRecDepth 100000 in
set_option maxHeartbeats 2000000 in
/-- slices.Values' closure, for every loop body that keeps the row and its variable. -/
theorem val1_f111 (F : Fence) (n : Nat) (hF : F.fn 122) (hro : F.round = none) (hn : 1 ≤ n) (l Bs : Nat) (ad : Addr) (len cap : Nat) (fa : Nat → Int) (hreach : len ≤ 1000000000000) (Sx : Nat → Prop) (hSB : Sx Bs) (hSb : Sx ad.block) (J Jx : List (Fin len) → World → Prop)
    (hY : ∀ (pre : List (Fin len)) (x : Fin len) (W : World), J pre W → pre.length < len → YieldAt F (n - 1) Try.prog l #[.int .i64 (fa x.1)] W fun e W' =>
      (e = .returned (.bool true) ∧ J (pre ++ [x]) W' ∧ Keeps Sx W W') ∨ (e = .returned (.bool false) ∧ Jx (pre ++ [x]) W'))
    (W : World) (hBs : Boxed W Bs 23 (.slice (some ad) len cap)) (hc : ∀ j, j < len → W.cell? (ad.add j) = some (.int .i64 (fa j))) (h0 : J [] W) :
    CallsIn F n Try.prog 122 #[.func (.yield l) #[] #[], .pointer (some ⟨Bs, 0, none⟩)] W fun e W' => (∃ v, e = .returned v) ∧
      ((∃ ys, ys.map Fin.val = List.range len ∧ J ys W') ∨ (∃ pre, (∃ k, k ≤ len ∧ pre.map Fin.val = List.range k) ∧ Jx pre W')) := by
  have hB0 := hBs.cell
  refine callsIn_of_wp Try.func122 rfl hF ?_ hro
  simp only [Try.ntmps122, List.size_toArray, List.length_cons, List.length_nil, Nat.reduceAdd, Nat.reduceSub, Array.replicate_succ, Array.replicate_zero, List.push_toArray, List.append_toArray, List.nil_append, List.cons_append]
  gi_wp2
  gi_loopw [7] (fun i wr => ∃ (k : Nat) (pre : List (Fin len)), Aside0 (k ≤ len ∧ pre.map Fin.val = List.range k) ∧ i = .int .i64 (k : Int) ∧ J pre wr ∧ Keeps Sx W wr)
    (fun i _ => ((len : Int) - intOf i).toNat)
  case atStart => exact ⟨0, [], ⟨⟨Nat.zero_le _, rfl⟩⟩, rfl, h0, Keeps.refl _ _⟩
  case round =>
    obtain ⟨k, pre, HK, rfl, hJs, hnx⟩ := hrel
    by_cases hlt : (k : Int) < (len : Int)
    · have hjl : k < len := by omega
      obtain ⟨fn, tmps, assign, body, hy, hR⟩ := hY pre ⟨k, hjl⟩ wr hJs (by have h := congrArg List.length HK.out.2; rw [List.length_map, List.length_range] at h; omega)
      dsimp only at hy
      have hc0 := hc k hjl
      replace hc0 := hnx.cell (p := ad.add k) (by rw [show (ad.add k).block = ad.block from add_block _ _]; exact hSb) hc0
      gi_wp2
      refine hR.mono ?_
      rintro e W3 (⟨rfl, hJ3, hk3⟩ | ⟨rfl, hJx3⟩)
      · gi_wp2
        go_roundw
        case rel => exact ⟨k + 1, pre ++ [⟨k, hjl⟩], ⟨⟨by omega, by rw [List.range_succ, List.map_append, HK.out.2]; rfl⟩⟩, by go_num, hJ3, hnx.trans hk3⟩
        case measure => simp only [intOf]; first | omega | (unfold wrap64; omega)
      · gi_wp2
        refine bodyPost_ret (results_none rfl _ _ _) rfl ?_
        exact ⟨⟨_, rfl⟩, .inr ⟨_, ⟨k + 1, by omega, by rw [List.range_succ, List.map_append, HK.out.2]; rfl⟩, hJx3⟩⟩
    · obtain rfl : k = len := by have := HK.out.1; omega
      gi_wp2
      go_end0
      exact ⟨⟨_, rfl⟩, .inl ⟨_, HK.out.2, hJs⟩⟩
set_option maxRecDepth 100000 in
set_option maxHeartbeats 1000000 in
/-- .. at an empty row: no round. -/
theorem val1_nil_f111 (F : Fence) (n : Nat) (hF : F.fn 122) (hro : F.round = none) (l Bs cap : Nat) (A : Option Addr) {α : Type} (J : List α → World → Prop) (W : World) (hBs : Boxed W Bs 23 (.slice A 0 cap)) (h0 : J [] W) :
    CallsIn F n Try.prog 122 #[.func (.yield l) #[] #[], .pointer (some ⟨Bs, 0, none⟩)] W fun e W' => (∃ v, e = .returned v) ∧ J [] W' := by
  have hB0 := hBs.cell
  refine callsIn_of_wp Try.func122 rfl hF ?_ hro
  simp only [Try.ntmps122, List.size_toArray, List.length_cons, List.length_nil, Nat.reduceAdd, Nat.reduceSub, Array.replicate_succ, Array.replicate_zero, List.push_toArray, List.append_toArray, List.nil_append, List.cons_append]
  gi_wp2
  gi_loopw [7] (fun i wr => i = .int .i64 0 ∧ J [] wr) (fun _ _ => 0)
  case atStart => exact ⟨by simp, h0⟩
  case round =>
    obtain ⟨rfl, hJs⟩ := hrel
    gi_wp2
    go_end0
    exact ⟨⟨_, rfl⟩, hJs⟩
set_option maxHeartbeats 1000000 in
/-- slices.Values(s): the slice is boxed; the function value captures the box. -/
theorem val_f111 (w : World) (A : Option Addr) (len cap : Nat) :
    Calls Try.prog 111 #[.slice A len cap] w fun e w' => e = .returned (.func (.func 122) #[] #[.pointer (some ⟨w.heap.size, 0, none⟩)]) ∧ w' = w.alloc (.cells #[.slice A len cap] 23) := by
  go_enter Try.func111, Try.ntmps111
  go_wp2
  go_ret
  exact ⟨rfl, rfl⟩
/-- slices.Values(s) hands back an iterator that gives the numbers in order. -/
theorem val_stops_f111 (F : Fence) (n : Nat) (hF : F.fn 122) (hro : F.round = none) (hn : 1 ≤ n) (Bs : Nat) (A : Option Addr) (len cap : Nat) (fa : Nat → Int) (hreach : len ≤ 1000000000000) (w : World) (hBs : Boxed w Bs 23 (.slice A len cap))
    (hc : 0 < len → ∃ ad, A = some ad ∧ ad.block < w.heap.size ∧ ∀ j, j < len → w.cell? (ad.add j) = some (.int .i64 (fa j))) :
    SeqStopsK F n Try.prog 122 #[.pointer (some ⟨Bs, 0, none⟩)] (fun x : Fin len => #[Value.int .i64 (fa x.1)]) (Keeps (fun i => i = Bs ∨ (0 < len ∧ ∃ ad, A = some ad ∧ i = ad.block))) (fun ys => ys.map Fin.val = List.range len) (fun pre => ∃ k, k ≤ len ∧ pre.map Fin.val = List.range k) len w := fun l J Jx W hW _ _ hY h0 => by
  have hBs' : Boxed W Bs 23 (.slice A len cap) := (hW.block Bs hBs.lt).trans hBs
  by_cases hl : 0 < len
  · obtain ⟨ad, rfl, hlt, hcs⟩ := hc hl
    exact val1_f111 F n hF hro hn l Bs ad len cap fa hreach _ (.inl rfl) (.inr ⟨hl, ad, rfl, rfl⟩) J Jx hY W hBs' (fun j hj => by
      have h1 := hcs j hj
      exact (hW.cell (p := ad.add j) (by show (ad.add j).block < _; rw [add_block]; exact hlt)).trans h1) h0
  · obtain rfl : len = 0 := by omega
    exact (val1_nil_f111 F n hF hro l Bs cap A J W hBs' h0).mono fun e W' ⟨he, hj⟩ => ⟨he, .inl ⟨_, rfl, hj⟩⟩

end Go.Proofs.YtdcdaoancmpbeaaVI
