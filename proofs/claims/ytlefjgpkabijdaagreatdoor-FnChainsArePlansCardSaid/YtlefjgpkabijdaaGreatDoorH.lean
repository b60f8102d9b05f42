/- Library functions of this seat that take a function value: contracts of my own. -/
import Derived.Test.YtlefjgpkabijdaaGreatDoorProg
import Derived.Test.YtlefjgpkabijdaaGreatDoorV
import Derived.Below
import Derived.WalkKit
import Derived.KernelRfl
import Derived.Deep.LoopGhost
import Derived.Deep.Draws
import Derived.OwnWalk
import Derived.Shelf.Abstract
import Derived.Lib.Walk
namespace Go.Proofs.YtlefjgpkabijdaaGreatDoorH
open Go.RowKit Go.Proofs.YtlefjgpkabijdaaGreatDoorW.PrintWords Go.Proofs.YtlefjgpkabijdaaGreatDoorW.PrintLast Go.Proofs.YtlefjgpkabijdaaGreatDoorW.PrintMore Go.Proofs.YtlefjgpkabijdaaGreatDoorV

def firstIx (pred : Nat → Bool) : Nat → Nat → Int
  | 0, _ => -1
  | d + 1, i => if pred i = true then (i : Int) else firstIx pred d (i + 1)

def anyIx (pred : Nat → Bool) : Nat → Nat → Bool
  | 0, _ => false
  | d + 1, i => if pred i = true then true else anyIx pred d (i + 1)
theorem firstIx_any (pred : Nat → Bool) : ∀ (d i : Nat), decide (0 ≤ firstIx pred d i) = anyIx pred d i
  | 0, _ => rfl
  | d + 1, i => by
    unfold firstIx anyIx
    split
    · exact decide_eq_true (by omega)
    · exact firstIx_any pred d (i + 1)

/-- A row of a row of rows. -/
def rdRow (xs : List (List Int)) (i : Int) : List Int := xs.getD i.toNat []
theorem at_row {e : Nat} {w : World} {A : Option Addr} {n : Nat} {xs : List (List Int)} (h : Kd.C (Kd.slice e (Kd.int .i64)) w A n xs) (i : Int) (h0 : 0 ≤ i) (h1 : i < n) : ∃ ad A0 c0, A = some ad ∧ w.cell? (ad.add i.toNat) = some (.slice A0 (rdRow xs i).length c0) ∧ (rdRow xs i).length ≤ c0 ∧ (Kd.int .i64).C w A0 (rdRow xs i).length (rdRow xs i) := by
  obtain ⟨ad, c, hA, _, hK, hc0⟩ := Kd.C_get h ([] : List Int) i h0 h1
  obtain ⟨A0, c0, rfl, l0, g0⟩ := hK
  have hc : ∀ j u, ([Value.slice A0 (rdRow xs i).length c0])[j]? = some u → w.cell? (ad.add (i.toNat * 1 + j)) = some u := hc0
  have hq := hc 0 _ rfl
  rw [Nat.mul_one, Nat.add_zero] at hq
  exact ⟨ad, A0, c0, hA, hq, l0, g0⟩

set_option maxHeartbeats 2000000 in
set_option maxRecDepth 100000 in
/-- slices.IndexFunc: the first index at which the predicate says yes, or -1; what lay, lies. -/
theorem index_f57 (w : World) (A : Option Addr) (n c : Nat) (el : Nat → Value) (pred : Nat → Bool) (g : Nat) (lb : Array Value) (eg : ∀ args w, (callFunc g args).run Tryz.prog w = .ok (.enter g args) w) (hn : n ≤ 9223372036854775807)
    (hA : 0 < n → ∃ ad : Addr, A = some ad ∧ ∀ j, j < n → w.cell? (ad.add j) = some (el j))
    (hp : ∀ j, j < n → ∀ W : World, Below w.heap.size w W → Calls Tryz.prog g (#[el j] ++ lb) W fun e W' => e = .returned (.bool (pred j)) ∧ Below W.heap.size W W') :
    Calls Tryz.prog 57 #[.slice A n c, .func (.func g) #[] lb] w fun e w' => e = .returned (.int .i64 (firstIx pred n 0)) ∧ Below w.heap.size w w' := by
  obtain ⟨r, hr⟩ : ∃ r, r = firstIx pred n 0 := ⟨_, rfl⟩
  rw [← hr]
  have HR := Aside0.mk (show firstIx pred (n - 0) 0 = r from hr.symm)
  have HA := Aside0.mk hA
  have HP := Aside0.mk hp
  clear hr hA hp
  go_enter Tryz.func57, Tryz.ntmps57
  go_wp2
  go_loopg [5, 8] n (fun gg _ s8 wr => ∃ kk : Nat, Aside0 (kk ≤ n ∧ n - kk ≤ gg ∧ firstIx pred (n - kk) kk = r ∧ Below w.heap.size w wr) ∧ s8 = .int .i64 kk)
  case atStart => exact ⟨0, ⟨⟨Nat.zero_le _, by omega, HR.out, Below.refl _ _⟩⟩, rfl⟩
  case round =>
    clear HR
    obtain ⟨kk, HK, rfl⟩ := hrel
    obtain ⟨h1, h2, h3, hb⟩ := HK.out
    clear HK
    by_cases hlt : kk < n
    · have hltz : (kk : Int) < (n : Int) := by omega
      obtain ⟨ad, e1, e2⟩ := HA.out (by omega)
      subst e1
      have hc0 := e2 kk hlt
      have hcell : wr.cell? (ad.add kk) = some (el kk) := (hb.cell (World.block_lt_of_cell? w _ hc0)).trans hc0
      have hcall := HP.out kk hlt
      clear hc0 e2 HP HA
      generalize el kk = y at hcell hcall
      obtain ⟨m, hm⟩ : ∃ m, n - kk = m + 1 := ⟨n - kk - 1, by omega⟩
      rw [hm, firstIx] at h3
      have HC := Aside0.mk hcall
      have H3 := Aside0.mk h3
      have HBB := Aside0.mk hb
      have HM := Aside0.mk hm
      have H2 := Aside0.mk h2
      clear hcall h3 hb hm h2
      cases hq : pred kk with
      | true =>
        have HQ := Aside0.mk hq
        clear hq
        go_wp2_with (go_at_fn g; refine (HC.out _ HBB.out).mono ?_; rw [HQ.out]; rintro e w' ⟨rfl, hb2⟩; have HB2 := Aside0.mk hb2; clear hb2)
        go_ret
        refine ⟨?_, HBB.out.trans (HB2.out.mono HBB.out.size)⟩
        have := H3.out
        rw [HQ.out, if_pos rfl] at this
        rw [← this]
        rfl
      | false =>
        have HQ := Aside0.mk hq
        clear hq
        go_wp2_with (go_at_fn g; refine (HC.out _ HBB.out).mono ?_; rw [HQ.out]; rintro e w' ⟨rfl, hb2⟩; have HB2 := Aside0.mk hb2; clear hb2)
        go_roundg (n - (kk + 1))
        case measure => have := H2.out; omega
        case rel =>
          refine ⟨kk + 1, ⟨⟨by omega, by omega, ?_, HBB.out.trans (HB2.out.mono HBB.out.size)⟩⟩, by go_num⟩
          have h3 := H3.out
          rw [HQ.out, if_neg (by decide)] at h3
          have e : n - (kk + 1) = m := by have := HM.out; omega
          rw [e]
          exact h3
    · have hltz : ¬ (kk : Int) < (n : Int) := by omega
      obtain rfl : kk = n := by omega
      rw [Nat.sub_self, firstIx] at h3
      have H3 := Aside0.mk h3
      have HBB := Aside0.mk hb
      clear h3 hb h2
      go_wp2
      go_ret
      exact ⟨by rw [H3.out]; rfl, HBB.out⟩


set_option maxHeartbeats 2000000 in
set_option maxRecDepth 100000 in
/-- slices.IndexFunc: the first index at which the predicate says yes, or -1; what lay, lies. -/
theorem index_f69 (w : World) (A : Option Addr) (n c : Nat) (el : Nat → Value) (pred : Nat → Bool) (g : Nat) (lb : Array Value) (eg : ∀ args w, (callFunc g args).run Tryz.prog w = .ok (.enter g args) w) (hn : n ≤ 9223372036854775807)
    (hA : 0 < n → ∃ ad : Addr, A = some ad ∧ ∀ j, j < n → w.cell? (ad.add j) = some (el j))
    (hp : ∀ j, j < n → ∀ W : World, Below w.heap.size w W → Calls Tryz.prog g (#[el j] ++ lb) W fun e W' => e = .returned (.bool (pred j)) ∧ Below W.heap.size W W') :
    Calls Tryz.prog 69 #[.slice A n c, .func (.func g) #[] lb] w fun e w' => e = .returned (.int .i64 (firstIx pred n 0)) ∧ Below w.heap.size w w' := by
  obtain ⟨r, hr⟩ : ∃ r, r = firstIx pred n 0 := ⟨_, rfl⟩
  rw [← hr]
  have HR := Aside0.mk (show firstIx pred (n - 0) 0 = r from hr.symm)
  have HA := Aside0.mk hA
  have HP := Aside0.mk hp
  clear hr hA hp
  go_enter Tryz.func69, Tryz.ntmps69
  go_wp2
  go_loopg [5, 8] n (fun gg _ s8 wr => ∃ kk : Nat, Aside0 (kk ≤ n ∧ n - kk ≤ gg ∧ firstIx pred (n - kk) kk = r ∧ Below w.heap.size w wr) ∧ s8 = .int .i64 kk)
  case atStart => exact ⟨0, ⟨⟨Nat.zero_le _, by omega, HR.out, Below.refl _ _⟩⟩, rfl⟩
  case round =>
    clear HR
    obtain ⟨kk, HK, rfl⟩ := hrel
    obtain ⟨h1, h2, h3, hb⟩ := HK.out
    clear HK
    by_cases hlt : kk < n
    · have hltz : (kk : Int) < (n : Int) := by omega
      obtain ⟨ad, e1, e2⟩ := HA.out (by omega)
      subst e1
      have hc0 := e2 kk hlt
      have hcell : wr.cell? (ad.add kk) = some (el kk) := (hb.cell (World.block_lt_of_cell? w _ hc0)).trans hc0
      have hcall := HP.out kk hlt
      clear hc0 e2 HP HA
      generalize el kk = y at hcell hcall
      obtain ⟨m, hm⟩ : ∃ m, n - kk = m + 1 := ⟨n - kk - 1, by omega⟩
      rw [hm, firstIx] at h3
      have HC := Aside0.mk hcall
      have H3 := Aside0.mk h3
      have HBB := Aside0.mk hb
      have HM := Aside0.mk hm
      have H2 := Aside0.mk h2
      clear hcall h3 hb hm h2
      cases hq : pred kk with
      | true =>
        have HQ := Aside0.mk hq
        clear hq
        go_wp2_with (go_at_fn g; refine (HC.out _ HBB.out).mono ?_; rw [HQ.out]; rintro e w' ⟨rfl, hb2⟩; have HB2 := Aside0.mk hb2; clear hb2)
        go_ret
        refine ⟨?_, HBB.out.trans (HB2.out.mono HBB.out.size)⟩
        have := H3.out
        rw [HQ.out, if_pos rfl] at this
        rw [← this]
        rfl
      | false =>
        have HQ := Aside0.mk hq
        clear hq
        go_wp2_with (go_at_fn g; refine (HC.out _ HBB.out).mono ?_; rw [HQ.out]; rintro e w' ⟨rfl, hb2⟩; have HB2 := Aside0.mk hb2; clear hb2)
        go_roundg (n - (kk + 1))
        case measure => have := H2.out; omega
        case rel =>
          refine ⟨kk + 1, ⟨⟨by omega, by omega, ?_, HBB.out.trans (HB2.out.mono HBB.out.size)⟩⟩, by go_num⟩
          have h3 := H3.out
          rw [HQ.out, if_neg (by decide)] at h3
          have e : n - (kk + 1) = m := by have := HM.out; omega
          rw [e]
          exact h3
    · have hltz : ¬ (kk : Int) < (n : Int) := by omega
      obtain rfl : kk = n := by omega
      rw [Nat.sub_self, firstIx] at h3
      have H3 := Aside0.mk h3
      have HBB := Aside0.mk hb
      clear h3 hb h2
      go_wp2
      go_ret
      exact ⟨by rw [H3.out]; rfl, HBB.out⟩


set_option maxHeartbeats 1000000 in
/-- slices.ContainsFunc: does the predicate say yes at some element. -/
theorem contains_f57 (w : World) (A : Option Addr) (n c : Nat) (el : Nat → Value) (pred : Nat → Bool) (g : Nat) (lb : Array Value) (eg : ∀ args w, (callFunc g args).run Tryz.prog w = .ok (.enter g args) w) (hn : n ≤ 9223372036854775807)
    (hA : 0 < n → ∃ ad : Addr, A = some ad ∧ ∀ j, j < n → w.cell? (ad.add j) = some (el j))
    (hp : ∀ j, j < n → ∀ W : World, Below w.heap.size w W → Calls Tryz.prog g (#[el j] ++ lb) W fun e W' => e = .returned (.bool (pred j)) ∧ Below W.heap.size W W') :
    Calls Tryz.prog 40 #[.slice A n c, .func (.func g) #[] lb] w fun e w' => e = .returned (.bool (anyIx pred n 0)) ∧ Below w.heap.size w w' := by
  have HX := fun (W : World) => index_f57 w A n c el pred g lb eg hn hA hp
  have HE := Aside0.mk (firstIx_any pred n 0)
  clear hA hp
  generalize anyIx pred n 0 = r at *
  generalize firstIx pred n 0 = q at *
  go_enter Tryz.func40, Tryz.ntmps40
  go_wp2_with (go_at_call 57; refine (HX w).mono ?_; rintro e w' ⟨rfl, hb2⟩; have HB2 := Aside0.mk hb2; clear hb2)
  go_ret
  exact ⟨by rw [← HE.out]; rfl, HB2.out⟩

set_option maxHeartbeats 1000000 in
/-- slices.ContainsFunc: does the predicate say yes at some element. -/
theorem contains_f69 (w : World) (A : Option Addr) (n c : Nat) (el : Nat → Value) (pred : Nat → Bool) (g : Nat) (lb : Array Value) (eg : ∀ args w, (callFunc g args).run Tryz.prog w = .ok (.enter g args) w) (hn : n ≤ 9223372036854775807)
    (hA : 0 < n → ∃ ad : Addr, A = some ad ∧ ∀ j, j < n → w.cell? (ad.add j) = some (el j))
    (hp : ∀ j, j < n → ∀ W : World, Below w.heap.size w W → Calls Tryz.prog g (#[el j] ++ lb) W fun e W' => e = .returned (.bool (pred j)) ∧ Below W.heap.size W W') :
    Calls Tryz.prog 54 #[.slice A n c, .func (.func g) #[] lb] w fun e w' => e = .returned (.bool (anyIx pred n 0)) ∧ Below w.heap.size w w' := by
  have HX := fun (W : World) => index_f69 w A n c el pred g lb eg hn hA hp
  have HE := Aside0.mk (firstIx_any pred n 0)
  clear hA hp
  generalize anyIx pred n 0 = r at *
  generalize firstIx pred n 0 = q at *
  go_enter Tryz.func54, Tryz.ntmps54
  go_wp2_with (go_at_call 69; refine (HX w).mono ?_; rintro e w' ⟨rfl, hb2⟩; have HB2 := Aside0.mk hb2; clear hb2)
  go_ret
  exact ⟨by rw [← HE.out]; rfl, HB2.out⟩


end Go.Proofs.YtlefjgpkabijdaaGreatDoorH
