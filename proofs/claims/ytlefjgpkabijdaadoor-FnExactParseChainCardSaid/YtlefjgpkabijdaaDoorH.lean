/- Library functions of this seat that take a function value: contracts of my own. -/
import Derived.Test.YtlefjgpkabijdaaDoorProg
import Derived.Test.YtlefjgpkabijdaaDoorV
import Derived.Below
import Derived.WalkKit
import Derived.KernelRfl
import Derived.Deep.LoopGhost
import Derived.Deep.Draws
import Derived.OwnWalk
import Derived.Shelf.Abstract
import Derived.Lib.Walk
namespace Go.Proofs.YtlefjgpkabijdaaDoorH
open Go.RowKit Go.Proofs.YtlefjgpkabijdaaDoorW.PrintWords Go.Proofs.YtlefjgpkabijdaaDoorW.PrintLast Go.Proofs.YtlefjgpkabijdaaDoorW.PrintMore Go.Proofs.YtlefjgpkabijdaaDoorV

def firstIx (pred : Nat → Bool) : Nat → Nat → Int
  | 0, _ => -1
  | d + 1, i => if pred i = true then (i : Int) else firstIx pred d (i + 1)

def anyIx (pred : Nat → Bool) : Nat → Nat → Bool
  | 0, _ => false
  | d + 1, i => if pred i = true then true else anyIx pred d (i + 1)
theorem firstIx_any (pred : Nat → Bool) : ∀ (d i : Nat), decide (0 ≤ firstIx pred d i) = anyIx pred d i
  | 0, _ => rfl
  | d + 1, i => by
    unfold firstIx anyIx
    split
    · exact decide_eq_true (by omega)
    · exact firstIx_any pred d (i + 1)

/-- A row of a row of rows. -/
def rdRow (xs : List (List Int)) (i : Int) : List Int := xs.getD i.toNat []
theorem at_row {e : Nat} {w : World} {A : Option Addr} {n : Nat} {xs : List (List Int)} (h : Kd.C (Kd.slice e (Kd.int .i64)) w A n xs) (i : Int) (h0 : 0 ≤ i) (h1 : i < n) : ∃ ad A0 c0, A = some ad ∧ w.cell? (ad.add i.toNat) = some (.slice A0 (rdRow xs i).length c0) ∧ (rdRow xs i).length ≤ c0 ∧ (Kd.int .i64).C w A0 (rdRow xs i).length (rdRow xs i) := by
  obtain ⟨ad, c, hA, _, hK, hc0⟩ := Kd.C_get h ([] : List Int) i h0 h1
  obtain ⟨A0, c0, rfl, l0, g0⟩ := hK
  have hc : ∀ j u, ([Value.slice A0 (rdRow xs i).length c0])[j]? = some u → w.cell? (ad.add (i.toNat * 1 + j)) = some u := hc0
  have hq := hc 0 _ rfl
  rw [Nat.mul_one, Nat.add_zero] at hq
  exact ⟨ad, A0, c0, hA, hq, l0, g0⟩




end Go.Proofs.YtlefjgpkabijdaaDoorH
