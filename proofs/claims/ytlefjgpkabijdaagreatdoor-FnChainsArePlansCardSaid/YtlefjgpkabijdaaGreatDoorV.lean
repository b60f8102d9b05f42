/- Words of my own beside the print's, for this seat. -/
import Derived.Test.YtlefjgpkabijdaaGreatDoorWWords
import Derived.Test.YtlefjgpkabijdaaGreatDoorWLast
import Derived.Test.YtlefjgpkabijdaaGreatDoorWMore
namespace Go.Proofs.YtlefjgpkabijdaaGreatDoorV
open Go.RowKit Go.Proofs.YtlefjgpkabijdaaGreatDoorW.PrintWords Go.Proofs.YtlefjgpkabijdaaGreatDoorW.PrintLast Go.Proofs.YtlefjgpkabijdaaGreatDoorW.PrintMore
variable {P : Program}

/-- 'xs[1:]' of a slice that came in, the rest written as the walk writes it. -/
theorem print_tail_of {α : Type} (enc : α → Value) (d : α) (t e : TypeId) (kl : IntKind) {i : TypeInfo} (ht : P.underlying t = some (.slice e)) (hi : P.info? e = some i) (hsz : i.size = 1) (A : Option Addr) (c : Nat) (xs : List α) (hm : (1 : Int) ≤ xs.length) (hc : xs.length ≤ c) :
    ∃ A' : Option Addr, (∀ W : World, (Instr.slice t (.slice A xs.length c) (some (.int kl 1)) none none).run P W = .ok (.slice A' xs.tail.length (c - 1)) W) ∧
      (∀ w : World, ReadsOf enc d w A xs.length xs → ReadsOf enc d w A' xs.tail.length xs.tail) ∧ xs.tail.length ≤ c - 1 := by
  have h := print_drop_of (P := P) enc d t e kl ht hi hsz A c xs 1 (by omega) hm hc
  rw [show (1 : Int).toNat = 1 from rfl, List.drop_one] at h
  exact h

end Go.Proofs.YtlefjgpkabijdaaGreatDoorV
