import Derived.Test.YtlefjgpkabijdaaWInv
import Derived.Test.YtlefjgpkabijdaaWFootNe
namespace Go.Proofs.YtlefjgpkabijdaaW.PrintWords
open Go.RowKit
end Go.Proofs.YtlefjgpkabijdaaW.PrintWords
namespace Go.Proofs.YtlefjgpkabijdaaW.PrintLast
section
variable {ops : Array Oper} {a : Act} {o og : Oper} {g : Nat} {t : Tmp} {u : Bool}
end
end Go.Proofs.YtlefjgpkabijdaaW.PrintLast

