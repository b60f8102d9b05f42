import Derived.Test.YtdcdaoancmpbeaaWInv
import Derived.Test.YtdcdaoancmpbeaaWFootNe
namespace Go.Proofs.YtdcdaoancmpbeaaW.PrintWords
open Go.RowKit
end Go.Proofs.YtdcdaoancmpbeaaW.PrintWords
namespace Go.Proofs.YtdcdaoancmpbeaaW.PrintLast
section
variable {ops : Array Oper} {a : Act} {o og : Oper} {g : Nat} {t : Tmp} {u : Bool}
end
end Go.Proofs.YtdcdaoancmpbeaaW.PrintLast

