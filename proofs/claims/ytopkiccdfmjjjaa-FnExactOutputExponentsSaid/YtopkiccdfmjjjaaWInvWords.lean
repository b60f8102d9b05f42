import Derived.Test.YtopkiccdfmjjjaaWInv
import Derived.Test.YtopkiccdfmjjjaaWFootNe
namespace Go.Proofs.YtopkiccdfmjjjaaW.PrintWords
open Go.RowKit
end Go.Proofs.YtopkiccdfmjjjaaW.PrintWords
namespace Go.Proofs.YtopkiccdfmjjjaaW.PrintLast
section
variable {ops : Array Oper} {a : Act} {o og : Oper} {g : Nat} {t : Tmp} {u : Bool}
end
end Go.Proofs.YtopkiccdfmjjjaaW.PrintLast

