-- Written by wip/mine.py (a program of this repo) for this claim.
import Derived.Test.YtailgfeffoimaaaProg
import Derived.Below
import Derived.Deep.Draws
import Derived.Deep.AppendLies
import Derived.Maps.AppendAt
import Derived.OwnWalk
import Derived.Laws.BytesArg
import Derived.Laws.MakeOwn
import Derived.Laws.OwnMore
import Derived.Deep.OwnRows
import Derived.Tactics
import Derived.Lib.ConvBytes
import Derived.Laws.Slices
import Derived.WalkKit
import Derived.KernelRfl
import Derived.RowKit3
import Derived.Deep.LoopGhost
import Derived.Deep.QuietTactic
import Derived.BigQuiet
import Derived.WideLaws
import Derived.Deep.DeepCutAuto
import Derived.Deep.CutBlock
import Derived.Deep.RegionHeld3
import Derived.Laws.Rows
import Derived.Lib.AppendStr
import Derived.ArgAppend
import Derived.Laws.IdiomCopy
import Derived.OrdersHeld
import Derived.Laws.BitsLemmas
import Derived.RowKit
import Derived.Test.YtailgfeffoimaaaWWords
import Derived.Test.YtailgfeffoimaaaWLast
import Derived.Test.YtailgfeffoimaaaWTab
import Derived.Test.YtailgfeffoimaaaWFour
import Derived.Test.YtailgfeffoimaaaWQPut
import Derived.Test.YtailgfeffoimaaaWApart
import Derived.Test.YtailgfeffoimaaaWArr
import Derived.Test.YtailgfeffoimaaaWZeros
import Derived.Test.YtailgfeffoimaaaWFoot
import Derived.Test.YtailgfeffoimaaaWKept
import Derived.Test.YtailgfeffoimaaaWShare
import Derived.Test.YtailgfeffoimaaaWN
import Derived.Test.YtailgfeffoimaaaWFootNe
import Derived.Test.YtailgfeffoimaaaWAt
import Derived.Test.YtailgfeffoimaaaWEqStruct
import Derived.Test.YtailgfeffoimaaaWRepsOne
import Derived.Test.YtailgfeffoimaaaWInv
import Derived.Test.YtailgfeffoimaaaWInvWords
import Derived.Test.YtailgfeffoimaaaWGuard
import Derived.Test.YtailgfeffoimaaaWNEv
import Derived.Test.YtailgfeffoimaaaWMore
namespace Go.Proofs.Ytailgfeffoimaaa.MFnExactBinaryStar
open Go.RowKit Go.Proofs.YtailgfeffoimaaaW.PrintWords Go.Proofs.YtailgfeffoimaaaW.PrintLast Go.Proofs.YtailgfeffoimaaaW.PrintMore
attribute [local go_sem] max2_int min2_int max_two min_two max_three min_three max_four min_four   -- for this text's walks alone
set_option linter.unusedVariables false
set_option linter.unusedSimpArgs false



def errW : Option Int → Value
  | none => .nilIface
  | some c => .iface 0 (.int .i64 c)
theorem errW_none : errW none = .nilIface := rfl
theorem errW_some (c : Int) : errW (some c) = .iface 0 (.int .i64 c) := rfl

theorem info3 : (Try.prog.info? 3).map (fun i => (i.zero, i.size, i.bytes)) = some (some (.int .i64 0), 1, 8) := by kernel_rfl
-- the values' own types

end Go.Proofs.Ytailgfeffoimaaa.MFnExactBinaryStar
