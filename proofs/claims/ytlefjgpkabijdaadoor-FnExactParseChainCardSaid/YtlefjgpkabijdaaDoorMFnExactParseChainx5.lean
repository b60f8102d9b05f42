-- Written by wip/mine.py (a program of this repo) for this claim.
import Derived.Test.YtlefjgpkabijdaaDoorMFnExactParseChainx0
namespace Go.Proofs.YtlefjgpkabijdaaDoor.MFnExactParseChain
open Go.RowKit Go.Proofs.YtlefjgpkabijdaaDoorW.PrintWords Go.Proofs.YtlefjgpkabijdaaDoorW.PrintLast Go.Proofs.YtlefjgpkabijdaaDoorW.PrintMore Go.Proofs.YtlefjgpkabijdaaDoorV
attribute [local go_sem] max2_int min2_int max_two min_two max_three min_three max_four min_four   -- for this text's walks alone
set_option linter.unusedVariables false
set_option linter.unusedSimpArgs false

end Go.Proofs.YtlefjgpkabijdaaDoor.MFnExactParseChain
