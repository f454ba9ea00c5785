/- What some functions of the program compute, walked through once. -/
import Derived.Test.YthjgpkaamgoodaaCK
import Derived.Test.YthjgpkaamgoodaaVc
import Derived.Test.YthjgpkaamgoodaaRows
import Derived.ProofKit
import Derived.OpenShut
import Derived.Stop.Joined
import Derived.SevenTiedAt
namespace Go.Vm.C01
open Go Go.Proofs Go.Proofs.Ythjgpkaamgoodaa Go.ChangeShapes Go.WideShapes Go.ChangeAt Go.RowKit
set_option linter.unusedVariables false
set_option linter.unusedSimpArgs false
set_option maxRecDepth 100000

theorem own : ownKnob Try.prog.godebug = none := by kernel_rfl
theorem laidOut : laidOutB Try.prog = true := by kernel_rfl
end Go.Vm.C01
