/- What some functions of the program compute, walked through once. -/
import Derived.Test.YthjgpkaamgoodaaCCK
namespace Go.Vm.C01
open Go Go.Proofs
set_option linter.unusedVariables false
set_option linter.unusedSimpArgs false
set_option maxRecDepth 100000
set_option maxHeartbeats 8000000

noncomputable def dividesS : FSpec := { run := fun ins => match ins with
  | [.agg 4 (.u 64 a), .agg 4 (.u 64 b)] => chk (a.length = 4 ∧ b.length = 4) (some (.b true, []))
  | _ => none }
end Go.Vm.C01
