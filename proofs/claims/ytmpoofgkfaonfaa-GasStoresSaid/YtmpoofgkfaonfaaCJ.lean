/- What some functions of the program compute, walked through once. -/
import Derived.Test.YtmpoofgkfaonfaaCI
namespace Go.Vm.C19
open Go Go.Proofs
set_option linter.unusedVariables false
set_option linter.unusedSimpArgs false
set_option maxRecDepth 100000
set_option maxHeartbeats 8000000

/-! ### forty-two -/
def w42 : List (BitVec 64) := [42#64, 0#64, 0#64, 0#64]
def w4 : List (BitVec 64) := [4#64, 0#64, 0#64, 0#64]
def w2 : List (BitVec 64) := [2#64, 0#64, 0#64, 0#64]
def w10 : List (BitVec 64) := [10#64, 0#64, 0#64, 0#64]
noncomputable def dec42S : FSpec := { run := fun ins => match ins with
  | [.agg 4 (.u 64 a)] => chk (a = w42) (some (.s [52#8, 50#8], []))
  | _ => none }
end Go.Vm.C19
