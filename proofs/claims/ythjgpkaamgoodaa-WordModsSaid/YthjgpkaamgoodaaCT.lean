/- What some functions of the program compute, walked through once. -/
import Derived.Test.YthjgpkaamgoodaaCS
import Derived.Test.YthjgpkaamgoodaaCQ0
import Derived.Test.YthjgpkaamgoodaaCP
namespace Go.Vm.C01
open Go Go.Proofs
set_option linter.unusedVariables false
set_option linter.unusedSimpArgs false
set_option maxRecDepth 100000
set_option maxHeartbeats 8000000

noncomputable def bitS : FSpec := { run := fun ins => match ins with
  | [.agg 4 (.u 64 a), .i n] => chk (0 ≤ n ∧ n < 256) (some (.u 64 ((a.getD (n.toNat / 64) 0 >>> (n.toNat % 64)) &&& 1#64), []))
  | _ => none }
noncomputable def rExpS : FSpec := { run := fun ins => match ins with
  | [.agg 4 (.u 64 a), .agg 4 (.u 64 b)] => some (.agg 4 (.u 64 (wOf (wv a ^ wv b))), [])
  | _ => none }
noncomputable def powersS : FSpec := { run := fun ins => match ins with
  | [.agg 4 (.u 64 a), .agg 4 (.u 64 b), .agg 4 (.u 64 c)] => chk (a.length = 4 ∧ b.length = 4 ∧ c.length = 4) (some (.b true, []))
  | _ => none }
theorem cmpI_lt (x y : Nat) : decide (cmpI x y < 0) = decide (x < y) := decide_eq_decide.2 (by unfold cmpI; split <;> (try split) <;> omega)
end Go.Vm.C01
