/- What some functions of the program compute, walked through once. -/
import Derived.Test.YthjgpkaamgoodaaCBB
namespace Go.Vm.C01
open Go Go.Proofs
set_option linter.unusedVariables false
set_option linter.unusedSimpArgs false
set_option maxRecDepth 100000
set_option maxHeartbeats 8000000

theorem getD_set_self {l : List (BitVec 64)} {k : Nat} {v : BitVec 64} (h : k < l.length) : (l.set k v).getD k 0 = v := by
  simp [List.getD_eq_getElem?_getD, List.getElem?_set, h]
noncomputable def leftS : FSpec := { run := fun ins => match ins with
  | [.agg 4 (.u 64 a), .i n] => chk (0 ≤ n ∧ n ≤ 256) (some (.agg 4 (.u 64 (wB (shlB a n.toNat))), []))
  | _ => none }
noncomputable def rightS : FSpec := { run := fun ins => match ins with
  | [.agg 4 (.u 64 a), .i n, .b s] => chk (a.length = 4 ∧ 0 ≤ n ∧ n ≤ 256) (some (.agg 4 (.u 64 (wB (shrB a n.toNat (s && bitAt a 255)))), []))
  | _ => none }
end Go.Vm.C01
