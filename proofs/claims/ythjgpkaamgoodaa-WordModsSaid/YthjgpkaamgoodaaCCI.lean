/- What some functions of the program compute, walked through once. -/
import Derived.Test.YthjgpkaamgoodaaCCH
namespace Go.Vm.C01
open Go Go.Proofs
set_option linter.unusedVariables false
set_option linter.unusedSimpArgs false
set_option maxRecDepth 100000
set_option maxHeartbeats 8000000

/-! ### quotients and rests, with and without signs -/
theorem zeros_wOf : zeros 64 4 = wOf 0 := by decide
theorem wv_zero4 : wv (zeros 64 4) = 0 := wvk_zeros 4 4
theorem min16 : ∀ n, n ≤ 16 → min 16 n = n := fun n h => by omega
theorem word_dOf {n v : Nat} (hn : n ≤ 16 ∨ v < 65536 ^ 16) (hv : v < 65536 ^ n) : wordF (dOf n v) (min 16 (dOf n v).length) = wOf v := by
  rw [wordF_eq (dOf_ok n v), dOf_len, dOf_val' hv]
noncomputable def rDMS : FSpec := { run := fun ins => match ins with
  | [.agg 4 (.u 64 a), .agg 4 (.u 64 b)] => chk (a.length = 4 ∧ b.length = 4) (some (.tup [.agg 4 (.u 64 (wOf (wv a / wv b))), .agg 4 (.u 64 (wOf (wmod (wv a) (wv b))))], []))
  | _ => none }
end Go.Vm.C01
