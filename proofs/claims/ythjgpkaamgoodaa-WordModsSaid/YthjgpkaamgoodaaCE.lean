/- What some functions of the program compute, walked through once. -/
import Derived.Test.YthjgpkaamgoodaaCD
namespace Go.Vm.C01
open Go Go.Proofs
set_option linter.unusedVariables false
set_option linter.unusedSimpArgs false
set_option maxRecDepth 100000
set_option maxHeartbeats 8000000

noncomputable def rMulS : FSpec := { run := fun ins => match ins with
  | [.agg 4 (.u 64 a), .agg 4 (.u 64 b)] => some (.agg 4 (.u 64 (wOf (wv a * wv b))), [])
  | _ => none }
/-! ### differences -/
theorem notW (a : List (BitVec 64)) : [~~~ a.getD 0 0, ~~~ a.getD 1 0, ~~~ a.getD 2 0, ~~~ a.getD 3 0] = wOf (B256 - 1 - wv a) := by
  refine eq_wOf rfl ?_
  have e : wv a = 0 + B64 ^ 0 * (a.getD 0 0).toNat + B64 ^ 1 * (a.getD 1 0).toNat + B64 ^ 2 * (a.getD 2 0).toNat + B64 ^ 3 * (a.getD 3 0).toNat := rfl
  rw [wv_four, e]
  simp only [BitVec.toNat_not]
  have h0 := (a.getD 0 0).isLt
  have h1 := (a.getD 1 0).isLt
  have h2 := (a.getD 2 0).isLt
  have h3 := (a.getD 3 0).isLt
  generalize (a.getD 0 0).toNat = x at *
  generalize (a.getD 1 0).toNat = y at *
  generalize (a.getD 2 0).toNat = z at *
  generalize (a.getD 3 0).toNat = t at *
  simp only [B64, B256, Nat.reducePow]
  congr 1
  omega
noncomputable def rNotS : FSpec := { run := fun ins => match ins with
  | [.agg 4 (.u 64 a)] => some (.agg 4 (.u 64 (wOf (B256 - 1 - wv a))), [])
  | _ => none }
noncomputable def rNegS : FSpec := { run := fun ins => match ins with
  | [.agg 4 (.u 64 a)] => some (.agg 4 (.u 64 (wOf (B256 - wv a))), [])
  | _ => none }
theorem negW (a : List (BitVec 64)) : wOf (wv (wOf (B256 - 1 - wv a)) + wv [1#64, 0#64, 0#64, 0#64]) = wOf (B256 - wv a) := by
  have h := wv_lt a
  rw [wOf_small, wv_wOf, wv_wOf]
  have e1 : (1#64).toNat % B256 = 1 := by decide
  rw [e1]
  refine wOf_eq ?_
  generalize wv a = x at h
  unfold B256 at *
  omega
noncomputable def rSubS : FSpec := { run := fun ins => match ins with
  | [.agg 4 (.u 64 a), .agg 4 (.u 64 b)] => some (.agg 4 (.u 64 (wOf (wv a + B256 - wv b))), [])
  | _ => none }
theorem rsubW (a b : List (BitVec 64)) : wOf (wv a + wv (wOf (B256 - wv b))) = wOf (wv a + B256 - wv b) := by
  have h := wv_lt b
  rw [wv_wOf]
  refine wOf_eq ?_
  generalize wv a = x
  generalize wv b = y at h
  unfold B256 at *
  omega
end Go.Vm.C01
