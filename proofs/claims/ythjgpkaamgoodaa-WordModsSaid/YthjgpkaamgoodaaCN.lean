/- What some functions of the program compute, walked through once. -/
import Derived.Test.YthjgpkaamgoodaaCM
namespace Go.Vm.C01
open Go Go.Proofs
set_option linter.unusedVariables false
set_option linter.unusedSimpArgs false
set_option maxRecDepth 100000
set_option maxHeartbeats 8000000

def H255 : Nat := 57896044618658097711785492504343953926634992332820282019728792003956564819968
theorem top_bit (a : List (BitVec 64)) : a.getD 3 0 >>> 63 = 1#64 ↔ H255 ≤ wv a := by
  have e : wv a = wvk a 3 + B64 ^ 3 * (a.getD 3 0).toNat := rfl
  have h3 := wvk_lt a 3
  have hx := (a.getD 3 0).isLt
  have hs : (a.getD 3 0 >>> 63).toNat = (a.getD 3 0).toNat / 2 ^ 63 := by rw [BitVec.toNat_ushiftRight, Nat.shiftRight_eq_div_pow]
  rw [e]
  constructor
  · intro h
    rw [h] at hs
    have h1 : (1#64).toNat = 1 := rfl
    rw [h1] at hs
    generalize (a.getD 3 0).toNat = x at *
    generalize wvk a 3 = y at *
    simp only [B64, H255, Nat.reducePow] at *
    omega
  · intro h
    refine BitVec.eq_of_toNat_eq ?_
    rw [hs]
    show _ = 1
    generalize (a.getD 3 0).toNat = x at *
    generalize wvk a 3 = y at *
    simp only [B64, H255, Nat.reducePow] at *
    omega
noncomputable def signedS : FSpec := { run := fun ins => match ins with
  | [.agg 4 (.u 64 a)] => chk (a.length = 4) (some (.tup [.b (decide (H255 ≤ wv a)), .agg 4 (.u 64 (if H255 ≤ wv a then wOf (B256 - wv a) else a))], []))
  | _ => none }
noncomputable def rSCmpS : FSpec := { run := fun ins => match ins with
  | [.agg 4 (.u 64 a), .agg 4 (.u 64 b)] => chk (a.length = 4 ∧ b.length = 4) (some (.i (cmpI (sg a) (sg b)), []))
  | _ => none }
end Go.Vm.C01
