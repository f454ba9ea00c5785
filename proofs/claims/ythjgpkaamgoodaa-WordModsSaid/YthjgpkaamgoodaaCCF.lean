/- What some functions of the program compute, walked through once. -/
import Derived.Test.YthjgpkaamgoodaaCCE
namespace Go.Vm.C01
open Go Go.Proofs
set_option linter.unusedVariables false
set_option linter.unusedSimpArgs false
set_option maxRecDepth 100000
set_option maxHeartbeats 8000000

noncomputable def DivS : FSpec := { run := fun ins => match ins with
  | [.agg 4 (.u 64 a), .agg 4 (.u 64 b)] => chk (a.length = 4 ∧ b.length = 4) (some (.agg 4 (.u 64 (wOf (wv a / wv b))), []))
  | _ => none }
theorem shl_shl (a : List (BitVec 64)) (j k : Nat) : wB (shlB (wB (shlB a j)) k) = wB (shlB a (min (j + k) 256)) := by
  refine wB_congr fun i hi => ?_
  unfold shlB
  by_cases h : k ≤ i
  · rw [bitAt_wB _ _ (by omega)]
    by_cases h2 : j ≤ i - k
    · have h3 : min (j + k) 256 ≤ i := by omega
      have e : i - min (j + k) 256 = i - k - j := by omega
      rw [e]
      simp [h, h2, h3]
    · have h3 : ¬ min (j + k) 256 ≤ i := by omega
      simp only [h2, h3, decide_false, Bool.false_and, Bool.and_false]
  · have h3 : ¬ min (j + k) 256 ≤ i := by omega
    simp only [h, h3, decide_false, Bool.false_and]
theorem shr_shr (a : List (BitVec 64)) (j k : Nat) (z : Bool) : wB (shrB (wB (shrB a j z)) k z) = wB (shrB a (min (j + k) 256) z) := by
  refine wB_congr fun i hi => ?_
  unfold shrB
  by_cases h : i + k < 256
  · rw [if_pos h, bitAt_wB _ _ h]
    by_cases h2 : i + k + j < 256
    · rw [if_pos h2, if_pos (by omega), show i + min (j + k) 256 = i + k + j from by omega]
    · rw [if_neg h2, if_neg (by omega)]
  · rw [if_neg h, if_neg (by omega)]
theorem sar_top (a : List (BitVec 64)) (j : Nat) : bitAt (wB (shrB a j (bitAt a 255))) 255 = bitAt a 255 := by
  rw [bitAt_wB _ _ (by omega)]
  unfold shrB
  by_cases h : 255 + j < 256
  · rw [if_pos h, show 255 + j = 255 from by omega]
  · rw [if_neg h]
theorem shl_mul (a : List (BitVec 64)) (j : Nat) : wOf (wv a * 2 ^ j) = wB (shlB a j) := by
  refine eq_wB rfl fun i hi => ?_
  rw [bitAt_wOf _ _ hi, Nat.testBit_mul_two_pow]
  unfold shlB
  by_cases h : j ≤ i
  · rw [bitAt_test _ _ (by omega)]
  · simp [h]
theorem shr_div (a : List (BitVec 64)) (j : Nat) : wOf (wv a / 2 ^ j) = wB (shrB a j false) := by
  refine eq_wB rfl fun i hi => ?_
  rw [bitAt_wOf _ _ hi, Nat.testBit_div_two_pow]
  unfold shrB
  by_cases h : i + j < 256
  · rw [if_pos h, bitAt_test _ _ h]
  · rw [if_neg h]
    have hp : 2 ^ 256 ≤ 2 ^ (i + j) := Nat.pow_le_pow_right (by decide) (by omega)
    exact Nat.testBit_lt_two_pow (Nat.lt_of_lt_of_le (wv_lt a) hp)
noncomputable def shiftsS : FSpec := { run := fun ins => match ins with
  | [.agg 4 (.u 64 a), .u 8 j, .u 8 k] => chk (a.length = 4) (some (.b true, []))
  | _ => none }
end Go.Vm.C01
