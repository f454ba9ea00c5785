/- What some functions of the program compute, walked through once. -/
import Derived.Test.YthjgpkaamgoodaaCBE
import Derived.Test.YthjgpkaamgoodaaCP
namespace Go.Vm.C01
open Go Go.Proofs
set_option linter.unusedVariables false
set_option linter.unusedSimpArgs false
set_option maxRecDepth 100000
set_option maxHeartbeats 8000000

theorem sx_sx (a : List (BitVec 64)) (n : Nat) : sxF (sxF a n) n = sxF a n := by
  unfold sxF
  by_cases h : 31 ≤ n
  · rw [if_pos h, if_pos h]
  · rw [if_neg h, if_neg h]
    refine wB_congr fun i hi => ?_
    unfold sxB
    by_cases h1 : i ≤ 8 * n + 7
    · rw [if_pos h1, bitAt_wB _ _ hi, if_pos h1]
    · rw [if_neg h1, bitAt_wB _ _ (by omega), if_pos (by omega)]
theorem sxF_len {a : List (BitVec 64)} {n : Nat} (h : a.length = 4) : (sxF a n).length = 4 := by
  unfold sxF
  split
  · exact h
  · exact wB_len _
theorem byF_len {a : List (BitVec 64)} {n : Nat} : (byF a n).length = 4 := by
  unfold byF
  split
  · rfl
  · exact wOf_len _
theorem byte_step (a : List (BitVec 64)) (i : Nat) (hi : i < 32) : wOf (wv (wOf (wv (wOf (wv a / 256 ^ (32 - i))) * wv (wOf 256))) + wv (byF a i)) = wOf (wv a / 256 ^ (32 - (i + 1))) := by
  have hf : byF a i = wOf (wv a / 256 ^ (31 - i) % 256) := by unfold byF; exact if_neg (by omega)
  rw [hf, show 32 - (i + 1) = 31 - i from by omega, show 32 - i = (31 - i) + 1 from by omega, Nat.pow_succ, ← Nat.div_div_eq_div_mul]
  generalize wv a / 256 ^ (31 - i) = x
  rw [wv_wOf, wv_wOf, wv_wOf, wv_wOf]
  refine wOf_eq ?_
  unfold B256
  omega
theorem not_not (a : List (BitVec 64)) (h : a.length = 4) : wOf (B256 - 1 - wv (wOf (B256 - 1 - wv a))) = a := by
  have h1 := wv_lt a
  rw [wv_wOf, Nat.mod_eq_of_lt (by omega), show B256 - 1 - (B256 - 1 - wv a) = wv a from by omega, wOf_wv a h]
theorem add_not (a : List (BitVec 64)) : wOf (wv a + wv (wOf (B256 - 1 - wv a))) = wOf (B256 - 1 - wv (zeros 64 4)) := by
  have h1 := wv_lt a
  have hz : wv (zeros 64 4) = 0 := wvk_zeros 4 4
  rw [wv_wOf, Nat.mod_eq_of_lt (by omega), hz]
  congr 1
  omega
noncomputable def signsS : FSpec := { run := fun ins => match ins with
  | [.agg 4 (.u 64 k), .agg 4 (.u 64 a)] => chk (k.length = 4 ∧ a.length = 4) (some (.b true, []))
  | _ => none }
end Go.Vm.C01
