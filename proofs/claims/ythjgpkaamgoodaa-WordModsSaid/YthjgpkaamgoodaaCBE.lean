/- What some functions of the program compute, walked through once. -/
import Derived.Test.YthjgpkaamgoodaaCBD
namespace Go.Vm.C01
open Go Go.Proofs
set_option linter.unusedVariables false
set_option linter.unusedSimpArgs false
set_option maxRecDepth 100000
set_option maxHeartbeats 8000000

theorem sx_eq (a : List (BitVec 64)) (n : Nat) (hn : n < 31) : wB (shrB (wB (shlB a (8 * (31 - n)))) (8 * (31 - n)) (bitAt (wB (shlB a (8 * (31 - n)))) 255)) = wB (sxB a n) := by
  refine wB_congr fun i hi => ?_
  unfold shrB sxB
  by_cases h : i + 8 * (31 - n) < 256
  · have h1 : i ≤ 8 * n + 7 := by omega
    have h2 : 8 * (31 - n) ≤ i + 8 * (31 - n) := by omega
    rw [if_pos h, if_pos h1, bitAt_wB _ _ h]
    unfold shlB
    rw [Nat.add_sub_cancel]
    simp [h2]
  · rw [if_neg h, bitAt_wB _ _ (by omega)]
    have h2 : 8 * (31 - n) ≤ 255 := by omega
    have e : 255 - 8 * (31 - n) = 8 * n + 7 := by omega
    unfold shlB
    rw [e]
    by_cases h1 : i ≤ 8 * n + 7
    · rw [if_pos h1, show i = 8 * n + 7 from by omega]
      simp [h2]
    · rw [if_neg h1]
      simp [h2]
def sxF (a : List (BitVec 64)) (n : Nat) : List (BitVec 64) := if 31 ≤ n then a else wB (sxB a n)
noncomputable def SxS : FSpec := { run := fun ins => match ins with
  | [.agg 4 (.u 64 k), .agg 4 (.u 64 a)] => chk (a.length = 4) (some (.agg 4 (.u 64 (sxF a (wv k))), []))
  | _ => none }
theorem byte_limb (a : List (BitVec 64)) (n : Nat) (hn : n < 32) : ((a.getD (n / 8) 0 >>> (8 * (n % 8))) &&& 255#64).toNat = wv a / 256 ^ n % 256 := by
  have e256 : 256 ^ n = 2 ^ (8 * n) := by rw [show 256 = 2 ^ 8 from rfl, ← Nat.pow_mul]
  rw [BitVec.toNat_and, BitVec.toNat_ushiftRight, Nat.shiftRight_eq_div_pow, e256, show (255#64).toNat = 2 ^ 8 - 1 from rfl, Nat.and_two_pow_sub_one_eq_mod, show 256 = 2 ^ 8 from rfl]
  refine Nat.eq_of_testBit_eq fun j => ?_
  rw [Nat.testBit_mod_two_pow, Nat.testBit_mod_two_pow, Nat.testBit_div_two_pow, Nat.testBit_div_two_pow]
  by_cases hj : j < 8
  · have e1 := bitAt_test a (j + 8 * n) (by omega)
    have e2 := bitAt_at a (n / 8) (j + 8 * (n % 8)) (by omega)
    rw [show 64 * (n / 8) + (j + 8 * (n % 8)) = j + 8 * n from by omega] at e2
    rw [BitVec.testBit_toNat, ← e1, ← e2]
  · simp [hj]
def byF (a : List (BitVec 64)) (n : Nat) : List (BitVec 64) := if 32 ≤ n then zeros 64 4 else wOf (wv a / 256 ^ (31 - n) % 256)
noncomputable def ByteS : FSpec := { run := fun ins => match ins with
  | [.agg 4 (.u 64 k), .agg 4 (.u 64 a)] => chk (a.length = 4) (some (.agg 4 (.u 64 (byF a (wv k))), []))
  | _ => none }
noncomputable def NotS : FSpec := { run := fun ins => match ins with
  | [.agg 4 (.u 64 a)] => chk (a.length = 4) (some (.agg 4 (.u 64 (wOf (B256 - 1 - wv a))), []))
  | _ => none }
noncomputable def LenS : FSpec := { run := fun ins => match ins with
  | [.agg 4 (.u 64 a)] => some (.i (bl (wv a) : Int), [])
  | _ => none }
end Go.Vm.C01
