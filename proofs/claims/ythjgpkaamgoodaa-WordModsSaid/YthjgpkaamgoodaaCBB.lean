/- What some functions of the program compute, walked through once. -/
import Derived.Test.YthjgpkaamgoodaaCBA
import Derived.Test.YthjgpkaamgoodaaVd
namespace Go.Vm.C01
open Go Go.Proofs
set_option linter.unusedVariables false
set_option linter.unusedSimpArgs false
set_option maxRecDepth 100000
set_option maxHeartbeats 8000000

/-! ### shifts: the program -/
def atF (a : List (BitVec 64)) (x : BitVec 64) (k : Nat) : BitVec 64 := if 4 ≤ k then x else a.getD k 0
theorem atF_get {a : List (BitVec 64)} {x : BitVec 64} {s : Bool} (hx : ∀ j, j < 64 → x.getLsbD j = s) (k j : Nat) (hj : j < 64) : (atF a x k).getLsbD j = if 64 * k + j < 256 then bitAt a (64 * k + j) else s := by
  unfold atF
  by_cases h : 4 ≤ k
  · rw [if_pos h, if_neg (by omega)]; exact hx j hj
  · rw [if_neg h, if_pos (by omega), bitAt_at _ _ _ hj]
theorem shr_step {a : List (BitVec 64)} {x : BitVec 64} {s : Bool} (hx : ∀ j, j < 64 → x.getLsbD j = s) (n i t : Nat) (ht : t < 64) :
    (atF a x (i + n / 64) >>> (n % 64) ||| atF a x (i + n / 64 + 1) <<< (64 - n % 64)).getLsbD t = shrB a n s (64 * i + t) := by
  rw [BitVec.getLsbD_or, BitVec.getLsbD_ushiftRight, BitVec.getLsbD_shiftLeft]
  unfold shrB
  by_cases h : n % 64 + t < 64
  · have h1 : t < 64 - n % 64 := by omega
    rw [atF_get hx _ _ h]
    have e : 64 * (i + n / 64) + (n % 64 + t) = 64 * i + t + n := by omega
    rw [e]
    simp [h1]
  · have h1 : ¬ t < 64 - n % 64 := by omega
    have h2 : t - (64 - n % 64) < 64 := by omega
    rw [BitVec.getLsbD_of_ge _ _ (by omega), atF_get hx _ _ h2]
    have e : 64 * (i + n / 64 + 1) + (t - (64 - n % 64)) = 64 * i + t + n := by omega
    rw [e]
    simp [h1, ht]
theorem shl_step0 (a : List (BitVec 64)) (n t : Nat) (ht : t < 64) : (a.getD 0 0 <<< (n % 64)).getLsbD t = shlB a n (64 * (n / 64) + t) := by
  rw [BitVec.getLsbD_shiftLeft]
  unfold shlB
  by_cases h : t < n % 64
  · have h1 : ¬ n ≤ 64 * (n / 64) + t := by omega
    simp [h, h1]
  · have h1 : n ≤ 64 * (n / 64) + t := by omega
    have e : 64 * (n / 64) + t - n = 64 * 0 + (t - n % 64) := by omega
    rw [e, bitAt_at _ _ _ (by omega)]
    simp [h, h1, ht]
theorem shl_step {a : List (BitVec 64)} (n i t : Nat) (ht : t < 64) (hi : n / 64 < i) : (a.getD (i - n / 64) 0 <<< (n % 64) ||| a.getD (i - n / 64 - 1) 0 >>> (64 - n % 64)).getLsbD t = shlB a n (64 * i + t) := by
  rw [BitVec.getLsbD_or, BitVec.getLsbD_shiftLeft, BitVec.getLsbD_ushiftRight]
  unfold shlB
  have h0 : n ≤ 64 * i + t := by omega
  by_cases h : t < n % 64
  · have e : 64 * i + t - n = 64 * (i - n / 64 - 1) + (64 - n % 64 + t) := by omega
    rw [e, bitAt_at _ _ _ (by omega)]
    simp [h, h0]
  · have e : 64 * i + t - n = 64 * (i - n / 64) + (t - n % 64) := by omega
    rw [e, bitAt_at _ _ _ (by omega), BitVec.getLsbD_of_ge (a.getD (i - n / 64 - 1) 0) _ (by omega)]
    simp [h, h0, ht]
noncomputable def negativeS : FSpec := { run := fun ins => match ins with
  | [.agg 4 (.u 64 a)] => some (.b (bitAt a 255), [])
  | _ => none }
noncomputable def atS : FSpec := { run := fun ins => match ins with
  | [.i n, .ref 0 0 (.u 64 x), .ref 0 0 (.agg 4 (.u 64 a))] => chk (0 ≤ n ∧ n < 1000 ∧ a.length = 4) (some (.u 64 (atF a x n.toNat), [.u 64 x, .agg 4 (.u 64 a)]))
  | _ => none }
end Go.Vm.C01
