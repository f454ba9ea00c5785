/- What some functions of the program compute, walked through once. -/
import Derived.Test.YthjgpkaamgoodaaCN
namespace Go.Vm.C01
open Go Go.Proofs
set_option linter.unusedVariables false
set_option linter.unusedSimpArgs false
set_option maxRecDepth 100000
set_option maxHeartbeats 8000000

/-! ### how many bits -/
def bl (n : Nat) : Nat := if n = 0 then 0 else n.log2 + 1
theorem bl_eq {n k : Nat} (h1 : 2 ^ k ≤ n) (h2 : n < 2 ^ (k + 1)) : bl n = k + 1 := by
  have h0 : n ≠ 0 := by have := Nat.two_pow_pos k; omega
  unfold bl
  rw [if_neg h0, (Nat.log2_eq_iff h0).2 ⟨h1, h2⟩]
theorem bl_ok {n : Nat} (h : n ≠ 0) : ∃ k, bl n = k + 1 ∧ 2 ^ k ≤ n ∧ n < 2 ^ (k + 1) := by
  refine ⟨n.log2, by unfold bl; rw [if_neg h], (Nat.log2_eq_iff h).1 rfl⟩
theorem bl_lt (n : Nat) : n < 2 ^ bl n := by
  by_cases h : n = 0
  · subst h; decide
  · obtain ⟨k, h1, h2, h3⟩ := bl_ok h
    rw [h1]; exact h3
theorem bl_shift {n k : Nat} (h : 2 ^ k ≤ n) : bl n = bl (n / 2 ^ k) + k := by
  have hp := Nat.two_pow_pos k
  have h0 : n / 2 ^ k ≠ 0 := by
    have := Nat.div_pos h hp
    omega
  obtain ⟨j, h1, h2, h3⟩ := bl_ok h0
  rw [h1, show j + 1 + k = (k + j) + 1 from by omega]
  refine bl_eq ?_ ?_
  · rw [Nat.pow_add]
    calc 2 ^ k * 2 ^ j ≤ 2 ^ k * (n / 2 ^ k) := Nat.mul_le_mul_left _ h2
      _ ≤ n := Nat.mul_div_le _ _
  · rw [show k + j + 1 = k + (j + 1) from by omega, Nat.pow_add, Nat.mul_comm]
    exact (Nat.div_lt_iff_lt_mul hp).1 h3
theorem bl_64 (x : BitVec 64) : bl x.toNat ≤ 64 := by
  by_cases h : x.toNat = 0
  · rw [h]; decide
  · obtain ⟨k, h1, h2, h3⟩ := bl_ok h
    rw [h1]
    have hx := x.isLt
    have : 2 ^ k < 2 ^ 64 := Nat.lt_of_le_of_lt h2 hx
    have := (Nat.pow_lt_pow_iff_right (by decide)).1 this
    omega
def len8B : List (BitVec 8) := (List.range 256).map (fun i => BitVec.ofNat 8 (bl i))
theorem len8_ok : ∀ x : Fin 256, (len8B.getD x.1 0).toNat = bl x.1 := by decide +kernel
theorem len8_len : len8B.length = 256 := by decide +kernel
noncomputable def lenS : FSpec := { run := fun ins => match ins with
  | [.u 64 x] => some (.i (bl x.toNat : Int), [])
  | _ => none }
end Go.Vm.C01
