/- What some functions of the program compute, walked through once. -/
import Derived.Test.YthjgpkaamgoodaaCCD
namespace Go.Vm.C01
open Go Go.Proofs
set_option linter.unusedVariables false
set_option linter.unusedSimpArgs false
set_option maxRecDepth 100000
set_option maxHeartbeats 8000000

/-! ### quotient and rest of words -/
def wmod (x y : Nat) : Nat := if y = 0 then 0 else x % y
noncomputable def divS : FSpec := { run := fun ins => match ins with
  | [.agg 4 (.u 64 a), .agg 4 (.u 64 b)] => chk (a.length = 4 ∧ b.length = 4) (some (.tup [.agg 4 (.u 64 (wOf (wv a / wv b))), .agg 4 (.u 64 (wOf (wmod (wv a) (wv b))))], []))
  | _ => none }
theorem lof4 (v : Nat) : lOf 4 v = wOf v := by
  refine wv_inj (lOf_len 4 v) (wOf_len v) ?_
  rw [wv_wOf, B256_eq]
  exact lOf_val 4 v 4 (Nat.le_refl _)
theorem limb_at {a : List (BitVec 64)} (la : a.length = 4) {j : Nat} (hj : j < 4) : (a.getD j 0).toNat = wv a / B64 ^ j % B64 := by
  have h : a = lOf 4 (wv a) := eq_lOf la rfl
  have e : (a.getD j 0) = BitVec.ofNat 64 (wv a / B64 ^ j) := by
    rw [← lOf_at (n := 4) hj, ← h]
  rw [e, BitVec.toNat_ofNat]
  rfl
theorem limb_step {A b x : Nat} (hb : 0 < b) : (A * B64 + x) / b = A / b * B64 + (A % b * B64 + x) / b ∧ (A * B64 + x) % b = (A % b * B64 + x) % b := by
  have e : A * B64 + x = b * (A / b * B64) + (A % b * B64 + x) := by
    have := Nat.div_add_mod A b
    calc A * B64 + x = (b * (A / b) + A % b) * B64 + x := by rw [this]
      _ = b * (A / b * B64) + (A % b * B64 + x) := by rw [Nat.add_mul, Nat.mul_assoc, Nat.add_assoc]
  constructor
  · rw [e, Nat.mul_add_div hb]
  · rw [e, Nat.mul_add_mod]
theorem low_zero {q : List (BitVec 64)} (lq : q.length = 4) {j c : Nat} (hj : j < 4) (h : wv q = c * B64 ^ (j + 1)) : (q.getD j 0).toNat = 0 := by
  rw [limb_at lq hj, h, Nat.pow_succ, ← Nat.mul_assoc, Nat.mul_right_comm, Nat.mul_div_cancel _ (Nat.pow_pos (by decide)), Nat.mul_mod_left]
end Go.Vm.C01
