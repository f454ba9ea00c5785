/- What some functions of the program compute, walked through once. -/
import Derived.Test.YthjgpkaamgoodaaCK
namespace Go.Vm.C01
open Go Go.Proofs
set_option linter.unusedVariables false
set_option linter.unusedSimpArgs false
set_option maxRecDepth 100000
set_option maxHeartbeats 8000000

/-! ### the document's order -/
noncomputable def rCmpS : FSpec := { run := fun ins => match ins with
  | [.agg 4 (.u 64 a), .agg 4 (.u 64 b)] => chk (a.length = 4 ∧ b.length = 4) (some (.i (cmpI (wv a) (wv b)), []))
  | _ => none }
/-! ### the order of signed words -/
theorem flip_top (x : BitVec 64) : (x ^^^ 9223372036854775808#64).toNat = (2 ^ 63 + x.toNat) % 2 ^ 64 := by
  rw [BitVec.toNat_xor]
  apply Nat.eq_of_testBit_eq
  intro i
  have hx := x.isLt
  rw [Nat.testBit_mod_two_pow, Nat.testBit_xor, show (9223372036854775808#64).toNat = 2 ^ 63 by decide, Nat.testBit_two_pow]
  rcases Nat.lt_trichotomy i 63 with h | h | h
  · rw [Nat.testBit_two_pow_add_gt h, decide_eq_true (by omega : i < 64), decide_eq_false (by omega : ¬ 63 = i)]
    simp
  · subst h
    rw [Nat.testBit_two_pow_add_eq]
    simp
  · have h2 : x.toNat.testBit i = false := Nat.testBit_lt_two_pow (Nat.lt_of_lt_of_le hx (Nat.pow_le_pow_right (by omega) (by omega)))
    rw [h2, decide_eq_false (by omega : ¬ i < 64), decide_eq_false (by omega : ¬ 63 = i)]
    rfl
def sg (a : List (BitVec 64)) : Nat := (wv a + 57896044618658097711785492504343953926634992332820282019728792003956564819968) % B256
theorem sg_set (a : List (BitVec 64)) (la : a.length = 4) : wv (a.set 3 (a.getD 3 0 ^^^ 9223372036854775808#64)) = sg a := by
  have h := wvk_set (l := a) (i := 3) (x := a.getD 3 0 ^^^ 9223372036854775808#64) (by omega) (k := 4) (by omega)
  have e : wv a = wvk a 3 + B64 ^ 3 * (a.getD 3 0).toNat := rfl
  have h3 := wvk_lt a 3
  have hx := (a.getD 3 0).isLt
  rw [flip_top] at h
  unfold sg
  have h' : wv (a.set 3 (a.getD 3 0 ^^^ 9223372036854775808#64)) + B64 ^ 3 * (a.getD 3 0).toNat = wv a + B64 ^ 3 * ((2 ^ 63 + (a.getD 3 0).toNat) % 2 ^ 64) := h
  rw [e] at h' ⊢
  generalize wv (a.set 3 (a.getD 3 0 ^^^ 9223372036854775808#64)) = X at h' ⊢
  generalize (a.getD 3 0).toNat = x at hx h' ⊢
  generalize wvk a 3 = y at h3 h' ⊢
  simp only [B64, B256, Nat.reducePow] at *
  omega
noncomputable def SCmpS : FSpec := { run := fun ins => match ins with
  | [.agg 4 (.u 64 a), .agg 4 (.u 64 b)] => chk (a.length = 4 ∧ b.length = 4) (some (.i (cmpI (sg a) (sg b)), []))
  | _ => none }
end Go.Vm.C01
