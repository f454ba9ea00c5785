/- What some functions of the program compute, walked through once. -/
import Derived.Test.YthjgpkaamgoodaaCR
namespace Go.Vm.C01
open Go Go.Proofs
set_option linter.unusedVariables false
set_option linter.unusedSimpArgs false
set_option maxRecDepth 100000
set_option maxHeartbeats 8000000

theorem wvk_bl (a : List (BitVec 64)) (k : Nat) (h : a.getD k 0 ≠ 0) : bl (wvk a (k + 1)) = bl (a.getD k 0).toNat + k * 64 := by
  have h1 := wvk_lt a k
  have e : wvk a (k + 1) = wvk a k + B64 ^ k * (a.getD k 0).toNat := rfl
  have hB : B64 ^ k = 2 ^ (k * 64) := by rw [show B64 = 2 ^ 64 from rfl, ← Nat.pow_mul, Nat.mul_comm]
  have hx : 0 < (a.getD k 0).toNat := by
    refine Nat.pos_of_ne_zero fun c => h ?_
    exact BitVec.eq_of_toNat_eq c
  rw [hB] at h1 e
  have hp := Nat.two_pow_pos (k * 64)
  have hd : wvk a (k + 1) / 2 ^ (k * 64) = (a.getD k 0).toNat := by
    rw [e, Nat.add_mul_div_left _ _ hp, Nat.div_eq_of_lt h1, Nat.zero_add]
  rw [← hd]
  refine bl_shift ?_
  rw [e]
  exact Nat.le_trans (Nat.le_mul_of_pos_right _ hx) (Nat.le_add_left _ _)
noncomputable def bitLenS : FSpec := { run := fun ins => match ins with
  | [.agg 4 (.u 64 a)] => some (.i (bl (wv a) : Int), [])
  | _ => none }
/-! ### powers -/
theorem wv_bit (b : List (BitVec 64)) (k : Nat) (hk : k < 256) : wv b / 2 ^ k % 2 = ((b.getD (k / 64) 0 >>> (k % 64)) &&& 1#64).toNat := by
  have e : ∀ m, wvk b m / 2 ^ k % 2 = if k / 64 < m then ((b.getD (k / 64) 0 >>> (k % 64)) &&& 1#64).toNat else 0 := by
    intro m
    induction m with
    | zero => rw [if_neg (by omega)]; show 0 / _ % 2 = 0; simp
    | succ m ih =>
      have h1 := wvk_lt b m
      have hs : wvk b (m + 1) = wvk b m + B64 ^ m * (b.getD m 0).toNat := rfl
      have hB : B64 ^ m = 2 ^ (64 * m) := by rw [show B64 = 2 ^ 64 from rfl, ← Nat.pow_mul]
      rw [hB] at h1 hs
      have hx := (b.getD m 0).isLt
      by_cases hlt : k < 64 * m
      · rw [if_pos (by omega)]
        rw [if_pos (by omega)] at ih
        rw [← ih, hs]
        obtain ⟨d, hd⟩ : ∃ d, 64 * m = k + 1 + d := ⟨64 * m - k - 1, by omega⟩
        rw [hd, Nat.pow_add, Nat.pow_succ, Nat.mul_assoc, Nat.mul_assoc, Nat.add_mul_div_left _ _ (Nat.two_pow_pos k), Nat.add_mod, Nat.mul_mod_right, Nat.add_zero, Nat.mod_mod]
      · have hle : 64 * m ≤ k := by omega
        obtain ⟨d, hd⟩ : ∃ d, k = 64 * m + d := ⟨k - 64 * m, by omega⟩
        have hdiv : wvk b (m + 1) / 2 ^ k = (b.getD m 0).toNat / 2 ^ d := by
          rw [hd, Nat.pow_add, ← Nat.div_div_eq_div_mul, hs, Nat.add_mul_div_left _ _ (Nat.two_pow_pos _), Nat.div_eq_of_lt h1, Nat.zero_add]
        rw [hdiv]
        by_cases hd64 : d < 64
        · have e1 : k / 64 = m := by omega
          have e2 : k % 64 = d := by omega
          rw [if_pos (by omega), e1, e2, BitVec.toNat_and, BitVec.toNat_ushiftRight, Nat.shiftRight_eq_div_pow, show (1#64).toNat = 1 from rfl, Nat.and_one_is_mod]
        · rw [if_neg (by omega), Nat.div_eq_of_lt]
          exact Nat.lt_of_lt_of_le hx (Nat.pow_le_pow_right (by decide) (by omega))
  have := e 4
  rw [if_pos (by omega)] at this
  exact this
/-- a power, from the k-th bit on -/
theorem pow_step (a b k : Nat) : a ^ (b / 2 ^ k) = a ^ (b / 2 ^ (k + 1)) * a ^ (b / 2 ^ (k + 1)) * a ^ (b / 2 ^ k % 2) := by
  rw [← Nat.pow_add, ← Nat.pow_add]
  congr 1
  rw [Nat.pow_succ, ← Nat.div_div_eq_div_mul]
  omega
theorem wOf_mul (x y : Nat) : wOf (wv (wOf x) * wv (wOf y)) = wOf (x * y) := by
  rw [wv_wOf, wv_wOf]
  exact wOf_eq (by rw [← Nat.mul_mod])
theorem wOf_mulr (x : Nat) (a : List (BitVec 64)) : wOf (wv (wOf x) * wv a) = wOf (x * wv a) := by
  rw [wv_wOf]
  exact wOf_eq (by rw [Nat.mod_mul_mod])
theorem one_wOf : [1#64, 0#64, 0#64, 0#64] = wOf 1 := by decide
noncomputable def ExpS : FSpec := { run := fun ins => match ins with
  | [.agg 4 (.u 64 a), .agg 4 (.u 64 b)] => some (.agg 4 (.u 64 (wOf (wv a ^ wv b))), [])
  | _ => none }
theorem bl_256 (b : List (BitVec 64)) : bl (wv b) ≤ 256 := by
  by_cases h : wv b = 0
  · rw [h]; decide
  · obtain ⟨k, h1, h2, h3⟩ := bl_ok h
    rw [h1]
    have hx := wv_lt b
    have : 2 ^ k < 2 ^ 256 := Nat.lt_of_le_of_lt h2 hx
    have := (Nat.pow_lt_pow_iff_right (by decide)).1 this
    omega
end Go.Vm.C01
