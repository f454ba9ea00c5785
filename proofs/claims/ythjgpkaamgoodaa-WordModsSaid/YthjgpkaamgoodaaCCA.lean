/- What some functions of the program compute, walked through once. -/
import Derived.Test.YthjgpkaamgoodaaCBI
namespace Go.Vm.C01
open Go Go.Proofs
set_option linter.unusedVariables false
set_option linter.unusedSimpArgs false
set_option maxRecDepth 100000
set_option maxHeartbeats 8000000

/-! ### a digit of a quotient -/
def P32 : Nat := 4294967296
structure KI (u v1 v0 d q r : Nat) : Prop where
  sum : q * v1 + r = u
  le : (u * P32 + d) / (v1 * P32 + v0) ≤ q
  qb : q ≤ P32 + 1
  rb : r < P32
theorem k_mul (q v1 v0 : Nat) : q * (v1 * P32 + v0) = q * v1 * P32 + q * v0 := by rw [Nat.mul_add, ← Nat.mul_assoc]
theorem k_init {u v1 v0 d : Nat} (h1 : 2147483648 ≤ v1) (h2 : v1 < P32) (h3 : v0 < P32) (h4 : d < P32) (h5 : u < v1 * P32 + v0) : KI u v1 v0 d (u / v1) (u % v1) := by
  have hv : 0 < v1 := by omega
  have hv2 : 0 < v1 * P32 + v0 := by omega
  have hs := Nat.div_add_mod' u v1
  refine ⟨hs, ?_, ?_, ?_⟩
  · rw [Nat.le_div_iff_mul_le hv]
    have := Nat.div_mul_le_self (u * P32 + d) (v1 * P32 + v0)
    rw [k_mul] at this
    generalize (u * P32 + d) / (v1 * P32 + v0) = Q at *
    have h6 : Q * v1 * P32 ≤ u * P32 + d := by omega
    generalize Q * v1 = A at *
    unfold P32 at *
    omega
  · have : u / v1 < P32 + 2 := by
      rw [Nat.div_lt_iff_lt_mul hv]
      unfold P32 at *
      omega
    omega
  · have := Nat.mod_lt u hv
    omega
theorem k_next {u v1 v0 d q r : Nat} (h2 : v1 < P32) (h4 : d < P32) (h5 : u < v1 * P32 + v0) (hk : KI u v1 v0 d q r) (ht : P32 ≤ q ∨ P32 * r + d < q * v0) :
    1 ≤ q ∧ (u * P32 + d) / (v1 * P32 + v0) ≤ q - 1 ∧ (q - 1) * v1 + (r + v1) = u ∧ q - 1 ≤ P32 := by
  obtain ⟨hs, hl, hq, hr⟩ := hk
  have hv : 0 < v1 * P32 + v0 := by omega
  have hlt : (u * P32 + d) / (v1 * P32 + v0) < q := by
    rcases ht with h | h
    · refine Nat.lt_of_lt_of_le ?_ h
      rw [Nat.div_lt_iff_lt_mul hv, Nat.mul_comm P32]
      have : (u + 1) * P32 ≤ (v1 * P32 + v0) * P32 := Nat.mul_le_mul_right _ h5
      rw [Nat.add_mul] at this
      omega
    · rw [Nat.div_lt_iff_lt_mul hv, k_mul, ← hs]
      generalize q * v1 = A at *
      generalize q * v0 = B at *
      unfold P32 at *
      omega
  have h1 : 1 ≤ q := Nat.lt_of_le_of_lt (Nat.zero_le _) hlt
  refine ⟨h1, Nat.le_sub_one_of_lt hlt, ?_, by omega⟩
  have : v1 ≤ q * v1 := Nat.le_mul_of_pos_left _ h1
  rw [Nat.sub_mul, Nat.one_mul]
  omega
theorem k_done1 {u v1 v0 d q r : Nat} (hv : 0 < v1) (hk : KI u v1 v0 d q r) (h : q * v0 ≤ P32 * r + d) : (u * P32 + d) / (v1 * P32 + v0) = q := by
  obtain ⟨hs, hl, hq, hr⟩ := hk
  have hv : 0 < v1 * P32 + v0 := by unfold P32; omega
  refine Nat.le_antisymm hl ?_
  rw [Nat.le_div_iff_mul_le hv, k_mul, ← hs]
  generalize q * v1 = A at *
  generalize q * v0 = B at *
  unfold P32 at *
  omega
theorem k_done2 {u v1 v0 d q r : Nat} (hv : 0 < v1) (h3 : v0 < P32) (hs : q * v1 + r = u) (hl : (u * P32 + d) / (v1 * P32 + v0) ≤ q) (hq : q ≤ P32) (hr : P32 ≤ r) : (u * P32 + d) / (v1 * P32 + v0) = q := by
  have hv : 0 < v1 * P32 + v0 := by unfold P32; omega
  refine Nat.le_antisymm hl ?_
  rw [Nat.le_div_iff_mul_le hv, k_mul, ← hs]
  have h : q * v0 ≤ P32 * v0 := Nat.mul_le_mul_right _ hq
  generalize q * v1 = A at *
  generalize q * v0 = B at *
  unfold P32 at *
  omega
/-- the digits together -/
theorem k_two {V N u d1 d0 : Nat} (hV : 0 < V) (hN : N = u * (P32 * P32) + d1 * P32 + d0) :
    N / V = (u * P32 + d1) / V * P32 + ((u * P32 + d1) % V * P32 + d0) / V ∧ N % V = ((u * P32 + d1) % V * P32 + d0) % V := by
  have e : N = V * ((u * P32 + d1) / V * P32) + ((u * P32 + d1) % V * P32 + d0) := by
    have := Nat.div_add_mod (u * P32 + d1) V
    rw [hN]
    calc u * (P32 * P32) + d1 * P32 + d0 = (u * P32 + d1) * P32 + d0 := by rw [Nat.add_mul, Nat.mul_assoc]
      _ = (V * ((u * P32 + d1) / V) + (u * P32 + d1) % V) * P32 + d0 := by rw [this]
      _ = V * ((u * P32 + d1) / V * P32) + ((u * P32 + d1) % V * P32 + d0) := by rw [Nat.add_mul, ← Nat.mul_assoc, Nat.add_assoc]
  constructor
  · rw [e, Nat.mul_add_div hV]
  · rw [e, Nat.mul_add_mod]
/-- made greater, so that the divisor's highest bit is set -/
theorem norm_ok {h x y : Nat} (hy : h < y) (hy64 : y < 18446744073709551616) (hx : x < 18446744073709551616) : ∃ s, s = 64 - bl y ∧ bl y ≤ 64 ∧ s ≤ 63 ∧ 9223372036854775808 ≤ y * 2 ^ s ∧ y * 2 ^ s < 18446744073709551616 ∧ h * 2 ^ s + x / 2 ^ (64 - s) < y * 2 ^ s ∧
    (h * 2 ^ s + x / 2 ^ (64 - s)) * 18446744073709551616 + x * 2 ^ s % 18446744073709551616 = (h * 18446744073709551616 + x) * 2 ^ s := by
  obtain ⟨k, hk, h1, h2⟩ := bl_ok (n := y) (by omega)
  have hk64 : k < 64 := by
    have : 2 ^ k < 2 ^ 64 := by simp only [Nat.reducePow]; omega
    exact (Nat.pow_lt_pow_iff_right (by decide)).1 this
  refine ⟨63 - k, by omega, by omega, by omega, ?_, ?_, ?_, ?_⟩
  · calc 9223372036854775808 = 2 ^ k * 2 ^ (63 - k) := by rw [← Nat.pow_add, show k + (63 - k) = 63 from by omega]
      _ ≤ y * 2 ^ (63 - k) := Nat.mul_le_mul_right _ h1
  · calc y * 2 ^ (63 - k) < 2 ^ (k + 1) * 2 ^ (63 - k) := Nat.mul_lt_mul_of_pos_right h2 (Nat.two_pow_pos _)
      _ = 18446744073709551616 := by rw [← Nat.pow_add, show k + 1 + (63 - k) = 64 from by omega]
  · have hx2 : x / 2 ^ (64 - (63 - k)) < 2 ^ (63 - k) := by
      rw [Nat.div_lt_iff_lt_mul (Nat.two_pow_pos _), ← Nat.pow_add, show 63 - k + (64 - (63 - k)) = 64 from by omega]
      exact hx
    have : (h + 1) * 2 ^ (63 - k) ≤ y * 2 ^ (63 - k) := Nat.mul_le_mul_right _ hy
    rw [Nat.add_mul] at this
    omega
  · have e : 18446744073709551616 = 2 ^ (64 - (63 - k)) * 2 ^ (63 - k) := by rw [← Nat.pow_add, show 64 - (63 - k) + (63 - k) = 64 from by omega]
    have e2 : x * 2 ^ (63 - k) / 18446744073709551616 = x / 2 ^ (64 - (63 - k)) := by
      rw [e, Nat.mul_div_mul_right _ _ (Nat.two_pow_pos _)]
    have := Nat.div_add_mod (x * 2 ^ (63 - k)) 18446744073709551616
    rw [e2] at this
    generalize x / 2 ^ (64 - (63 - k)) = A at *
    rw [Nat.add_mul, Nat.add_mul, Nat.mul_assoc h, Nat.mul_assoc h, Nat.mul_comm (2 ^ (63 - k))]
    omega
end Go.Vm.C01
