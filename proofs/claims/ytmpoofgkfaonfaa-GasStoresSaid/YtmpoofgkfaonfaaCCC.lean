/- What some functions of the program compute, walked through once. -/
import Derived.Test.YtmpoofgkfaonfaaCCB
namespace Go.Vm.C19
open Go Go.Proofs
set_option linter.unusedVariables false
set_option linter.unusedSimpArgs false
set_option maxRecDepth 100000
set_option maxHeartbeats 8000000

/-! ### doubling -/
theorem wv_exp (a : List (BitVec 64)) : wv a = (a.getD 0 0).toNat + B64 * (a.getD 1 0).toNat + B64 * B64 * (a.getD 2 0).toNat + B64 * B64 * B64 * (a.getD 3 0).toNat := by
  have e : wv a = 0 + B64 ^ 0 * (a.getD 0 0).toNat + B64 ^ 1 * (a.getD 1 0).toNat + B64 ^ 2 * (a.getD 2 0).toNat + B64 ^ 3 * (a.getD 3 0).toNat := rfl
  rw [e]
  simp only [Nat.pow_zero, Nat.pow_one, Nat.pow_succ, Nat.one_mul, Nat.zero_add]
theorem two_bv {x c : BitVec 64} (hc : c.toNat ≤ 1) : (x <<< 1 ||| c).toNat = 2 * x.toNat % 18446744073709551616 + c.toNat := by
  have hx := x.isLt
  have e : (x <<< 1).toNat = (x.toNat % 2 ^ 63) <<< 1 := by
    rw [BitVec.toNat_shiftLeft, Nat.shiftLeft_eq, Nat.shiftLeft_eq]
    omega
  rw [BitVec.toNat_or, e, ← Nat.shiftLeft_add_eq_or_of_lt (by omega), Nat.shiftLeft_eq]
  omega
theorem top63 (x : BitVec 64) : (x >>> 63).toNat = x.toNat / 9223372036854775808 ∧ (x >>> 63).toNat ≤ 1 := by
  have hx := x.isLt
  have e : (x >>> 63).toNat = x.toNat / 9223372036854775808 := by rw [BitVec.toNat_ushiftRight, Nat.shiftRight_eq_div_pow]
  refine ⟨e, ?_⟩
  rw [e]
  omega
theorem dbl_eq {a : List (BitVec 64)} {b : BitVec 64} (hb : b.toNat ≤ 1) : [a.getD 0 0 <<< 1 ||| b, a.getD 1 0 <<< 1 ||| a.getD 0 0 >>> 63, a.getD 2 0 <<< 1 ||| a.getD 1 0 >>> 63, a.getD 3 0 <<< 1 ||| a.getD 2 0 >>> 63] = wOf (2 * wv a + b.toNat) ∧ a.getD 3 0 >>> 63 = BitVec.ofNat 64 ((2 * wv a + b.toNat) / B256) := by
  obtain ⟨t0, u0⟩ := top63 (a.getD 0 0)
  obtain ⟨t1, u1⟩ := top63 (a.getD 1 0)
  obtain ⟨t2, u2⟩ := top63 (a.getD 2 0)
  obtain ⟨t3, u3⟩ := top63 (a.getD 3 0)
  have h0 := (a.getD 0 0).isLt
  have h1 := (a.getD 1 0).isLt
  have h2 := (a.getD 2 0).isLt
  have h3 := (a.getD 3 0).isLt
  have e := wv_exp a
  constructor
  · refine eq_wOf rfl ?_
    rw [wv_exp]
    show ((a.getD 0 0 <<< 1 ||| b).toNat + B64 * (a.getD 1 0 <<< 1 ||| a.getD 0 0 >>> 63).toNat + B64 * B64 * (a.getD 2 0 <<< 1 ||| a.getD 1 0 >>> 63).toNat + B64 * B64 * B64 * (a.getD 3 0 <<< 1 ||| a.getD 2 0 >>> 63).toNat) % B256 = _
    rw [two_bv hb, two_bv u0, two_bv u1, two_bv u2, t0, t1, t2, e]
    clear e t0 t1 t2 t3 u0 u1 u2 u3
    generalize (a.getD 0 0).toNat = x0 at *
    generalize (a.getD 1 0).toNat = x1 at *
    generalize (a.getD 2 0).toNat = x2 at *
    generalize (a.getD 3 0).toNat = x3 at *
    simp only [B64, B256, Nat.reducePow, Nat.reduceMul] at *
    omega
  · refine BitVec.eq_of_toNat_eq ?_
    rw [BitVec.toNat_ofNat, t3, e]
    clear e t0 t1 t2 t3 u0 u1 u2 u3
    generalize (a.getD 0 0).toNat = x0 at *
    generalize (a.getD 1 0).toNat = x1 at *
    generalize (a.getD 2 0).toNat = x2 at *
    generalize (a.getD 3 0).toNat = x3 at *
    simp only [B64, B256, Nat.reducePow, Nat.reduceMul] at *
    omega
noncomputable def dblS : FSpec := { run := fun ins => match ins with
  | [.agg 4 (.u 64 a), .u 64 b] => chk (a.length = 4 ∧ b.toNat ≤ 1) (some (.tup [.agg 4 (.u 64 (wOf (2 * wv a + b.toNat))), .u 64 (BitVec.ofNat 64 ((2 * wv a + b.toNat) / B256))], []))
  | _ => none }
end Go.Vm.C19
