/- What some functions of the program compute, walked through once. -/
import Derived.Test.YthjgpkaamgoodaaCCA
namespace Go.Vm.C01
open Go Go.Proofs
set_option linter.unusedVariables false
set_option linter.unusedSimpArgs false
set_option maxRecDepth 100000
set_option maxHeartbeats 8000000

noncomputable def lzS : FSpec := { run := fun ins => match ins with
  | [.u 64 x] => some (.i ((64 - bl x.toNat : Nat) : Int), [])
  | _ => none }
theorem dle {x y : BitVec 64} (h : y.toNat ≤ x.toNat) : decide (castB rfl y ≤ x) = true := decide_eq_true h
theorem dnle {x y : BitVec 64} (h : ¬ y.toNat ≤ x.toNat) : decide (castB rfl y ≤ x) = false := decide_eq_false h
theorem dlt {x y : BitVec 64} (h : y.toNat < x.toNat) : decide (castB rfl y < x) = true := decide_eq_true h
theorem dnlt {x y : BitVec 64} (h : ¬ y.toNat < x.toNat) : decide (castB rfl y < x) = false := decide_eq_false h
theorem bv_nat (x : BitVec 64) : BitVec.ofNat 64 x.toNat = x := by rw [BitVec.ofNat_toNat, BitVec.setWidth_eq]
theorem rem_bv {U d V : BitVec 64} {Q R : Nat} (h : U.toNat * P32 + d.toNat = Q * V.toNat + R) : U * 4294967296#64 + d - BitVec.ofNat 64 Q * V = BitVec.ofNat 64 R := by
  have h2 := congrArg (BitVec.ofNat 64) h
  rw [BitVec.ofNat_add, BitVec.ofNat_mul, BitVec.ofNat_add, BitVec.ofNat_mul, bv_nat, bv_nat, bv_nat] at h2
  have h3 : U * 4294967296#64 + d = BitVec.ofNat 64 Q * V + BitVec.ofNat 64 R := h2
  rw [h3, BitVec.add_comm, BitVec.add_sub_cancel]
theorem quo_bv (Q1 Q0 : Nat) : BitVec.ofNat 64 Q1 * 4294967296#64 + BitVec.ofNat 64 Q0 = BitVec.ofNat 64 (Q1 * P32 + Q0) := by
  rw [BitVec.ofNat_add, BitVec.ofNat_mul]
  rfl
theorem shr32 (x : BitVec 64) : (x >>> 32).toNat = x.toNat / P32 := by rw [BitVec.toNat_ushiftRight, Nat.shiftRight_eq_div_pow]; rfl
theorem and32 (x : BitVec 64) : (x &&& 4294967295#64).toNat = x.toNat % P32 := and_mod x 32 (by omega) _ rfl
theorem mod_bv {x y : BitVec 64} (hy : y ≠ 0) : (x - x / y * y).toNat = x.toNat % y.toNat := by
  have hx := x.isLt
  have hp : 0 < y.toNat := Nat.pos_of_ne_zero fun c => hy (BitVec.eq_of_toNat_eq c)
  have h := Nat.div_add_mod' x.toNat y.toNat
  have e : (x / y * y).toNat = x.toNat / y.toNat * y.toNat := by
    rw [BitVec.toNat_mul, BitVec.toNat_udiv]
    exact Nat.mod_eq_of_lt (Nat.lt_of_le_of_lt (Nat.div_mul_le_self _ _) hx)
  rw [BitVec.toNat_sub, e]
  generalize x.toNat / y.toNat * y.toNat = A at *
  generalize x.toNat % y.toNat = B at *
  omega
/-- a round goes on -/
theorem k_bv {q r v1 v0 d U : BitVec 64} (h2 : v1.toNat < P32) (h4 : d.toNat < P32) (h5 : U.toNat < v1.toNat * P32 + v0.toNat) (hk : KI U.toNat v1.toNat v0.toNat d.toNat q.toNat r.toNat) (ht : P32 ≤ q.toNat ∨ P32 * r.toNat + d.toNat < q.toNat * v0.toNat) :
    (q - 1#64).toNat = q.toNat - 1 ∧ (r + v1).toNat = r.toNat + v1.toNat ∧ (U.toNat * P32 + d.toNat) / (v1.toNat * P32 + v0.toNat) ≤ q.toNat - 1 ∧ (q.toNat - 1) * v1.toNat + (r.toNat + v1.toNat) = U.toNat ∧ q.toNat - 1 ≤ P32 ∧ 1 ≤ q.toNat := by
  obtain ⟨g1, g2, g3, g4⟩ := k_next h2 h4 h5 hk ht
  have hq := q.isLt
  have hr := hk.rb
  refine ⟨?_, ?_, g2, g3, g4, g1⟩
  · rw [BitVec.toNat_sub]
    show (2 ^ 64 - 1 + q.toNat) % 2 ^ 64 = _
    omega
  · rw [BitVec.toNat_add]
    unfold P32 at *
    omega
theorem mul_bv {q v : BitVec 64} (h1 : q.toNat < P32) (h2 : v.toNat < P32) : (q * v).toNat = q.toNat * v.toNat := by
  rw [BitVec.toNat_mul]
  refine Nat.mod_eq_of_lt ?_
  have : q.toNat * v.toNat < P32 * P32 := Nat.mul_lt_mul'' h1 h2
  exact this
theorem wide_bv {r d : BitVec 64} (h1 : r.toNat < P32) (h2 : d.toNat < P32) : (4294967296#64 * r + d).toNat = P32 * r.toNat + d.toNat := by
  rw [BitVec.toNat_add, BitVec.toNat_mul]
  show (4294967296 * r.toNat % 2 ^ 64 + d.toNat) % 2 ^ 64 = 4294967296 * r.toNat + d.toNat
  unfold P32 at *
  omega
noncomputable def div64S : FSpec := { run := fun ins => match ins with
  | [.u 64 h, .u 64 x, .u 64 y] => chk (h.toNat < y.toNat) (some (.tup [.u 64 (BitVec.ofNat 64 ((h.toNat * B64 + x.toNat) / y.toNat)), .u 64 (BitVec.ofNat 64 ((h.toNat * B64 + x.toNat) % y.toNat))], []))
  | _ => none }
end Go.Vm.C01
