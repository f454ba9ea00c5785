/- What some functions of the program compute, walked through once. -/
import Derived.Test.YtmpoofgkfaonfaaCG
namespace Go.Vm.C19
open Go Go.Proofs
set_option linter.unusedVariables false
set_option linter.unusedSimpArgs false
set_option maxRecDepth 100000
set_option maxHeartbeats 8000000

def one1 (a : List (BitVec 64)) : Prop := a.length = 4 ∧ a.getD 1 0 = 0 ∧ a.getD 2 0 = 0 ∧ a.getD 3 0 = 0
theorem one1_eq {a : List (BitVec 64)} (h : one1 a) : a = [a.getD 0 0, 0#64, 0#64, 0#64] := by
  obtain ⟨x, y, z, t, rfl⟩ := len4 a h.1
  obtain ⟨_, h1, h2, h3⟩ := h
  have e1 : y = 0 := h1
  have e2 : z = 0 := h2
  have e3 : t = 0 := h3
  subst e1; subst e2; subst e3
  rfl
theorem one1_wv {a : List (BitVec 64)} (h : one1 a) : wv a = (a.getD 0 0).toNat := by
  rw [one1_eq h, wv_four]
  simp
noncomputable def divzS : FSpec := { run := fun ins => match ins with
  | [.agg 4 (.u 64 a), .agg 4 (.u 64 b)] => chk (one1 a ∧ one1 b ∧ b.getD 0 0 ≠ 0) (some (.tup [.agg 4 (.u 64 (wOf (wv a / wv b))), .agg 4 (.u 64 (wOf (wv a % wv b)))], []))
  | _ => none }
def dqF (x y : BitVec 64) (k : Nat) : List (BitVec 64) := if k = 0 then [x / y, 0#64, 0#64, 0#64] else zeros 64 4
def drF (x y : BitVec 64) (k : Nat) : BitVec 64 := if k = 0 then x % y else 0#64
theorem zdiv (y : BitVec 64) : (0 : BitVec 64) / y = 0 := BitVec.eq_of_toNat_eq (by rw [BitVec.toNat_udiv]; exact Nat.zero_div _)
theorem zmod (y : BitVec 64) : (0 : BitVec 64) % y = 0 := BitVec.eq_of_toNat_eq (by rw [BitVec.toNat_umod]; exact Nat.zero_mod _)
theorem dq_step (x y : BitVec 64) (j : Nat) (hj : j < 4) : (dqF x y (j + 1)).set j ([x, 0#64, 0#64, 0#64].getD j 0 / y) = dqF x y j ∧ [x, 0#64, 0#64, 0#64].getD j 0 % y = drF x y j := by
  have z1 := zdiv y
  have z2 := zmod y
  match j, hj with
  | 0, _ => exact ⟨rfl, rfl⟩
  | 1, _ => exact ⟨by show (zeros 64 4).set 1 (0 / y) = zeros 64 4; rw [z1]; rfl, z2⟩
  | 2, _ => exact ⟨by show (zeros 64 4).set 2 (0 / y) = zeros 64 4; rw [z1]; rfl, z2⟩
  | 3, _ => exact ⟨by show (zeros 64 4).set 3 (0 / y) = zeros 64 4; rw [z1]; rfl, z2⟩
end Go.Vm.C19
