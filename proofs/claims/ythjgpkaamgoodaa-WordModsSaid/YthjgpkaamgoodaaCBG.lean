/- What some functions of the program compute, walked through once. -/
import Derived.Test.YthjgpkaamgoodaaCBF
import Derived.Test.YthjgpkaamgoodaaCT
namespace Go.Vm.C01
open Go Go.Proofs
set_option linter.unusedVariables false
set_option linter.unusedSimpArgs false
set_option maxRecDepth 100000
set_option maxHeartbeats 8000000

/-! ### bits: the document -/
noncomputable def numS : FSpec := { run := fun ins => match ins with
  | [.agg 4 (.u 64 a)] => some (.i ((min (wv a) 256 : Nat) : Int), [])
  | _ => none }
theorem or_step {l : List (BitVec 64)} {x : BitVec 64} {i b : Nat} (hl : l.length = 4) (hi : i < 256) (hx : x.toNat ≤ 1) : bitAt (l.set (i / 64) (l.getD (i / 64) 0 ||| x <<< (i % 64))) b = (bitAt l b || (decide (b = i) && x.getLsbD 0)) := by
  rw [bitAt_set (by omega)]
  by_cases h : b / 64 = i / 64
  · rw [if_pos h, BitVec.getLsbD_or, BitVec.getLsbD_shiftLeft]
    have e1 : (l.getD (i / 64) 0).getLsbD (b % 64) = bitAt l b := by unfold bitAt; rw [h]
    rw [e1]
    by_cases h2 : b = i
    · subst h2
      have h3 : b % 64 < 64 := by omega
      simp [h3]
    · have h4 : ¬ b % 64 = i % 64 := by omega
      by_cases h5 : b % 64 < i % 64
      · simp [h2, h5]
      · have h6 : x.getLsbD (b % 64 - i % 64) = false := by
          rw [bit_get]
          have : x.toNat / 2 ^ (b % 64 - i % 64) = 0 := by
            refine Nat.div_eq_of_lt ?_
            have : 2 ^ 1 ≤ 2 ^ (b % 64 - i % 64) := Nat.pow_le_pow_right (by decide) (by omega)
            omega
          rw [this]
          rfl
        simp [h2, h6]
  · rw [if_neg h]
    have h2 : ¬ b = i := fun c => h (by rw [c])
    simp [h2]
theorem bit_one (y : BitVec 64) (j : Nat) : (y >>> j &&& 1#64).toNat ≤ 1 ∧ (y >>> j &&& 1#64).getLsbD 0 = y.getLsbD j := by
  constructor
  · rw [bit_nat]; omega
  · rw [bit_get, bit_get, bit_nat, Nat.pow_zero, Nat.div_one, Nat.mod_mod]
def pickB (a : List (BitVec 64)) (sh : Int) (z : Bool) (i : Nat) : Bool := if 0 ≤ (i : Int) + sh ∧ (i : Int) + sh < 256 then bitAt a ((i : Int) + sh).toNat else z
noncomputable def pickS : FSpec := { run := fun ins => match ins with
  | [.agg 4 (.u 64 a), .i sh, .u 64 f] => chk (-256 ≤ sh ∧ sh ≤ 256 ∧ f.toNat ≤ 1) (some (.agg 4 (.u 64 (wB (pickB a sh (f.getLsbD 0)))), []))
  | _ => none }
end Go.Vm.C01
