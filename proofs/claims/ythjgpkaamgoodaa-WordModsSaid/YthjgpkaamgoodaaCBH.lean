/- What some functions of the program compute, walked through once. -/
import Derived.Test.YthjgpkaamgoodaaCBG
namespace Go.Vm.C01
open Go Go.Proofs
set_option linter.unusedVariables false
set_option linter.unusedSimpArgs false
set_option maxRecDepth 100000
set_option maxHeartbeats 8000000

theorem pick_shl (a : List (BitVec 64)) (m : Nat) : wB (pickB a (-(m : Int)) false) = wB (shlB a m) := by
  refine wB_congr fun i hi => ?_
  unfold pickB shlB
  by_cases h : m ≤ i
  · rw [if_pos (by omega), show ((i : Int) + -(m : Int)).toNat = i - m from by omega]
    simp [h]
  · rw [if_neg (by omega)]
    simp [h]
theorem pick_shr (a : List (BitVec 64)) (m : Nat) (s : Bool) : wB (pickB a (m : Int) s) = wB (shrB a m s) := by
  refine wB_congr fun i hi => ?_
  unfold pickB shrB
  by_cases h : i + m < 256
  · rw [if_pos (by omega), if_pos h, show ((i : Int) + (m : Int)).toNat = i + m from by omega]
  · rw [if_neg (by omega), if_neg h]
noncomputable def rShlS : FSpec := { run := fun ins => match ins with
  | [.agg 4 (.u 64 k), .agg 4 (.u 64 a)] => chk (a.length = 4) (some (.agg 4 (.u 64 (wB (shlB a (min (wv k) 256)))), []))
  | _ => none }
noncomputable def rShrS : FSpec := { run := fun ins => match ins with
  | [.agg 4 (.u 64 k), .agg 4 (.u 64 a)] => chk (a.length = 4) (some (.agg 4 (.u 64 (wB (shrB a (min (wv k) 256) false))), []))
  | _ => none }
noncomputable def rSarS : FSpec := { run := fun ins => match ins with
  | [.agg 4 (.u 64 k), .agg 4 (.u 64 a)] => chk (a.length = 4) (some (.agg 4 (.u 64 (wB (shrB a (min (wv k) 256) (bitAt a 255)))), []))
  | _ => none }
theorem set_bit {l : List (BitVec 64)} {x : BitVec 64} {i b : Nat} (hl : l.length = 4) (hi : i < 256) (hx : x.toNat ≤ 1) : bitAt (l.set (i / 64) ((l.getD (i / 64) 0 &&& ~~~ (1#64 <<< (i % 64))) ||| x <<< (i % 64))) b = if b = i then x.getLsbD 0 else bitAt l b := by
  rw [bitAt_set (by omega)]
  by_cases h : b / 64 = i / 64
  · rw [if_pos h, BitVec.getLsbD_or, BitVec.getLsbD_and, BitVec.getLsbD_not, BitVec.getLsbD_shiftLeft, BitVec.getLsbD_shiftLeft, BitVec.getLsbD_one]
    have e1 : (l.getD (i / 64) 0).getLsbD (b % 64) = bitAt l b := by unfold bitAt; rw [h]
    rw [e1]
    have h3 : b % 64 < 64 := by omega
    by_cases h2 : b = i
    · subst h2
      rw [if_pos rfl]
      simp [h3]
    · rw [if_neg h2]
      have h4 : ¬ b % 64 = i % 64 := by omega
      by_cases h5 : b % 64 < i % 64
      · simp [h3, h5]
      · have h7 : ¬ b % 64 - i % 64 = 0 := by omega
        have h6 : x.getLsbD (b % 64 - i % 64) = false := by
          rw [bit_get]
          have : x.toNat / 2 ^ (b % 64 - i % 64) = 0 := by
            refine Nat.div_eq_of_lt ?_
            have : 2 ^ 1 ≤ 2 ^ (b % 64 - i % 64) := Nat.pow_le_pow_right (by decide) (by omega)
            omega
          rw [this]
          rfl
        simp [h3, h6, h7]
  · rw [if_neg h]
    have h2 : ¬ b = i := fun c => h (by rw [c])
    rw [if_neg h2]
noncomputable def rSxS : FSpec := { run := fun ins => match ins with
  | [.agg 4 (.u 64 k), .agg 4 (.u 64 a)] => chk (a.length = 4) (some (.agg 4 (.u 64 (sxF a (wv k))), []))
  | _ => none }
end Go.Vm.C01
