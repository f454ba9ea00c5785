/- What some functions of the program compute, walked through once. -/
import Derived.Test.YthjgpkaamgoodaaCBC
namespace Go.Vm.C01
open Go Go.Proofs
set_option linter.unusedVariables false
set_option linter.unusedSimpArgs false
set_option maxRecDepth 100000
set_option maxHeartbeats 8000000

theorem decU_ne {w : Nat} {x y : BitVec w} (h : ¬ x = y) : @decide (x = y) (instDecidableEqBitVec x (castB rfl y)) = false := decide_eq_false h
theorem or_z {x y : BitVec 64} (h : x ||| y = 0) : x = 0 ∧ y = 0 := by
  have h1 : (x ||| y).toNat = 0 := by rw [h]; rfl
  rw [BitVec.toNat_or] at h1
  have h2 : x.toNat ≤ x.toNat ||| y.toNat := Nat.left_le_or
  have h3 : y.toNat ≤ x.toNat ||| y.toNat := Nat.right_le_or
  exact ⟨BitVec.eq_of_toNat_eq (by show x.toNat = 0; omega), BitVec.eq_of_toNat_eq (by show y.toNat = 0; omega)⟩
theorem sm_yes {a : List (BitVec 64)} (h : a.getD 1 0 ||| a.getD 2 0 ||| a.getD 3 0 = 0) : wv a = (a.getD 0 0).toNat := by
  obtain ⟨h12, h3⟩ := or_z h
  obtain ⟨h1, h2⟩ := or_z h12
  have e : wv a = 0 + B64 ^ 0 * (a.getD 0 0).toNat + B64 ^ 1 * (a.getD 1 0).toNat + B64 ^ 2 * (a.getD 2 0).toNat + B64 ^ 3 * (a.getD 3 0).toNat := rfl
  rw [e, h1, h2, h3]
  simp
theorem sm_no {a : List (BitVec 64)} (h : ¬ a.getD 1 0 ||| a.getD 2 0 ||| a.getD 3 0 = 0) : 18446744073709551616 ≤ wv a := by
  have e : wv a = 0 + B64 ^ 0 * (a.getD 0 0).toNat + B64 ^ 1 * (a.getD 1 0).toNat + B64 ^ 2 * (a.getD 2 0).toNat + B64 ^ 3 * (a.getD 3 0).toNat := rfl
  rw [e]
  have hn : ¬ ((a.getD 1 0).toNat = 0 ∧ (a.getD 2 0).toNat = 0 ∧ (a.getD 3 0).toNat = 0) := by
    rintro ⟨h1, h2, h3⟩
    have e1 : a.getD 1 0 = 0 := BitVec.eq_of_toNat_eq h1
    have e2 : a.getD 2 0 = 0 := BitVec.eq_of_toNat_eq h2
    have e3 : a.getD 3 0 = 0 := BitVec.eq_of_toNat_eq h3
    refine h ?_
    rw [e1, e2, e3]
    decide
  generalize (a.getD 0 0).toNat = x0 at *
  generalize (a.getD 1 0).toNat = x1 at *
  generalize (a.getD 2 0).toNat = x2 at *
  generalize (a.getD 3 0).toNat = x3 at *
  unfold B64
  simp only [Nat.reducePow]
  omega
noncomputable def smS : FSpec := { run := fun ins => match ins with
  | [.agg 4 (.u 64 a), .i n] => chk (0 ≤ n ∧ n ≤ 256) (some (.i ((min (wv a) n.toNat : Nat) : Int), []))
  | _ => none }
noncomputable def ShlS : FSpec := { run := fun ins => match ins with
  | [.agg 4 (.u 64 k), .agg 4 (.u 64 a)] => chk (a.length = 4) (some (.agg 4 (.u 64 (wB (shlB a (min (wv k) 256)))), []))
  | _ => none }
noncomputable def ShrS : FSpec := { run := fun ins => match ins with
  | [.agg 4 (.u 64 k), .agg 4 (.u 64 a)] => chk (a.length = 4) (some (.agg 4 (.u 64 (wB (shrB a (min (wv k) 256) false))), []))
  | _ => none }
noncomputable def SarS : FSpec := { run := fun ins => match ins with
  | [.agg 4 (.u 64 k), .agg 4 (.u 64 a)] => chk (a.length = 4) (some (.agg 4 (.u 64 (wB (shrB a (min (wv k) 256) (bitAt a 255)))), []))
  | _ => none }
end Go.Vm.C01
