/- What some functions of the program compute, walked through once. -/
import Derived.Test.YthjgpkaamgoodaaCBH
namespace Go.Vm.C01
open Go Go.Proofs
set_option linter.unusedVariables false
set_option linter.unusedSimpArgs false
set_option maxRecDepth 100000
set_option maxHeartbeats 8000000

def byN (x n : Nat) : BitVec 8 := BitVec.ofNat 8 (x / 256 ^ (31 - n) % 256)
def bytesL (x : Nat) : List (BitVec 8) := (List.range 32).map (byN x)
theorem bytesL_at (x n : Nat) (h : n < 32) : (bytesL x).getD n 0 = byN x n := by
  unfold bytesL
  simp [List.getD_eq_getElem?_getD, h]
@[go_sem] theorem bytesL_len (x : Nat) : (bytesL x).length = 32 := by simp [bytesL]
theorem list_ext8 {n : Nat} {l m : List (BitVec 8)} (hl : l.length = n) (hm : m.length = n) (h : ∀ i, i < n → l.getD i 0 = m.getD i 0) : l = m := by
  refine List.ext_getElem (by rw [hl, hm]) fun i h1 h2 => ?_
  have := h i (by omega)
  simpa [List.getD_eq_getElem?_getD, h1, h2] using this
theorem getD_set8 {l : List (BitVec 8)} {k j : Nat} {v : BitVec 8} (h : k < l.length) : (l.set k v).getD j 0 = if j = k then v else l.getD j 0 := by
  by_cases hj : j = k
  · subst hj
    rw [if_pos rfl]
    simp [List.getD_eq_getElem?_getD, List.getElem?_set, h]
  · rw [if_neg hj]
    simp [List.getD_eq_getElem?_getD, List.getElem?_set, Ne.symm hj]
theorem and_mod (x : BitVec 64) (k : Nat) (hk : k < 64) (m : BitVec 64) (hm : m.toNat = 2 ^ k - 1) : (x &&& m).toNat = x.toNat % 2 ^ k := by
  rw [BitVec.toNat_and, hm, Nat.and_two_pow_sub_one_eq_mod]
theorem low_byte (a : List (BitVec 64)) (i : Nat) (hi : i < 16) : BitVec.setWidth 8 ((digF a 16).getD i 0 &&& 255#64) = byN (wv a) (31 - 2 * i) := by
  refine BitVec.eq_of_toNat_eq ?_
  have hb := byte_limb a (2 * i) (by omega)
  rw [show 2 * i / 8 = i / 4 from by omega, show 8 * (2 * i % 8) = 16 * (i % 4) from by omega] at hb
  unfold byN
  rw [show 31 - (31 - 2 * i) = 2 * i from by omega, ← hb, digF_at a 16 i hi, BitVec.toNat_setWidth, BitVec.toNat_ofNat, and_mod _ 8 (by omega) _ rfl, and_mod _ 16 (by omega) _ rfl, and_mod _ 8 (by omega) _ rfl]
  generalize (a.getD (i / 4) 0 >>> (16 * (i % 4))).toNat = y
  omega
theorem high_byte (a : List (BitVec 64)) (i : Nat) (hi : i < 16) : BitVec.setWidth 8 ((digF a 16).getD i 0 >>> 8) = byN (wv a) (30 - 2 * i) := by
  refine BitVec.eq_of_toNat_eq ?_
  have hb := byte_limb a (2 * i + 1) (by omega)
  rw [show (2 * i + 1) / 8 = i / 4 from by omega, show 8 * ((2 * i + 1) % 8) = 16 * (i % 4) + 8 from by omega] at hb
  unfold byN
  rw [show 31 - (30 - 2 * i) = 2 * i + 1 from by omega, ← hb, digF_at a 16 i hi, BitVec.toNat_setWidth, BitVec.toNat_ofNat, BitVec.toNat_ushiftRight, and_mod _ 16 (by omega) _ rfl, and_mod _ 8 (by omega) _ rfl, BitVec.toNat_ushiftRight, BitVec.toNat_ushiftRight, Nat.shiftRight_eq_div_pow, Nat.shiftRight_eq_div_pow, Nat.shiftRight_eq_div_pow, Nat.pow_add, ← Nat.div_div_eq_div_mul]
  generalize (a.getD (i / 4) 0).toNat / 2 ^ (16 * (i % 4)) = y
  omega
noncomputable def rBytesS : FSpec := { run := fun ins => match ins with
  | [.agg 4 (.u 64 a)] => some (.agg 32 (.u 8 (bytesL (wv a))), [])
  | _ => none }
noncomputable def rByteS : FSpec := { run := fun ins => match ins with
  | [.agg 4 (.u 64 k), .agg 4 (.u 64 a)] => chk (a.length = 4) (some (.agg 4 (.u 64 (byF a (wv k))), []))
  | _ => none }
theorem bl_mod (x i : Nat) : bl (x % 2 ^ (i + 1)) = if x / 2 ^ i % 2 = 1 then i + 1 else bl (x % 2 ^ i) := by
  have hp := Nat.two_pow_pos i
  rw [Nat.mod_pow_succ]
  have h1 : x % 2 ^ i < 2 ^ i := Nat.mod_lt _ hp
  by_cases h : x / 2 ^ i % 2 = 1
  · rw [if_pos h, h]
    refine bl_eq ?_ ?_
    · omega
    · rw [Nat.pow_succ]; omega
  · rw [if_neg h, show x / 2 ^ i % 2 = 0 from by omega]
    simp
noncomputable def rLenS : FSpec := { run := fun ins => match ins with
  | [.agg 4 (.u 64 a)] => some (.i (bl (wv a) : Int), [])
  | _ => none }
end Go.Vm.C01
