/- What some functions of the program compute, walked through once. -/
import Derived.Test.YthjgpkaamgoodaaCS
namespace Go.Vm.C01
open Go Go.Proofs
set_option linter.unusedVariables false
set_option linter.unusedSimpArgs false
set_option maxRecDepth 100000
set_option maxHeartbeats 8000000

/-! ### words as bits -/
def bitAt (l : List (BitVec 64)) (i : Nat) : Bool := (l.getD (i / 64) 0).getLsbD (i % 64)
theorem bitAt_at (l : List (BitVec 64)) (k j : Nat) (hj : j < 64) : bitAt l (64 * k + j) = (l.getD k 0).getLsbD j := by
  unfold bitAt
  rw [show (64 * k + j) / 64 = k from by omega, show (64 * k + j) % 64 = j from by omega]
theorem bit_nat (x : BitVec 64) (j : Nat) : (x >>> j &&& 1#64).toNat = x.toNat / 2 ^ j % 2 := by
  rw [BitVec.toNat_and, BitVec.toNat_ushiftRight, Nat.shiftRight_eq_div_pow, show (1#64).toNat = 1 from rfl, Nat.and_one_is_mod]
theorem bit_get (x : BitVec 64) (j : Nat) : x.getLsbD j = decide (x.toNat / 2 ^ j % 2 = 1) := by
  rw [← BitVec.testBit_toNat, Nat.testBit_eq_decide_div_mod_eq]
theorem bitAt_test (l : List (BitVec 64)) (i : Nat) (h : i < 256) : bitAt l i = (wv l).testBit i := by
  rw [Nat.testBit_eq_decide_div_mod_eq, wv_bit l i h, bit_nat]
  exact bit_get _ _
theorem bitAt_wOf (x i : Nat) (h : i < 256) : bitAt (wOf x) i = x.testBit i := by
  rw [bitAt_test _ _ h, wv_wOf, show B256 = 2 ^ 256 from rfl, Nat.testBit_mod_two_pow]
  simp [h]
theorem bitAt_ext {l m : List (BitVec 64)} (hl : l.length = 4) (hm : m.length = 4) (h : ∀ i, i < 256 → bitAt l i = bitAt m i) : l = m := by
  have hk : ∀ k, k < 4 → l.getD k 0 = m.getD k 0 := by
    intro k hk
    refine BitVec.eq_of_getLsbD_eq fun j hj => ?_
    have := h (64 * k + j) (by omega)
    rw [bitAt_at _ _ _ hj, bitAt_at _ _ _ hj] at this
    exact this
  obtain ⟨a, b, c, d, rfl⟩ := len4 l hl
  obtain ⟨a', b', c', d', rfl⟩ := len4 m hm
  have h0 : a = a' := hk 0 (by omega)
  have h1 : b = b' := hk 1 (by omega)
  have h2 : c = c' := hk 2 (by omega)
  have h3 : d = d' := hk 3 (by omega)
  rw [h0, h1, h2, h3]
theorem bitAt_set {l : List (BitVec 64)} {k i : Nat} {v : BitVec 64} (hk : k < l.length) : bitAt (l.set k v) i = if i / 64 = k then v.getLsbD (i % 64) else bitAt l i := by
  unfold bitAt
  by_cases h : i / 64 = k
  · rw [if_pos h, h]
    simp [List.getD_eq_getElem?_getD, List.getElem?_set, hk]
  · rw [if_neg h]
    simp only [List.getD_eq_getElem?_getD, List.getElem?_set]
    rw [if_neg (fun c => h c.symm)]
theorem bitAt_zeros (n i : Nat) : bitAt (zeros 64 n) i = false := by
  unfold bitAt
  have : (zeros 64 n).getD (i / 64) 0 = 0 := by
    unfold zeros
    simp [List.getD_eq_getElem?_getD, List.getElem?_replicate]
    split <;> rfl
  rw [this]
  exact BitVec.getLsbD_zero
def bitsTo (f : Nat → Bool) : Nat → BitVec 64
  | 0 => 0#64
  | k + 1 => bitsTo f k ||| (if f k = true then 1#64 <<< k else 0#64)
theorem bitsTo_get (f : Nat → Bool) : ∀ k, k ≤ 64 → ∀ j, (bitsTo f k).getLsbD j = (decide (j < k) && f j)
  | 0, _, j => by simp [bitsTo]
  | k + 1, hk, j => by
    rw [bitsTo, BitVec.getLsbD_or, bitsTo_get f k (by omega) j]
    by_cases hf : f k = true
    · rw [if_pos hf, BitVec.getLsbD_shiftLeft, BitVec.getLsbD_one]
      rcases Nat.lt_trichotomy j k with h | h | h
      · have h1 : j < k + 1 := by omega
        simp [h, h1]
      · subst h
        have h1 : j < 64 := by omega
        simp [h1, hf]
      · have h1 : ¬ j < k := by omega
        have h2 : ¬ j < k + 1 := by omega
        have h3 : ¬ j - k = 0 := by omega
        simp [h1, h2, h3]
    · rw [if_neg hf]
      by_cases h : j < k
      · have h1 : j < k + 1 := by omega
        simp [h, h1]
      · by_cases h2 : j = k
        · subst h2
          simp [hf]
        · have h3 : ¬ j < k + 1 := by omega
          simp [h, h3]
def wB (f : Nat → Bool) : List (BitVec 64) := [bitsTo f 64, bitsTo (fun i => f (64 + i)) 64, bitsTo (fun i => f (128 + i)) 64, bitsTo (fun i => f (192 + i)) 64]
@[go_sem] theorem wB_len (f : Nat → Bool) : (wB f).length = 4 := rfl
theorem bitAt_wB (f : Nat → Bool) (i : Nat) (h : i < 256) : bitAt (wB f) i = f i := by
  obtain ⟨k, j, hj, rfl⟩ : ∃ k j, j < 64 ∧ i = 64 * k + j := ⟨i / 64, i % 64, by omega, by omega⟩
  rw [bitAt_at _ _ _ hj]
  have hk : k = 0 ∨ k = 1 ∨ k = 2 ∨ k = 3 := by omega
  rcases hk with rfl | rfl | rfl | rfl
  · show (bitsTo f 64).getLsbD j = _
    rw [bitsTo_get _ 64 (by omega)]; simp [hj]
  · show (bitsTo (fun i => f (64 + i)) 64).getLsbD j = _
    rw [bitsTo_get _ 64 (by omega)]; simp [hj]
  · show (bitsTo (fun i => f (128 + i)) 64).getLsbD j = _
    rw [bitsTo_get _ 64 (by omega)]; simp [hj]
  · show (bitsTo (fun i => f (192 + i)) 64).getLsbD j = _
    rw [bitsTo_get _ 64 (by omega)]; simp [hj]
theorem eq_wB {l : List (BitVec 64)} {f : Nat → Bool} (hl : l.length = 4) (h : ∀ i, i < 256 → bitAt l i = f i) : l = wB f :=
  bitAt_ext hl rfl fun i hi => (h i hi).trans (bitAt_wB f i hi).symm
theorem wB_congr {f g : Nat → Bool} (h : ∀ i, i < 256 → f i = g i) : wB f = wB g := eq_wB rfl fun i hi => (bitAt_wB f i hi).trans (h i hi)
/-- bits of a word, shifted -/
def shlB (a : List (BitVec 64)) (n i : Nat) : Bool := decide (n ≤ i) && bitAt a (i - n)
def shrB (a : List (BitVec 64)) (n : Nat) (s : Bool) (i : Nat) : Bool := if i + n < 256 then bitAt a (i + n) else s
def sxB (a : List (BitVec 64)) (n i : Nat) : Bool := bitAt a (if i ≤ 8 * n + 7 then i else 8 * n + 7)
theorem top_get (a : List (BitVec 64)) : bitAt a 255 = decide (H255 ≤ wv a) := by
  rw [bitAt_test a 255 (by omega), Nat.testBit_eq_decide_div_mod_eq]
  have h := wv_lt a
  refine decide_eq_decide.2 ?_
  unfold B256 at h
  unfold H255
  generalize wv a = x at *
  simp only [Nat.reducePow]
  omega
end Go.Vm.C01
