/- What some functions of the program compute, walked through once. -/
import Derived.Test.YtmpoofgkfaonfaaCCC
namespace Go.Vm.C19
open Go Go.Proofs
set_option linter.unusedVariables false
set_option linter.unusedSimpArgs false
set_option maxRecDepth 100000
set_option maxHeartbeats 8000000

/-! ### bit by bit -/
theorem wvk_bit (b : List (BitVec 64)) (k : Nat) : ∀ m, wvk b m / 2 ^ k % 2 = if k / 64 < m then ((b.getD (k / 64) 0 >>> (k % 64)) &&& 1#64).toNat else 0 := by
  intro m
  induction m with
  | zero => rw [if_neg (by omega)]; show 0 / _ % 2 = 0; simp
  | succ m ih =>
    have h1 := wvk_lt b m
    have hs : wvk b (m + 1) = wvk b m + B64 ^ m * (b.getD m 0).toNat := rfl
    have hB : B64 ^ m = 2 ^ (64 * m) := by rw [show B64 = 2 ^ 64 from rfl, ← Nat.pow_mul]
    rw [hB] at h1 hs
    have hx := (b.getD m 0).isLt
    by_cases hlt : k < 64 * m
    · rw [if_pos (by omega)]
      rw [if_pos (by omega)] at ih
      rw [← ih, hs]
      obtain ⟨d, hd⟩ : ∃ d, 64 * m = k + 1 + d := ⟨64 * m - k - 1, by omega⟩
      rw [hd, Nat.pow_add, Nat.pow_succ, Nat.mul_assoc, Nat.mul_assoc, Nat.add_mul_div_left _ _ (Nat.two_pow_pos k), Nat.add_mod, Nat.mul_mod_right, Nat.add_zero, Nat.mod_mod]
    · have hle : 64 * m ≤ k := by omega
      obtain ⟨d, hd⟩ : ∃ d, k = 64 * m + d := ⟨k - 64 * m, by omega⟩
      have hdiv : wvk b (m + 1) / 2 ^ k = (b.getD m 0).toNat / 2 ^ d := by
        rw [hd, Nat.pow_add, ← Nat.div_div_eq_div_mul, hs, Nat.add_mul_div_left _ _ (Nat.two_pow_pos _), Nat.div_eq_of_lt h1, Nat.zero_add]
      rw [hdiv]
      by_cases hd64 : d < 64
      · have e1 : k / 64 = m := by omega
        have e2 : k % 64 = d := by omega
        rw [if_pos (by omega), e1, e2, bit_nat]
      · rw [if_neg (by omega), Nat.div_eq_of_lt]
        exact Nat.lt_of_lt_of_le hx (Nat.pow_le_pow_right (by decide) (by omega))
theorem or_bit {x r : Nat} (h : x / 2 ^ r % 2 = 0) : x ||| 2 ^ r = x + 2 ^ r := by
  have hp := Nat.two_pow_pos r
  have h1 : x % 2 ^ r < 2 ^ r := Nat.mod_lt _ hp
  have e : x = x / 2 ^ r / 2 * 2 ^ (r + 1) + x % 2 ^ r := by
    have h2 := Nat.div_add_mod x (2 ^ r)
    have h3 : x / 2 ^ r = 2 * (x / 2 ^ r / 2) := by omega
    rw [Nat.pow_succ, Nat.mul_comm (2 ^ r), ← Nat.mul_assoc, Nat.mul_comm _ 2, ← h3, Nat.mul_comm _ (2 ^ r), h2]
  generalize x / 2 ^ r / 2 = A at e
  generalize x % 2 ^ r = B at e h1
  subst e
  have e1 : A * 2 ^ (r + 1) + B = A <<< (r + 1) ||| B := by
    rw [← Nat.shiftLeft_eq]
    exact Nat.shiftLeft_add_eq_or_of_lt (by rw [Nat.pow_succ]; omega) A
  have e2 : B ||| 2 ^ r = 2 ^ r + B := by
    have := Nat.shiftLeft_add_eq_or_of_lt h1 1
    rw [Nat.shiftLeft_eq, Nat.one_mul] at this
    rw [Nat.or_comm]
    exact this.symm
  have e3 : A <<< (r + 1) ||| (2 ^ r + B) = A <<< (r + 1) + (2 ^ r + B) := (Nat.shiftLeft_add_eq_or_of_lt (by rw [Nat.pow_succ]; omega) A).symm
  rw [e1, Nat.or_assoc, e2, e3, ← e1, Nat.shiftLeft_eq]
  omega
theorem wvk_or {q : List (BitVec 64)} {i n : Nat} (hn : q.length = n) (hi : i / 64 < n) (h : wvk q n / 2 ^ i % 2 = 0) : wvk (q.set (i / 64) (q.getD (i / 64) 0 ||| 1#64 <<< (i % 64))) n = wvk q n + 2 ^ i := by
  have h1 := wvk_set (l := q) (i := i / 64) (x := q.getD (i / 64) 0 ||| 1#64 <<< (i % 64)) (by omega) hi
  rw [wvk_bit q i n, if_pos hi, bit_nat] at h
  have e1 : (1#64 <<< (i % 64)).toNat = 2 ^ (i % 64) := by
    rw [BitVec.toNat_shiftLeft, Nat.shiftLeft_eq, show (1#64).toNat = 1 from rfl, Nat.one_mul]
    exact Nat.mod_eq_of_lt (Nat.pow_lt_pow_right (by decide) (by omega))
  rw [BitVec.toNat_or, e1, or_bit h, Nat.mul_add] at h1
  have e2 : B64 ^ (i / 64) * 2 ^ (i % 64) = 2 ^ i := by
    rw [show B64 = 2 ^ 64 from rfl, ← Nat.pow_mul, ← Nat.pow_add]
    congr 1
    omega
  rw [e2] at h1
  omega
theorem wvk_inj {l m : List (BitVec 64)} : ∀ k, wvk l k = wvk m k → ∀ j, j < k → l.getD j 0 = m.getD j 0
  | 0, _, j, hj => absurd hj (by omega)
  | k + 1, h, j, hj => by
    have h1 := wvk_lt l k
    have h2 := wvk_lt m k
    have e1 : wvk l (k + 1) = wvk l k + B64 ^ k * (l.getD k 0).toNat := rfl
    have e2 : wvk m (k + 1) = wvk m k + B64 ^ k * (m.getD k 0).toNat := rfl
    rw [e1, e2] at h
    have hp : 0 < B64 ^ k := Nat.pow_pos (by decide)
    have hm : wvk l k = wvk m k := by
      have : (wvk l k + B64 ^ k * (l.getD k 0).toNat) % B64 ^ k = (wvk m k + B64 ^ k * (m.getD k 0).toNat) % B64 ^ k := by rw [h]
      rw [Nat.add_mul_mod_self_left, Nat.add_mul_mod_self_left, Nat.mod_eq_of_lt h1, Nat.mod_eq_of_lt h2] at this
      exact this
    by_cases hjk : j < k
    · exact wvk_inj k hm j hjk
    · have : j = k := by omega
      subst this
      rw [hm] at h
      have h3 := Nat.add_left_cancel h
      exact BitVec.eq_of_toNat_eq (Nat.eq_of_mul_eq_mul_left hp h3)
theorem list_ext64 {n : Nat} {l m : List (BitVec 64)} (hl : l.length = n) (hm : m.length = n) (h : ∀ i, i < n → l.getD i 0 = m.getD i 0) : l = m := by
  refine List.ext_getElem (by rw [hl, hm]) fun i h1 h2 => ?_
  have := h i (by omega)
  simpa [List.getD_eq_getElem?_getD, h1, h2] using this
def lOf (n v : Nat) : List (BitVec 64) := (List.range n).map (fun k => BitVec.ofNat 64 (v / B64 ^ k))
theorem lOf_len (n v : Nat) : (lOf n v).length = n := by simp [lOf]
theorem lOf_at {n v k : Nat} (h : k < n) : (lOf n v).getD k 0 = BitVec.ofNat 64 (v / B64 ^ k) := by
  unfold lOf
  simp [List.getD_eq_getElem?_getD, h]
theorem lOf_val (n v : Nat) : ∀ k, k ≤ n → wvk (lOf n v) k = v % B64 ^ k
  | 0, _ => by rw [Nat.pow_zero, Nat.mod_one]; rfl
  | k + 1, h => by
    have e1 : wvk (lOf n v) (k + 1) = wvk (lOf n v) k + B64 ^ k * ((lOf n v).getD k 0).toNat := rfl
    rw [e1, lOf_val n v k (by omega), lOf_at (by omega), BitVec.toNat_ofNat]
    exact Nat.mod_pow_succ.symm
theorem eq_lOf {l : List (BitVec 64)} {n v : Nat} (hl : l.length = n) (h : wvk l n = v) : l = lOf n v := by
  refine list_ext64 hl (lOf_len n v) (wvk_inj n ?_)
  rw [lOf_val n v n (Nat.le_refl _), ← h]
  exact (Nat.mod_eq_of_lt (wvk_lt l n)).symm
theorem div_ge {P m b : Nat} (hm : 0 < m) (hb : b ≤ 1) (h : m ≤ 2 * (P % m) + b) : (2 * P + b) / m = 2 * (P / m) + 1 ∧ (2 * P + b) % m = 2 * (P % m) + b - m := by
  have h1 := Nat.div_add_mod P m
  have h2 := Nat.mod_lt P hm
  have e : 2 * P + b = m * (2 * (P / m) + 1) + (2 * (P % m) + b - m) := by
    rw [Nat.mul_add, Nat.mul_one, ← Nat.mul_assoc, Nat.mul_comm m 2, Nat.mul_assoc]
    omega
  have e3 : (2 * (P % m) + b - m) / m = 0 := Nat.div_eq_of_lt (by omega)
  have e4 : (2 * (P % m) + b - m) % m = 2 * (P % m) + b - m := Nat.mod_eq_of_lt (by omega)
  constructor
  · rw [e, Nat.mul_add_div hm, e3, Nat.add_zero]
  · rw [e, Nat.mul_add_mod, e4]
theorem div_lt {P m b : Nat} (hm : 0 < m) (hb : b ≤ 1) (h : ¬ m ≤ 2 * (P % m) + b) : (2 * P + b) / m = 2 * (P / m) ∧ (2 * P + b) % m = 2 * (P % m) + b := by
  have h1 := Nat.div_add_mod P m
  have h2 := Nat.mod_lt P hm
  have e : 2 * P + b = m * (2 * (P / m)) + (2 * (P % m) + b) := by
    rw [← Nat.mul_assoc, Nat.mul_comm m 2, Nat.mul_assoc]
    omega
  have e3 : (2 * (P % m) + b) / m = 0 := Nat.div_eq_of_lt (by omega)
  have e4 : (2 * (P % m) + b) % m = 2 * (P % m) + b := Nat.mod_eq_of_lt (by omega)
  constructor
  · rw [e, Nat.mul_add_div hm, e3, Nat.add_zero]
  · rw [e, Nat.mul_add_mod, e4]
noncomputable def divideS : FSpec := { run := fun ins => match ins with
  | [.sl false (.u 64 p), .agg 4 (.u 64 m)] => chk (m.length = 4 ∧ 0 < wv m ∧ p.length ≤ 1000) (some (.tup [.sl true (.u 64 (lOf p.length (wvk p p.length / wv m))), .agg 4 (.u 64 (wOf (wvk p p.length % wv m)))], []))
  | _ => none }
end Go.Vm.C19
