/- What some functions of the program compute, walked through once. -/
import Derived.Test.YthhabhaljdcgpaaDoorCK
namespace Go.Vm.C06
open Go Go.Proofs
set_option linter.unusedVariables false
set_option linter.unusedSimpArgs false
set_option maxRecDepth 100000
set_option maxHeartbeats 8000000

/-! ### the two calls are one -/
def w8 (c : List (BitVec 8)) (j : Nat) : BitVec 64 :=
  0#64 ||| BitVec.setWidth 64 (c.getD j 0) <<< 0 ||| BitVec.setWidth 64 (c.getD (j + 1) 0) <<< 8 ||| BitVec.setWidth 64 (c.getD (j + 2) 0) <<< 16 ||| BitVec.setWidth 64 (c.getD (j + 3) 0) <<< 24 |||
    BitVec.setWidth 64 (c.getD (j + 4) 0) <<< 32 ||| BitVec.setWidth 64 (c.getD (j + 5) 0) <<< 40 ||| BitVec.setWidth 64 (c.getD (j + 6) 0) <<< 48 ||| BitVec.setWidth 64 (c.getD (j + 7) 0) <<< 56

theorem numF_w8 (c : List (BitVec 8)) : numF c 8 = w8 c 0 := by
  show ((((((((0#64 <<< 8 ||| BitVec.setWidth 64 (c.getD 7 0)) <<< 8 ||| BitVec.setWidth 64 (c.getD 6 0)) <<< 8 ||| BitVec.setWidth 64 (c.getD 5 0)) <<< 8 ||| BitVec.setWidth 64 (c.getD 4 0)) <<< 8 ||| BitVec.setWidth 64 (c.getD 3 0)) <<< 8 |||
    BitVec.setWidth 64 (c.getD 2 0)) <<< 8 ||| BitVec.setWidth 64 (c.getD 1 0)) <<< 8 ||| BitVec.setWidth 64 (c.getD 0 0)) = _
  unfold w8
  simp only [BitVec.shiftLeft_or_distrib, ← BitVec.shiftLeft_add, BitVec.zero_shiftLeft, BitVec.zero_or, BitVec.shiftLeft_zero, Nat.reduceAdd, Nat.zero_add]
  generalize BitVec.setWidth 64 (c.getD 0 0) = x0
  generalize BitVec.setWidth 64 (c.getD 1 0) <<< 8 = x1
  generalize BitVec.setWidth 64 (c.getD 2 0) <<< 16 = x2
  generalize BitVec.setWidth 64 (c.getD 3 0) <<< 24 = x3
  generalize BitVec.setWidth 64 (c.getD 4 0) <<< 32 = x4
  generalize BitVec.setWidth 64 (c.getD 5 0) <<< 40 = x5
  generalize BitVec.setWidth 64 (c.getD 6 0) <<< 48 = x6
  generalize BitVec.setWidth 64 (c.getD 7 0) <<< 56 = x7
  ac_rfl

theorem w8_sub {b : List (BitVec 8)} {i n j : Nat} (h : j + 8 ≤ n) : w8 (subL b i n) j = w8 b (i + j) := by
  unfold w8
  rw [subL_at (by omega), subL_at (by omega), subL_at (by omega), subL_at (by omega), subL_at (by omega), subL_at (by omega), subL_at (by omega), subL_at (by omega)]
  rfl

theorem numsIn_at {b : List (BitVec 8)} {i : Nat} {v : List (BitVec 64)} (hi : i < v.length) (h0 : v.getD i 0 = 0#64) : numsIn b i 8 v = v.set i (w8 b (8 * i)) := by
  have st : ∀ (k : Nat) (x : BitVec 64), itN (fun k v => v.set i (v.getD i 0 ||| BitVec.setWidth 64 (b.getD (8 * (i : Int) + (k : Int)).toNat 0) <<< (8 * (k : Int)).toNat)) k (v.set i x) =
      v.set i (itN (fun k x => x ||| BitVec.setWidth 64 (b.getD (8 * i + k) 0) <<< (8 * k)) k x) := by
    intro k x
    induction k with
    | zero => rfl
    | succ k ih =>
      have e1 : (8 * (i : Int) + (k : Int)).toNat = 8 * i + k := by omega
      have e2 : (8 * (k : Int)).toNat = 8 * k := by omega
      rw [itN_succ, ih, itN_succ, e1, e2, getD_set_self hi, List.set_set]
  have s0 : v = v.set i 0#64 := by
    apply List.ext_getElem?
    intro j
    by_cases hj : i = j
    · subst hj
      rw [List.getElem?_set_self hi, List.getElem?_eq_getElem hi]
      congr 1
      rw [← h0, List.getD_eq_getElem?_getD, List.getElem?_eq_getElem hi]; rfl
    · rw [List.getElem?_set_ne hj]
  unfold numsIn
  conv => lhs; rw [s0]
  rw [st]
  rfl

theorem numsTo_at {b : List (BitVec 8)} {N : Nat} : ∀ n, n ≤ N → ∀ j, (numsTo b n (zeros 64 N)).getD j 0 = if j < n then w8 b (8 * j) else 0#64 := by
  intro n
  induction n with
  | zero => intro _ j; simp [numsTo, itN, zeros, List.getD_eq_getElem?_getD, List.getElem?_replicate]; split <;> rfl
  | succ n ih =>
    intro hn j
    have hl : (numsTo b n (zeros 64 N)).length = N := by rw [numsTo_len]; simp [zeros]
    have e : numsTo b (n + 1) (zeros 64 N) = numsIn b n 8 (numsTo b n (zeros 64 N)) := by rw [numsTo, itN_succ]; rfl
    rw [e, numsIn_at (by omega) (by rw [ih (by omega)]; simp)]
    by_cases hj : n = j
    · subst hj
      rw [getD_set_self (by omega)]; simp
    · rw [getD_set_ne hj, ih (by omega)]
      by_cases h1 : j < n
      · rw [if_pos h1, if_pos (by omega)]
      · rw [if_neg h1, if_neg (by omega)]

theorem setTo_at {f : Nat → BitVec 64} {N : Nat} : ∀ n, n ≤ N → (itN (fun i h => h.set i (f i)) n (zeros 64 N)).length = N ∧ ∀ j, (itN (fun i h => h.set i (f i)) n (zeros 64 N)).getD j 0 = if j < n then f j else 0#64 := by
  intro n
  induction n with
  | zero => intro _; exact ⟨by simp [itN, zeros], fun j => by simp [itN, zeros, List.getD_eq_getElem?_getD, List.getElem?_replicate]; split <;> rfl⟩
  | succ n ih =>
    intro hn
    obtain ⟨h1, h2⟩ := ih (by omega)
    rw [itN_succ]
    refine ⟨by simpa using h1, fun j => ?_⟩
    by_cases hj : n = j
    · subst hj
      rw [getD_set_self (by omega)]; simp
    · rw [getD_set_ne hj, h2]
      by_cases h3 : j < n
      · rw [if_pos h3, if_pos (by omega)]
      · rw [if_neg h3, if_neg (by omega)]

theorem ext_getD {l m : List (BitVec 64)} (hl : l.length = m.length) (h : ∀ j, l.getD j 0 = m.getD j 0) : l = m := by
  apply List.ext_getElem hl
  intro j h1 h2
  have := h j
  simpa [List.getD_eq_getElem?_getD, List.getElem?_eq_getElem h1, List.getElem?_eq_getElem h2] using this

theorem H_eq (b : List (BitVec 8)) : numsTo (cb1 b) 8 (zeros 64 8) = refH b 8 := by
  obtain ⟨h1, h2⟩ := setTo_at (f := fun i => numF (subL b (4 + 8 * i) (213 - (4 + 8 * i))) 8) (N := 8) 8 (Nat.le_refl _)
  apply ext_getD
  · rw [numsTo_len]; simp only [refH]; rw [h1]; simp [zeros]
  · intro j
    simp only [refH]
    rw [h2, numsTo_at 8 (Nat.le_refl _)]
    by_cases hj : j < 8
    · rw [if_pos hj, if_pos hj, numF_w8, cb1, w8_sub (by omega), w8_sub (by omega)]; rfl
    · rw [if_neg hj, if_neg hj]
theorem w8_cb2 (b : List (BitVec 8)) {j : Nat} (h : j + 8 ≤ 145) : w8 (cb2 b) j = w8 b (68 + j) := by
  rw [cb2, w8_sub h, cb1, w8_sub (by omega)]; congr 1; omega
theorem w8_cb3 (b : List (BitVec 8)) {j : Nat} (h : j + 8 ≤ 17) : w8 (cb3 b) j = w8 b (196 + j) := by
  rw [cb3, w8_sub h, w8_cb2 b (by omega)]; congr 1; omega
theorem M_eq (b : List (BitVec 8)) : numsTo (cb2 b) 16 (zeros 64 16) = refM b 16 := by
  obtain ⟨h1, h2⟩ := setTo_at (f := fun i => numF (subL b (68 + 8 * i) (213 - (68 + 8 * i))) 8) (N := 16) 16 (Nat.le_refl _)
  apply ext_getD
  · rw [numsTo_len]; simp only [refM]; rw [h1]; simp [zeros]
  · intro j
    simp only [refM]
    rw [h2, numsTo_at 16 (Nat.le_refl _)]
    by_cases hj : j < 16
    · rw [if_pos hj, if_pos hj, numF_w8, w8_cb2 b (by omega), w8_sub (by omega)]; rfl
    · rw [if_neg hj, if_neg hj]
theorem T_eq (b : List (BitVec 8)) : numsTo (cb3 b) 2 (zeros 64 2) = refT b := by
  have e : refT b = [numF (subL b 196 (213 - 196)) 8, numF (subL b 204 (213 - 204)) 8] := rfl
  rw [e]
  apply ext_getD
  · rw [numsTo_len]; rfl
  · intro j
    rw [numsTo_at 2 (Nat.le_refl _)]
    match j with
    | 0 => simp only [List.getD_cons_zero]; rw [if_pos (by decide), numF_w8, w8_cb3 b (by omega), w8_sub (by omega)]
    | 1 => simp only [List.getD_cons_succ, List.getD_cons_zero]; rw [if_pos (by decide), numF_w8, w8_cb3 b (by omega), w8_sub (by omega)]
    | j + 2 => rw [if_neg (by omega)]; simp
theorem last_eq (b : List (BitVec 8)) : (cb4 b).getD 0 0 = b.getD 212 0 := by
  unfold cb4 cb3 cb2 cb1
  rw [subL_at (by omega), subL_at (by omega), subL_at (by omega), subL_at (by omega)]
theorem H2_eq (b : List (BitVec 8)) : blakeH2 b = refH2 b := by
  unfold blakeH2 refH2
  rw [H_eq, M_eq, T_eq, last_eq, F_eq]
  rw [← H_eq, numsTo_len]; rfl

theorem bytes_eq (H : List (BitVec 64)) : bytesTo H 8 = refBytes H 64 := by
  have key : ∀ i k, k ≤ 8 → bytesIn H i k (refBytes H (8 * i)) = refBytes H (8 * i + k) := by
    intro i k
    induction k with
    | zero => intro _; rfl
    | succ k ih =>
      intro hk
      have e0 : bytesIn H i (k + 1) (refBytes H (8 * i)) = bytesIn H i k (refBytes H (8 * i)) ++ [BitVec.setWidth 8 (H.getD i 0 >>> (8 * (k : Int)).toNat)] := rfl
      have e1 : refBytes H (8 * i + (k + 1)) = refBytes H (8 * i + k) ++ [BitVec.setWidth 8 (H.getD (((8 * i + k : Nat) : Int) / 8).toNat 0 >>> (BitVec.ofInt 64 (8 * (((8 * i + k : Nat) : Int) % 8))).toNat)] := rfl
      rw [e0, e1, ih (by omega)]
      have e2 : (((8 * i + k : Nat) : Int) / 8).toNat = i := by omega
      have e3 : (8 * (((8 * i + k : Nat) : Int) % 8)) = ((8 * k : Nat) : Int) := by omega
      have e4 : (BitVec.ofInt 64 ((8 * k : Nat) : Int)).toNat = 8 * k := by
        rw [BitVec.toNat_ofInt]
        omega
      have e5 : (8 * (k : Int)).toNat = 8 * k := by omega
      rw [e2, e3, e4, e5]
  have all : ∀ i, bytesTo H i = refBytes H (8 * i) := by
    intro i
    induction i with
    | zero => rfl
    | succ i ih =>
      have : bytesTo H (i + 1) = bytesIn H i 8 (bytesTo H i) := by rw [bytesTo, itN_succ]; rfl
      rw [this, ih, key i 8 (Nat.le_refl _)]
      rfl
  exact all 8

theorem call_eq (b : List (BitVec 8)) : bytesTo (blakeH2 b) 8 = refBytes (refH2 b) 64 := by rw [H2_eq, bytes_eq]
end Go.Vm.C06
