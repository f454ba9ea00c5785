/- What some functions of the program compute, walked through once. -/
import Derived.Test.YthjgpkaamgoodaaCCJ
namespace Go.Vm.C01
open Go Go.Proofs
set_option linter.unusedVariables false
set_option linter.unusedSimpArgs false
set_option maxRecDepth 100000
set_option maxHeartbeats 8000000

/-! ### equal but for 2^256 -/
def cg (x y : Int) : Prop := ∃ k : Int, x = y + 115792089237316195423570985008687907853269984665640564039457584007913129639936 * k
theorem cg_refl (x : Int) : cg x x := ⟨0, by omega⟩
theorem cg_trans {x y z : Int} (h1 : cg x y) (h2 : cg y z) : cg x z := by
  obtain ⟨k, rfl⟩ := h1
  obtain ⟨l, rfl⟩ := h2
  exact ⟨k + l, by omega⟩
theorem cg_symm {x y : Int} (h1 : cg x y) : cg y x := by
  obtain ⟨k, rfl⟩ := h1
  exact ⟨-k, by omega⟩
theorem cg_add {x y x' y' : Int} (h1 : cg x x') (h2 : cg y y') : cg (x + y) (x' + y') := by
  obtain ⟨k, rfl⟩ := h1
  obtain ⟨l, rfl⟩ := h2
  exact ⟨k + l, by omega⟩
theorem cg_mul {x y x' y' : Int} (h1 : cg x x') (h2 : cg y y') : cg (x * y) (x' * y') := by
  obtain ⟨k, hk⟩ := h1
  obtain ⟨l, hl⟩ := h2
  refine ⟨x' * l + k * y, ?_⟩
  have e1 : x * y = x' * y + 115792089237316195423570985008687907853269984665640564039457584007913129639936 * (k * y) := by rw [hk, Int.add_mul, Int.mul_assoc]
  have e2 : x' * y = x' * y' + 115792089237316195423570985008687907853269984665640564039457584007913129639936 * (x' * l) := by
    rw [hl, Int.mul_add, Int.mul_left_comm]
  rw [e1, e2]
  omega
theorem cg_wOf (n : Nat) : cg (wv (wOf n) : Nat) (n : Nat) := by
  rw [wv_wOf]
  refine ⟨-((n / B256 : Nat) : Int), ?_⟩
  have := Nat.div_add_mod n B256
  unfold B256 at *
  omega
theorem wOf_cg {m n : Nat} (h : cg (m : Nat) (n : Nat)) : wOf m = wOf n := by
  obtain ⟨k, hk⟩ := h
  refine wOf_eq ?_
  unfold B256
  omega
theorem cg_neg {n : Nat} (h : n ≤ B256) : cg ((B256 - n : Nat) : Int) (-(n : Int)) := ⟨1, by unfold B256 at *; omega⟩
theorem plF_val (a : List (BitVec 64)) : wv (plF a) = if H255 ≤ wv a then B256 - wv a else wv a := by
  have h1 := wv_lt a
  unfold plF
  by_cases h : H255 ≤ wv a
  · rw [if_pos h, if_pos h, wv_wOf, Nat.mod_eq_of_lt (by unfold H255 B256 at *; omega)]
  · rw [if_neg h, if_neg h]
theorem plF_zero {a : List (BitVec 64)} (h : wv (plF a) = 0) : wv a = 0 := by
  have h1 := wv_lt a
  rw [plF_val] at h
  by_cases h2 : H255 ≤ wv a
  · rw [if_pos h2] at h; omega
  · rw [if_neg h2] at h; exact h
theorem sgn_yes {a : List (BitVec 64)} (h : H255 ≤ wv a) : cg (wv a : Nat) (-((wv (plF a) : Nat) : Int)) := by
  have h1 := wv_lt a
  rw [plF_val, if_pos h]
  exact ⟨1, by unfold B256 at *; omega⟩
theorem sgn_no {a : List (BitVec 64)} (h : ¬ H255 ≤ wv a) : wv (plF a) = wv a := by rw [plF_val, if_neg h]
theorem back_u (a b : List (BitVec 64)) (la : a.length = 4) (hb : ¬ wv b = 0) : wOf (wv (wOf (wv (wOf (wv a / wv b)) * wv b)) + wv (wOf (wmod (wv a) (wv b)))) = a := by
  have h1 := wv_lt a
  have hM : wmod (wv a) (wv b) = wv a % wv b := if_neg hb
  have h2 := Nat.div_add_mod' (wv a) (wv b)
  rw [hM]
  have e : wOf (wv (wOf (wv (wOf (wv a / wv b)) * wv b)) + wv (wOf (wv a % wv b))) = wOf (wv a / wv b * wv b + wv a % wv b) := by
    refine wOf_cg ?_
    rw [Int.natCast_add, Int.natCast_add]
    refine cg_add (cg_trans (cg_wOf _) ?_) (cg_wOf _)
    rw [Int.natCast_mul, Int.natCast_mul]
    exact cg_mul (cg_wOf _) (cg_refl _)
  rw [e, h2, wOf_wv a la]
theorem back_s (a b : List (BitVec 64)) (la : a.length = 4) (hb : ¬ wv b = 0) : wOf (wv (wOf (wv (sdF a b) * wv b)) + wv (smF a b)) = a := by
  have h1 := wv_lt (plF a)
  have hb2 : ¬ wv (plF b) = 0 := fun c => hb (plF_zero c)
  have hM : wmod (wv (plF a)) (wv (plF b)) = wv (plF a) % wv (plF b) := if_neg hb2
  have h2 := Nat.div_add_mod' (wv (plF a)) (wv (plF b))
  have hQ := Nat.div_le_self (wv (plF a)) (wv (plF b))
  have hR := Nat.mod_le (wv (plF a)) (wv (plF b))
  have key : ∀ S T Bi : Int, cg (wv (sdF a b) : Nat) S → cg (wv (smF a b) : Nat) T → cg (wv b : Nat) Bi → cg (S * Bi + T) (wv a : Nat) → wOf (wv (wOf (wv (sdF a b) * wv b)) + wv (smF a b)) = a := by
    intro S T Bi hS hT hB h
    have e : wOf (wv (wOf (wv (sdF a b) * wv b)) + wv (smF a b)) = wOf (wv a) := by
      refine wOf_cg ?_
      rw [Int.natCast_add]
      refine cg_trans (cg_add (cg_trans (cg_wOf _) ?_) hT) h
      rw [Int.natCast_mul]
      exact cg_mul hS hB
    rw [e, wOf_wv a la]
  have hS : sdF a b = if decide (H255 ≤ wv a) = decide (H255 ≤ wv b) then wOf (wv (plF a) / wv (plF b)) else wOf (B256 - wv (wOf (wv (plF a) / wv (plF b)))) := rfl
  have hT : smF a b = if decide (H255 ≤ wv a) = true then wOf (B256 - wv (wOf (wmod (wv (plF a)) (wv (plF b))))) else wOf (wmod (wv (plF a)) (wv (plF b))) := rfl
  rw [hM] at hT
  have wQ : wv (wOf (wv (plF a) / wv (plF b))) = wv (plF a) / wv (plF b) := by rw [wv_wOf]; exact Nat.mod_eq_of_lt (by omega)
  have wR : wv (wOf (wv (plF a) % wv (plF b))) = wv (plF a) % wv (plF b) := by rw [wv_wOf]; exact Nat.mod_eq_of_lt (by omega)
  rw [wQ] at hS
  rw [wR] at hT
  have ha1 := @sgn_yes a
  have ha2 := @sgn_no a
  have hb1 := @sgn_yes b
  have hb3 := @sgn_no b
  generalize wv (plF a) = A at *
  generalize wv (plF b) = D at *
  generalize hq : A / D = Q at *
  generalize hr : A % D = R at *
  have hA : (A : Int) = (Q : Int) * (D : Int) + (R : Int) := by rw [← h2, Int.natCast_add, Int.natCast_mul]
  by_cases na : H255 ≤ wv a
  · rw [decide_eq_true na] at hS hT
    rw [if_pos rfl] at hT
    have cT : cg (wv (smF a b) : Nat) (-(R : Int)) := by rw [hT]; exact cg_trans (cg_wOf _) (cg_neg (by omega))
    have cA := cg_symm (ha1 na)
    by_cases nb : H255 ≤ wv b
    · rw [decide_eq_true nb, if_pos rfl] at hS
      have cS : cg (wv (sdF a b) : Nat) (Q : Int) := by rw [hS]; exact cg_wOf _
      refine key _ _ _ cS cT (hb1 nb) ?_
      rw [show (Q : Int) * -(D : Int) + -(R : Int) = -(A : Int) from by rw [hA, Int.mul_neg, Int.neg_add]]
      exact cA
    · rw [decide_eq_false nb, if_neg (by decide)] at hS
      have cS : cg (wv (sdF a b) : Nat) (-(Q : Int)) := by rw [hS]; exact cg_trans (cg_wOf _) (cg_neg (by omega))
      refine key _ _ (D : Int) cS cT (by rw [← hb3 nb]; exact cg_refl _) ?_
      rw [show -(Q : Int) * (D : Int) + -(R : Int) = -(A : Int) from by rw [hA, Int.neg_mul, Int.neg_add]]
      exact cA
  · rw [decide_eq_false na] at hS hT
    rw [if_neg (by decide)] at hT
    have cT : cg (wv (smF a b) : Nat) (R : Int) := by rw [hT]; exact cg_wOf _
    have cA : cg (A : Int) (wv a : Nat) := by rw [ha2 na]; exact cg_refl _
    by_cases nb : H255 ≤ wv b
    · rw [decide_eq_true nb, if_neg (by decide)] at hS
      have cS : cg (wv (sdF a b) : Nat) (-(Q : Int)) := by rw [hS]; exact cg_trans (cg_wOf _) (cg_neg (by omega))
      refine key _ _ _ cS cT (hb1 nb) ?_
      rw [show -(Q : Int) * -(D : Int) + (R : Int) = (A : Int) from by rw [hA, Int.neg_mul_neg]]
      exact cA
    · rw [decide_eq_false nb, if_pos rfl] at hS
      have cS : cg (wv (sdF a b) : Nat) (Q : Int) := by rw [hS]; exact cg_wOf _
      refine key _ _ (D : Int) cS cT (by rw [← hb3 nb]; exact cg_refl _) ?_
      rw [← hA]
      exact cA
theorem sd_zero {a b : List (BitVec 64)} (hb : wv b = 0) : sdF a b = zeros 64 4 ∧ smF a b = zeros 64 4 := by
  have hp : wv (plF b) = 0 := by rw [plF_val, hb]; rfl
  have hM : wmod (wv (plF a)) (wv (plF b)) = 0 := if_pos hp
  unfold sdF smF
  rw [hM, hp, Nat.div_zero]
  constructor
  · split <;> decide
  · split <;> decide
end Go.Vm.C01
