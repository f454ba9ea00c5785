/- What some functions of the program compute, walked through once. -/
import Derived.Test.YtioffpklmlmhcaaDoorCJ
namespace Go.Vm.C03
open Go Go.Proofs
set_option linter.unusedVariables false
set_option linter.unusedSimpArgs false
set_option maxRecDepth 100000
set_option maxHeartbeats 8000000

/-! ### the hash is the document's -/
theorem set_getD_self {α : Type} (l : List α) (i : Nat) (d : α) : l.set i (l.getD i d) = l := by
  refine List.ext_getElem? fun j => ?_
  rw [List.getElem?_set]
  by_cases e : i = j
  · subst e
    rw [if_pos rfl]
    by_cases h : i < l.length
    · rw [if_pos h, List.getD_eq_getElem?_getD, List.getElem?_eq_getElem h]; rfl
    · rw [if_neg h, List.getElem?_eq_none (by omega)]
  · rw [if_neg e]
theorem getD_set_self {α : Type} (l : List α) (i : Nat) (x d : α) (h : i < l.length) : (l.set i x).getD i d = x := by
  rw [List.getD_eq_getElem?_getD, List.getElem?_set_self h]; rfl
theorem putF_zero (s : List (BitVec 64)) (a : Nat) : putF s a 0#8 = s := by
  have e : BitVec.setWidth 64 (0#8) <<< (8 * (a % 8)) = 0#64 := by
    rw [show BitVec.setWidth 64 (0#8) = 0#64 from rfl, BitVec.zero_shiftLeft]
  unfold putF
  rw [e, BitVec.xor_zero, set_getD_self]
theorem putF_two (s : List (BitVec 64)) (a : Nat) (x y : BitVec 8) (h : a / 8 < s.length) : putF (putF s a x) a y = putF s a (x ^^^ y) := by
  unfold putF
  rw [getD_set_self _ _ _ _ h, List.set_set, BitVec.setWidth_xor, BitVec.shiftLeft_xor_distrib, BitVec.xor_assoc]

theorem absB_eq (m : List (BitVec 8)) (i : Nat) (p : List (BitVec 64) × Nat) (hl : p.1.length = 25) (hn : p.2 = i % 136) : takeB p (m.getD i 0) = (absB m i p.1, (i + 1) % 136) := by
  unfold takeB absB
  rw [hn]
  by_cases h : i % 136 = 135
  · rw [if_pos (by omega), if_pos h, perm_eq _ (by rw [putF_len, hl])]
    have : (i + 1) % 136 = 0 := by omega
    rw [this]
  · rw [if_neg (by omega), if_neg h]
    have : (i + 1) % 136 = i % 136 + 1 := by omega
    rw [this]
theorem takes_abs (m : List (BitVec 8)) (k : Nat) : takes m k (zeros 64 25, 0) = (absF m k, k % 136) ∧ (absF m k).length = 25 := by
  induction k with
  | zero => exact ⟨rfl, rfl⟩
  | succ k ih =>
    have e : takes m (k + 1) (zeros 64 25, 0) = takeB (takes m k (zeros 64 25, 0)) (m.getD k 0) := by rw [takes, itN_succ]; rfl
    have e2 : absF m (k + 1) = absB m k (absF m k) := by rw [absF, itN_succ]; rfl
    have e3 := absB_eq m k (absF m k, k % 136) ih.2 rfl
    refine ⟨by rw [e, ih.1, e3, e2], ?_⟩
    have := (takeB_ok (p := (absF m k, k % 136)) (x := m.getD k 0) ⟨ih.2, Nat.mod_lt _ (by omega)⟩).1
    rw [e3] at this
    rw [e2]
    exact this
theorem absF_congr (m b : List (BitVec 8)) (k : Nat) (h : ∀ i, i < k → m.getD i 0 = b.getD i 0) : absF m k = absF b k := by
  unfold absF
  refine itN_congr k fun i s hi => ?_
  unfold absB
  rw [h i hi]

theorem padM_old (b : List (BitVec 8)) (k i : Nat) (h : i < b.length) : (padM b k).getD i 0 = b.getD i 0 := by
  induction k with
  | zero => show (b ++ [1#8]).getD i 0 = _; simp [List.getD_eq_getElem?_getD, List.getElem?_append_left h]
  | succ k ih =>
    show (padM b k ++ [0#8]).getD i 0 = _
    rw [List.getD_eq_getElem?_getD, List.getElem?_append_left (by rw [padM_len]; omega), ← List.getD_eq_getElem?_getD, ih]
theorem padM_one (b : List (BitVec 8)) (k : Nat) : (padM b k).getD b.length 0 = 1#8 := by
  induction k with
  | zero => show (b ++ [1#8]).getD b.length 0 = _; simp [List.getD_eq_getElem?_getD]
  | succ k ih =>
    show (padM b k ++ [0#8]).getD b.length 0 = _
    rw [List.getD_eq_getElem?_getD, List.getElem?_append_left (by rw [padM_len]; omega), ← List.getD_eq_getElem?_getD, ih]
theorem padM_nought (b : List (BitVec 8)) (k i : Nat) (h : b.length < i) : (padM b k).getD i 0 = 0#8 := by
  induction k with
  | zero =>
    show (b ++ [1#8]).getD i 0 = _
    rw [List.getD_eq_getElem?_getD, List.getElem?_eq_none (by simp; omega)]; rfl
  | succ k ih =>
    show (padM b k ++ [0#8]).getD i 0 = _
    by_cases hi : i < (padM b k).length
    · rw [List.getD_eq_getElem?_getD, List.getElem?_append_left hi, ← List.getD_eq_getElem?_getD, ih]
    · rw [List.getD_eq_getElem?_getD, List.getElem?_append_right (by omega)]
      cases i - (padM b k).length <;> rfl

theorem getD_set_other {α : Type} (l : List α) (i j : Nat) (x d : α) (h : i ≠ j) : (l.set i x).getD j d = l.getD j d := by
  rw [List.getD_eq_getElem?_getD, List.getElem?_set_ne h, ← List.getD_eq_getElem?_getD]

/-- noughts change nothing -/
theorem abs_noughts (m : List (BitVec 8)) (i : Nat) : ∀ k, (∀ j, i ≤ j → j < i + k → m.getD j 0 = 0#8 ∧ j % 136 ≠ 135) → absF m (i + k) = absF m i
  | 0, _ => rfl
  | k + 1, h => by
    have e2 : absF m (i + k + 1) = absB m (i + k) (absF m (i + k)) := by rw [absF, itN_succ]; rfl
    obtain ⟨h1, h2⟩ := h (i + k) (by omega) (by omega)
    rw [show i + (k + 1) = i + k + 1 by omega, e2]
    unfold absB
    rw [if_neg h2, h1, putF_zero]
    exact abs_noughts m i k fun j a b => h j a (by omega)

theorem refSum_eq (b : List (BitVec 8)) : refSumF b = sumF b := by
  have hh : ∀ s k, refHash s k = hOut s k := fun _ _ => rfl
  obtain ⟨ht, hl⟩ := takes_abs b b.length
  unfold refSumF sumF hashF
  rw [ht, hh]
  dsimp only
  refine congrArg (fun s => hOut s 32) ?_
  generalize hK : padK b.length = K
  have hKe : K = (136 - (b.length + 1) % 136) % 136 := hK.symm
  have hm : msgF b = (padM b K).set (b.length + K) ((padM b K).getD (b.length + K) 0 ^^^ 128#8) := by
    unfold msgF
    rw [hK, padM_len, show b.length + 1 + K - 1 = b.length + K by omega]
  have hlen : (msgF b).length = b.length + K + 1 := by rw [hm, List.length_set, padM_len]; omega
  rw [hlen]
  have e1 : absF (msgF b) b.length = absF b b.length := absF_congr _ _ _ fun i hi => by
    rw [hm, getD_set_other _ _ _ _ _ (by omega), padM_old _ _ _ hi]
  have step : ∀ k, absF (msgF b) (k + 1) = absB (msgF b) k (absF (msgF b) k) := fun k => by rw [absF, itN_succ]; rfl
  have hlast : (msgF b).getD (b.length + K) 0 = (padM b K).getD (b.length + K) 0 ^^^ 128#8 := by
    rw [hm, getD_set_self _ _ _ _ (by rw [padM_len]; omega)]
  have hmod : (b.length + K) % 136 = 135 := by omega
  have pl : (absF b b.length).length = 25 := hl
  by_cases h0 : K = 0
  · subst h0
    rw [Nat.add_zero] at hlast hmod ⊢
    rw [step, e1]
    unfold absB
    rw [if_pos hmod, hmod, hlast, padM_one, perm_eq _ (by rw [putF_len, hl]), putF_two _ _ _ _ (by rw [hl]; decide)]
  · have hlt : b.length % 136 ≠ 135 := by omega
    have e2 : absF (msgF b) (b.length + 1) = putF (absF b b.length) (b.length % 136) 1#8 := by
      rw [step, e1]
      unfold absB
      rw [if_neg hlt, hm, getD_set_other _ _ _ _ _ (by omega), padM_one]
    have e3 := abs_noughts (msgF b) (b.length + 1) (K - 1) fun j a c => by
      refine ⟨?_, by omega⟩
      rw [hm, getD_set_other _ _ _ _ _ (by omega), padM_nought _ _ _ (by omega)]
    rw [show b.length + 1 + (K - 1) = b.length + K by omega, e2] at e3
    rw [step, e3]
    unfold absB
    rw [if_pos hmod, hmod, hlast, padM_nought _ _ _ (by omega), perm_eq _ (by rw [putF_len, putF_len, hl]), BitVec.zero_xor]

/-! ### parts -/
theorem takes_zero (c : List (BitVec 8)) (p : List (BitVec 64) × Nat) : takes c 0 p = p := rfl
theorem takes_add (b c : List (BitVec 8)) (p : List (BitVec 64) × Nat) : takes (b ++ c) (b ++ c).length p = takes c c.length (takes b b.length p) := by
  have h1 : ∀ k, k ≤ b.length → takes (b ++ c) k p = takes b k p := fun k hk => itN_congr k fun i s hi => by
    rw [List.getD_eq_getElem?_getD, List.getElem?_append_left (by omega), ← List.getD_eq_getElem?_getD]
  have h2 : ∀ k, takes (b ++ c) (b.length + k) p = takes c k (takes b b.length p) := by
    intro k
    induction k with
    | zero =>
      rw [takes_zero]
      exact h1 b.length (Nat.le_refl _)
    | succ k ih =>
      have e : takes (b ++ c) (b.length + k + 1) p = takeB (takes (b ++ c) (b.length + k) p) ((b ++ c).getD (b.length + k) 0) := by rw [takes, itN_succ]; rfl
      have e2 : takes c (k + 1) (takes b b.length p) = takeB (takes c k (takes b b.length p)) (c.getD k 0) := by rw [takes, itN_succ]; rfl
      rw [show b.length + (k + 1) = b.length + k + 1 by omega, e, e2, ih]
      rw [List.getD_eq_getElem?_getD, List.getElem?_append_right (by omega), show b.length + k - b.length = k by omega, ← List.getD_eq_getElem?_getD]
  rw [List.length_append]
  exact h2 c.length
end Go.Vm.C03
