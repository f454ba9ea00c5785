/- What some functions of the program compute, walked through once. -/
import Derived.Test.YthjgpkaamgoodaaCDC
namespace Go.Vm.C01
open Go Go.Proofs
set_option linter.unusedVariables false
set_option linter.unusedSimpArgs false
set_option maxRecDepth 100000
set_option maxHeartbeats 8000000

/-! ### texts of digits -/
def isD (x : BitVec 8) : Bool := decide (48 ≤ x.toNat) && decide (x.toNat ≤ 57)
def dv (s : List (BitVec 8)) : Nat → Nat
  | 0 => 0
  | k + 1 => dv s k * 10 + ((s.getD k 0).toNat - 48)
def allD (s : List (BitVec 8)) : Nat → Bool
  | 0 => true
  | k + 1 => allD s k && isD (s.getD k 0)
def headOK (s : List (BitVec 8)) : Bool := decide (1 ≤ s.length) && (decide (s.length ≤ 78) && !(decide (1 < s.length) && decide (s.getD 0 0 = 48#8)))
def okF (s : List (BitVec 8)) : Bool := headOK s && allD s s.length
def parW (s : List (BitVec 8)) : List (BitVec 64) := if okF s = true then (if B256 ≤ dv s s.length then zeros 64 4 else wOf (dv s s.length)) else zeros 64 4
def parE (s : List (BitVec 8)) : Int := if okF s = true then (if B256 ≤ dv s s.length then 2 else 0) else 4
theorem allD_le {s : List (BitVec 8)} : ∀ {n k : Nat}, allD s n = true → k ≤ n → allD s k = true
  | 0, k, h, hk => by rw [show k = 0 from by omega]; rfl
  | n + 1, k, h, hk => by
    have e : allD s (n + 1) = (allD s n && isD (s.getD n 0)) := rfl
    rw [e, Bool.and_eq_true] at h
    by_cases h2 : k = n + 1
    · rw [h2, e, h.1, h.2]; rfl
    · exact allD_le h.1 (by omega)
theorem allD_no {s : List (BitVec 8)} {n i : Nat} (h : isD (s.getD i 0) = false) (hi : i < n) : allD s n = false := by
  cases hx : allD s n with
  | false => rfl
  | true =>
    have := allD_le hx (show i + 1 ≤ n by omega)
    have e : allD s (i + 1) = (allD s i && isD (s.getD i 0)) := rfl
    rw [e, h] at this
    cases h2 : allD s i <;> rw [h2] at this <;> cases this
theorem dv_lt {s : List (BitVec 8)} : ∀ {n : Nat}, allD s n = true → dv s n < 10 ^ n
  | 0, _ => by show 0 < 1; decide
  | n + 1, h => by
    have e : allD s (n + 1) = (allD s n && isD (s.getD n 0)) := rfl
    rw [e, Bool.and_eq_true] at h
    have ih := dv_lt h.1
    have h2 := h.2
    unfold isD at h2
    rw [Bool.and_eq_true, decide_eq_true_eq, decide_eq_true_eq] at h2
    show dv s n * 10 + ((s.getD n 0).toNat - 48) < 10 ^ (n + 1)
    rw [Nat.pow_succ]
    omega
theorem dv_snoc (s : List (BitVec 8)) (d : BitVec 8) : ∀ k, k ≤ s.length → dv (s ++ [d]) k = dv s k
  | 0, _ => rfl
  | k + 1, h => by
    show dv (s ++ [d]) k * 10 + (((s ++ [d]).getD k 0).toNat - 48) = dv s k * 10 + ((s.getD k 0).toNat - 48)
    rw [dv_snoc s d k (by omega), getD_append_left _ _ _ _ (by omega)]
theorem allD_snoc (s : List (BitVec 8)) (d : BitVec 8) : ∀ k, k ≤ s.length → allD (s ++ [d]) k = allD s k
  | 0, _ => rfl
  | k + 1, h => by
    show (allD (s ++ [d]) k && isD ((s ++ [d]).getD k 0)) = (allD s k && isD (s.getD k 0))
    rw [allD_snoc s d k (by omega), getD_append_left _ _ _ _ (by omega)]
theorem dg_num (x : Nat) : (dgU x).toNat = 48 + x % 10 := by
  unfold dgU
  rw [BitVec.toNat_ofNat]
  omega
/-- what is known of the digits of a number -/
theorem dec_facts : ∀ f x, x < 10 ^ f → (0 < f) → allD (decR f x).reverse (decR f x).length = true ∧ dv (decR f x).reverse (decR f x).length = x ∧ 1 ≤ (decR f x).length ∧ (0 < x → (decR f x).reverse.getD 0 0 ≠ 48#8) ∧ (x = 0 → (decR f x).length = 1) ∧ (∀ m, 0 < m → x < 10 ^ m → (decR f x).length ≤ m)
  | 0, x, _, h => absurd h (by omega)
  | f + 1, x, hx, _ => by
    have hd := dg_num x
    by_cases h : x / 10 = 0
    · have e : decR (f + 1) x = [dgU x] := by
        show dgU x :: (if x / 10 = 0 then [] else decR f (x / 10)) = _
        rw [if_pos h]
      rw [e]
      refine ⟨?_, ?_, Nat.le_refl _, ?_, fun _ => rfl, fun m hm _ => hm⟩
      · show (true && isD (dgU x)) = true
        unfold isD
        rw [hd, decide_eq_true (by omega), decide_eq_true (by omega)]
        rfl
      · show 0 * 10 + ((dgU x).toNat - 48) = x
        rw [hd]
        omega
      · intro hx0 he
        have he2 : dgU x = 48#8 := he
        have := congrArg BitVec.toNat he2
        rw [hd] at this
        have h48 : (48#8).toNat = 48 := rfl
        omega
    · have hf : 0 < f := by
        cases f with
        | zero => rw [Nat.pow_one] at hx; omega
        | succ f => omega
      have hx2 : x / 10 < 10 ^ f := by
        rw [Nat.div_lt_iff_lt_mul (by omega)]
        rw [Nat.pow_succ] at hx
        exact hx
      obtain ⟨i1, i2, i3, i4, i5, i6⟩ := dec_facts f (x / 10) hx2 hf
      have e : decR (f + 1) x = dgU x :: decR f (x / 10) := by
        show dgU x :: (if x / 10 = 0 then [] else decR f (x / 10)) = _
        rw [if_neg h]
      rw [e]
      have er : (dgU x :: decR f (x / 10)).reverse = (decR f (x / 10)).reverse ++ [dgU x] := by rw [List.reverse_cons]
      have el : (dgU x :: decR f (x / 10)).length = (decR f (x / 10)).length + 1 := rfl
      rw [er, el]
      generalize hr : decR f (x / 10) = r at *
      have hlr : r.reverse.length = r.length := List.length_reverse
      have hg : (r.reverse ++ [dgU x]).getD r.length 0 = dgU x := by
        rw [getD_append_right _ _ _ _ (by omega), hlr, Nat.sub_self]
        rfl
      refine ⟨?_, ?_, by omega, ?_, fun h0 => absurd h0 (by omega), ?_⟩
      · show (allD (r.reverse ++ [dgU x]) r.length && isD ((r.reverse ++ [dgU x]).getD r.length 0)) = true
        rw [allD_snoc _ _ _ (by omega), i1, hg]
        unfold isD
        rw [hd, decide_eq_true (by omega), decide_eq_true (by omega)]
        rfl
      · show dv (r.reverse ++ [dgU x]) r.length * 10 + (((r.reverse ++ [dgU x]).getD r.length 0).toNat - 48) = x
        rw [dv_snoc _ _ _ (by omega), i2, hg, hd]
        omega
      · intro _
        rw [getD_append_left _ _ _ _ (by omega)]
        exact i4 (by omega)
      · intro m hm hxm
        obtain ⟨k, rfl⟩ : ∃ k, m = k + 1 := ⟨m - 1, by omega⟩
        have hk : 0 < k := by
          cases k with
          | zero => rw [Nat.zero_add, Nat.pow_one] at hxm; omega
          | succ k => omega
        have := i6 k hk (by
          rw [Nat.div_lt_iff_lt_mul (by omega)]
          rw [Nat.pow_succ] at hxm
          exact hxm)
        omega
theorem pow78 : B256 ≤ 10 ^ 78 := by decide
theorem dec_ok {x : Nat} (hx : x < B256) : okF (decD x) = true ∧ dv (decD x) (decD x).length = x := by
  obtain ⟨h1, h2, h3, h4, h5, h6⟩ := dec_facts 80 x (Nat.lt_trans hx pow80) (by omega)
  have h7 := h6 78 (by omega) (Nat.lt_of_lt_of_le hx pow78)
  have hl : (decD x).length = (decR 80 x).length := List.length_reverse
  rw [hl]
  refine ⟨?_, h2⟩
  have hD : decD x = (decR 80 x).reverse := rfl
  unfold okF headOK
  rw [hl, hD, h1]
  rw [decide_eq_true h3, decide_eq_true h7]
  by_cases h0 : x = 0
  · rw [h5 h0]
    rfl
  · have hn := h4 (by omega)
    have : decide ((decR 80 x).reverse.getD 0 0 = 48#8) = false := decide_eq_false hn
    rw [this]
    cases decide (1 < (decR 80 x).length) <;> rfl
theorem par_dec {x : Nat} (hx : x < B256) : parW (decD x) = wOf x ∧ parE (decD x) = 0 := by
  obtain ⟨h1, h2⟩ := dec_ok hx
  unfold parW parE
  rw [h1, h2, if_pos rfl, if_pos rfl, if_neg (by omega), if_neg (by omega)]
  exact ⟨rfl, rfl⟩
end Go.Vm.C01
