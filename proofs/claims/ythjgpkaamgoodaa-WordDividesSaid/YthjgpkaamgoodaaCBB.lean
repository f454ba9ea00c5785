/- What some functions of the program compute, walked through once. -/
import Derived.Test.YthjgpkaamgoodaaCBA
import Derived.Test.YthjgpkaamgoodaaVd
namespace Go.Vm.C01
open Go Go.Proofs
set_option linter.unusedVariables false
set_option linter.unusedSimpArgs false
set_option maxRecDepth 100000
set_option maxHeartbeats 8000000

/-! ### shifts: the program -/
def atF (a : List (BitVec 64)) (x : BitVec 64) (k : Nat) : BitVec 64 := if 4 ≤ k then x else a.getD k 0
theorem atF_get {a : List (BitVec 64)} {x : BitVec 64} {s : Bool} (hx : ∀ j, j < 64 → x.getLsbD j = s) (k j : Nat) (hj : j < 64) : (atF a x k).getLsbD j = if 64 * k + j < 256 then bitAt a (64 * k + j) else s := by
  unfold atF
  by_cases h : 4 ≤ k
  · rw [if_pos h, if_neg (by omega)]; exact hx j hj
  · rw [if_neg h, if_pos (by omega), bitAt_at _ _ _ hj]
theorem shr_step {a : List (BitVec 64)} {x : BitVec 64} {s : Bool} (hx : ∀ j, j < 64 → x.getLsbD j = s) (n i t : Nat) (ht : t < 64) :
    (atF a x (i + n / 64) >>> (n % 64) ||| atF a x (i + n / 64 + 1) <<< (64 - n % 64)).getLsbD t = shrB a n s (64 * i + t) := by
  rw [BitVec.getLsbD_or, BitVec.getLsbD_ushiftRight, BitVec.getLsbD_shiftLeft]
  unfold shrB
  by_cases h : n % 64 + t < 64
  · have h1 : t < 64 - n % 64 := by omega
    rw [atF_get hx _ _ h]
    have e : 64 * (i + n / 64) + (n % 64 + t) = 64 * i + t + n := by omega
    rw [e]
    simp [h1]
  · have h1 : ¬ t < 64 - n % 64 := by omega
    have h2 : t - (64 - n % 64) < 64 := by omega
    rw [BitVec.getLsbD_of_ge _ _ (by omega), atF_get hx _ _ h2]
    have e : 64 * (i + n / 64 + 1) + (t - (64 - n % 64)) = 64 * i + t + n := by omega
    rw [e]
    simp [h1, ht]
theorem shl_step0 (a : List (BitVec 64)) (n t : Nat) (ht : t < 64) : (a.getD 0 0 <<< (n % 64)).getLsbD t = shlB a n (64 * (n / 64) + t) := by
  rw [BitVec.getLsbD_shiftLeft]
  unfold shlB
  by_cases h : t < n % 64
  · have h1 : ¬ n ≤ 64 * (n / 64) + t := by omega
    simp [h, h1]
  · have h1 : n ≤ 64 * (n / 64) + t := by omega
    have e : 64 * (n / 64) + t - n = 64 * 0 + (t - n % 64) := by omega
    rw [e, bitAt_at _ _ _ (by omega)]
    simp [h, h1, ht]
theorem shl_step {a : List (BitVec 64)} (n i t : Nat) (ht : t < 64) (hi : n / 64 < i) : (a.getD (i - n / 64) 0 <<< (n % 64) ||| a.getD (i - n / 64 - 1) 0 >>> (64 - n % 64)).getLsbD t = shlB a n (64 * i + t) := by
  rw [BitVec.getLsbD_or, BitVec.getLsbD_shiftLeft, BitVec.getLsbD_ushiftRight]
  unfold shlB
  have h0 : n ≤ 64 * i + t := by omega
  by_cases h : t < n % 64
  · have e : 64 * i + t - n = 64 * (i - n / 64 - 1) + (64 - n % 64 + t) := by omega
    rw [e, bitAt_at _ _ _ (by omega)]
    simp [h, h0]
  · have e : 64 * i + t - n = 64 * (i - n / 64) + (t - n % 64) := by omega
    rw [e, bitAt_at _ _ _ (by omega), BitVec.getLsbD_of_ge (a.getD (i - n / 64 - 1) 0) _ (by omega)]
    simp [h, h0, ht]
noncomputable def negativeS : FSpec := { run := fun ins => match ins with
  | [.agg 4 (.u 64 a)] => some (.b (bitAt a 255), [])
  | _ => none }
theorem negative_sound : SoundFn Try.prog glB 83 negativeS.run := by
  have G := good_of (P := Try.prog) glB_ro (l := []) (by simp)
  refine soundFn_of_W G Try.func83 (by decide) rfl (by decide) ?_
  intro ins ret outs h
  unfold negativeS at h
  dsimp only at h
  split at h
  rotate_left
  · cases h
  rename_i a
  cases h
  refine ⟨by show 1 ≤ 6; decide, fun w0 ext av => ?_⟩
  rw [Try.ntmps83, st0_eq]
  have e : bitAt a 255 = decide (9223372036854775808#64 ≤ a.getD 3 0) := by
    show (a.getD 3 0).getLsbD 63 = _
    rw [bit_get]
    have := (a.getD 3 0).isLt
    refine decide_eq_decide.2 ?_
    show _ ↔ 9223372036854775808 ≤ (a.getD 3 0).toNat
    generalize (a.getD 3 0).toNat = y at *
    simp only [Nat.reducePow] at *
    omega
  rw [e]
  repeat' first
    | refine W.seq ?_ | (refine W.regS G ?_; dsimp only) | refine SW.nil ?_ | refine thenQ_normal ?_ | refine W.skip ?_ | refine W.exit ?_ | refine thenQ_exit ?_ | refine inBlockQ_exit ?_ | refine inBlockQ_normal ?_ | refine W.block ?_
    | (apply SW.toC; refine SWcall.go True.intro ?_) | (apply SW.toOp; refine SWop.go True.intro ?_) | (apply SW.toCG; first | refine SWcall.yes True.intro ?_ | refine SWcall.no True.intro ?_) | (apply SW.toG; first | refine SWop.yes True.intro ?_ | refine SWop.no True.intro ?_)
  refine W.ret ?_
  repeat' first
    | refine thenQ_ret ?_
    | refine inBlockQ_ret ?_
  refine fin1Z True.intro ?_
  exact leV_refl
noncomputable def atS : FSpec := { run := fun ins => match ins with
  | [.i n, .ref 0 0 (.u 64 x), .ref 0 0 (.agg 4 (.u 64 a))] => chk (0 ≤ n ∧ n < 1000 ∧ a.length = 4) (some (.u 64 (atF a x n.toNat), [.u 64 x, .agg 4 (.u 64 a)]))
  | _ => none }
theorem at_sound : SoundFn Try.prog glB 85 atS.run := by
  have G := good_of (P := Try.prog) glB_ro (l := []) (by simp)
  refine soundFn_of_W G Try.func85 (by decide) rfl (by decide) ?_
  intro ins ret outs h
  unfold atS at h
  dsimp only at h
  split at h
  rotate_left
  · cases h
  rename_i n x a
  obtain ⟨hl, h'⟩ := chk_some h
  clear h
  cases h'
  obtain ⟨h1, h2, h3⟩ := hl
  obtain ⟨k, rfl⟩ := Int.eq_ofNat_of_zero_le h1
  refine ⟨by show 3 ≤ 11; decide, fun w0 ext av => ?_⟩
  rw [Try.ntmps85, st0_eq]
  have hF : atF a x (k : Int).toNat = if 4 ≤ k then x else a.getD k 0 := rfl
  repeat' first
    | refine W.seq ?_ | (refine W.regS G ?_; dsimp only) | refine SW.nil ?_ | refine thenQ_normal ?_ | refine W.skip ?_ | refine W.exit ?_ | refine thenQ_exit ?_ | refine inBlockQ_exit ?_ | refine inBlockQ_normal ?_ | refine W.block ?_
    | (apply SW.toC; refine SWcall.go True.intro ?_) | (apply SW.toOp; refine SWop.go True.intro ?_) | (apply SW.toCG; first | refine SWcall.yes True.intro ?_ | refine SWcall.no True.intro ?_) | (apply SW.toG; first | refine SWop.yes True.intro ?_ | refine SWop.no True.intro ?_)
  refine W.condZ G True.intro ?_ ?_
  all_goals intro ht
  · have ht' := of_decide_eq_true ht
    rw [if_pos (by omega)] at hF
    rw [hF]
    repeat' first
      | refine W.seq ?_ | (refine W.regS G ?_; dsimp only) | refine SW.nil ?_ | refine thenQ_normal ?_ | refine W.skip ?_ | refine W.exit ?_ | refine thenQ_exit ?_ | refine inBlockQ_exit ?_ | refine inBlockQ_normal ?_ | refine W.block ?_
      | (apply SW.toC; refine SWcall.go True.intro ?_) | (apply SW.toOp; refine SWop.go True.intro ?_) | (apply SW.toCG; first | refine SWcall.yes True.intro ?_ | refine SWcall.no True.intro ?_) | (apply SW.toG; first | refine SWop.yes True.intro ?_ | refine SWop.no True.intro ?_)
    refine W.ret ?_
    repeat' first
      | refine thenQ_ret ?_
      | refine inBlockQ_ret ?_
    refine fin1Z True.intro ?_
    exact leV_refl
  have ht' := of_decide_eq_false ht
  rw [if_neg (by omega)] at hF
  rw [hF]
  repeat' first
    | refine W.seq ?_ | (refine W.regS G ?_; dsimp only) | refine SW.nil ?_ | refine thenQ_normal ?_ | refine W.skip ?_ | refine W.exit ?_ | refine thenQ_exit ?_ | refine inBlockQ_exit ?_ | refine inBlockQ_normal ?_ | refine W.block ?_
    | (apply SW.toC; refine SWcall.go True.intro ?_) | (apply SW.toOp; refine SWop.go True.intro ?_) | (apply SW.toCG; first | refine SWcall.yes True.intro ?_ | refine SWcall.no True.intro ?_) | (apply SW.toG; first | refine SWop.yes True.intro ?_ | refine SWop.no True.intro ?_)
  refine W.ret ?_
  repeat' first
    | refine thenQ_ret ?_
    | refine inBlockQ_ret ?_
  refine fin1Z True.intro ?_
  exact leV_refl
end Go.Vm.C01
