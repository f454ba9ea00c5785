/- What some functions of the program compute, walked through once. -/
import Derived.Test.YthjgpkaamgoodaaCCE
namespace Go.Vm.C01
open Go Go.Proofs
set_option linter.unusedVariables false
set_option linter.unusedSimpArgs false
set_option maxRecDepth 100000
set_option maxHeartbeats 8000000

noncomputable def DivS : FSpec := { run := fun ins => match ins with
  | [.agg 4 (.u 64 a), .agg 4 (.u 64 b)] => chk (a.length = 4 ∧ b.length = 4) (some (.agg 4 (.u 64 (wOf (wv a / wv b))), []))
  | _ => none }
theorem Div_sound : SoundFn Try.prog glB 56 DivS.run := by
  have G := good_of (P := Try.prog) glB_ro (l := [(80, divS)]) (by simp only [List.forall_mem_cons]; exact ⟨div_sound, by simp⟩)
  refine soundFn_of_W G Try.func56 (by decide) rfl (by decide) ?_
  intro ins ret outs h
  unfold DivS at h
  dsimp only at h
  split at h
  rotate_left
  · cases h
  rename_i a b
  obtain ⟨hl, h'⟩ := chk_some h
  clear h
  cases h'
  obtain ⟨la, lb⟩ := hl
  refine ⟨by show 2 ≤ 14; decide, fun w0 ext av => ?_⟩
  rw [Try.ntmps56, st0_eq]
  repeat' first
    | refine W.seq ?_ | (refine W.regS G ?_; dsimp only) | refine SW.nil ?_ | refine thenQ_normal ?_ | refine W.skip ?_ | refine W.exit ?_ | refine thenQ_exit ?_ | refine inBlockQ_exit ?_ | refine inBlockQ_normal ?_ | refine W.block ?_
    | (apply SW.toC; refine SWcall.go (And.intro divS.eq_1 (And.intro la lb)) ?_) | (apply SW.toOp; refine SWop.go (And.intro divS.eq_1 (And.intro la lb)) ?_) | (apply SW.toCG; first | refine SWcall.yes (And.intro divS.eq_1 (And.intro la lb)) ?_ | refine SWcall.no (And.intro divS.eq_1 (And.intro la lb)) ?_) | (apply SW.toG; first | refine SWop.yes (And.intro divS.eq_1 (And.intro la lb)) ?_ | refine SWop.no (And.intro divS.eq_1 (And.intro la lb)) ?_)
  refine W.ret ?_
  repeat' first
    | refine thenQ_ret ?_
    | refine inBlockQ_ret ?_
  refine fin1Z (And.intro divS.eq_1 (And.intro la lb)) ?_
  exact leV_refl
theorem shl_shl (a : List (BitVec 64)) (j k : Nat) : wB (shlB (wB (shlB a j)) k) = wB (shlB a (min (j + k) 256)) := by
  refine wB_congr fun i hi => ?_
  unfold shlB
  by_cases h : k ≤ i
  · rw [bitAt_wB _ _ (by omega)]
    by_cases h2 : j ≤ i - k
    · have h3 : min (j + k) 256 ≤ i := by omega
      have e : i - min (j + k) 256 = i - k - j := by omega
      rw [e]
      simp [h, h2, h3]
    · have h3 : ¬ min (j + k) 256 ≤ i := by omega
      simp only [h2, h3, decide_false, Bool.false_and, Bool.and_false]
  · have h3 : ¬ min (j + k) 256 ≤ i := by omega
    simp only [h, h3, decide_false, Bool.false_and]
theorem shr_shr (a : List (BitVec 64)) (j k : Nat) (z : Bool) : wB (shrB (wB (shrB a j z)) k z) = wB (shrB a (min (j + k) 256) z) := by
  refine wB_congr fun i hi => ?_
  unfold shrB
  by_cases h : i + k < 256
  · rw [if_pos h, bitAt_wB _ _ h]
    by_cases h2 : i + k + j < 256
    · rw [if_pos h2, if_pos (by omega), show i + min (j + k) 256 = i + k + j from by omega]
    · rw [if_neg h2, if_neg (by omega)]
  · rw [if_neg h, if_neg (by omega)]
theorem sar_top (a : List (BitVec 64)) (j : Nat) : bitAt (wB (shrB a j (bitAt a 255))) 255 = bitAt a 255 := by
  rw [bitAt_wB _ _ (by omega)]
  unfold shrB
  by_cases h : 255 + j < 256
  · rw [if_pos h, show 255 + j = 255 from by omega]
  · rw [if_neg h]
theorem shl_mul (a : List (BitVec 64)) (j : Nat) : wOf (wv a * 2 ^ j) = wB (shlB a j) := by
  refine eq_wB rfl fun i hi => ?_
  rw [bitAt_wOf _ _ hi, Nat.testBit_mul_two_pow]
  unfold shlB
  by_cases h : j ≤ i
  · rw [bitAt_test _ _ (by omega)]
  · simp [h]
theorem shr_div (a : List (BitVec 64)) (j : Nat) : wOf (wv a / 2 ^ j) = wB (shrB a j false) := by
  refine eq_wB rfl fun i hi => ?_
  rw [bitAt_wOf _ _ hi, Nat.testBit_div_two_pow]
  unfold shrB
  by_cases h : i + j < 256
  · rw [if_pos h, bitAt_test _ _ h]
  · rw [if_neg h]
    have hp : 2 ^ 256 ≤ 2 ^ (i + j) := Nat.pow_le_pow_right (by decide) (by omega)
    exact Nat.testBit_lt_two_pow (Nat.lt_of_lt_of_le (wv_lt a) hp)
noncomputable def shiftsS : FSpec := { run := fun ins => match ins with
  | [.agg 4 (.u 64 a), .u 8 j, .u 8 k] => chk (a.length = 4) (some (.b true, []))
  | _ => none }
theorem shifts_sound : SoundFn Try.prog glB 12 shiftsS.run := by
  have G := good_of (P := Try.prog) glB_ro (l := [(16, OfS), (22, ShlS), (24, ShrS), (26, SarS), (43, ExpS), (15, MulS), (56, DivS), (19, livesS)]) (by simp only [List.forall_mem_cons]; exact ⟨Of_sound, Shl_sound, Shr_sound, Sar_sound, Exp_sound, Mul_sound, Div_sound, lives_sound, by simp⟩)
  refine soundFn_of_W G Try.func12 (by decide) rfl (by decide) ?_
  intro ins ret outs h
  unfold shiftsS at h
  dsimp only at h
  split at h
  rotate_left
  · cases h
  rename_i a j k
  obtain ⟨la, h'⟩ := chk_some h
  clear h
  cases h'
  refine ⟨by show 3 ≤ 78; decide, fun w0 ext av => ?_⟩
  rw [Try.ntmps12, st0_eq]
  have hj := j.isLt
  have hk := k.isLt
  have eJ : (BitVec.setWidth 64 j).toNat = j.toNat := by rw [BitVec.toNat_setWidth]; omega
  have eK : (BitVec.setWidth 64 k).toNat = k.toNat := by rw [BitVec.toNat_setWidth]; omega
  have eJK : (BitVec.setWidth 64 j + BitVec.setWidth 64 k).toNat = j.toNat + k.toNat := by rw [BitVec.toNat_add, eJ, eK]; omega
  generalize j.toNat = J at hj eJ eJK
  generalize k.toNat = K at hk eK eJK
  have wJ : wv (wOf J) = J := by rw [wv_wOf]; exact Nat.mod_eq_of_lt (by unfold B256; omega)
  have wK : wv (wOf K) = K := by rw [wv_wOf]; exact Nat.mod_eq_of_lt (by unfold B256; omega)
  have wS : wv (wOf (J + K)) = J + K := by rw [wv_wOf]; exact Nat.mod_eq_of_lt (by unfold B256; omega)
  have w2 : wv (wOf 2) = 2 := by rw [wv_wOf]; rfl
  have wP : wv (wOf (2 ^ J)) = 2 ^ J := by
    rw [wv_wOf]
    have hp : 2 ^ J < 2 ^ 256 := Nat.pow_lt_pow_right (by decide) (by omega)
    exact Nat.mod_eq_of_lt hp
  obtain ⟨x, hx⟩ : ∃ x, wOf J = x := ⟨_, rfl⟩
  obtain ⟨y, hy⟩ : ∃ y, wOf K = y := ⟨_, rfl⟩
  obtain ⟨s, hs⟩ : ∃ s, wOf (J + K) = s := ⟨_, rfl⟩
  obtain ⟨t, ht⟩ : ∃ t, wOf 2 = t := ⟨_, rfl⟩
  have lx : x.length = 4 := by rw [← hx]; rfl
  rw [hx] at wJ
  rw [hy] at wK
  rw [hs] at wS
  rw [ht] at w2
  obtain ⟨e, he⟩ : ∃ e, wOf (wv t ^ wv x) = e := ⟨_, rfl⟩
  have le : e.length = 4 := by rw [← he]; rfl
  have we : wv e = 2 ^ J := by rw [← he, w2, wJ, wP]
  have m1 : min (wv x) 256 = J := by rw [wJ]; omega
  have m2 : min (wv y) 256 = K := by rw [wK]; omega
  obtain ⟨S, hS⟩ : ∃ S, min (J + K) 256 = S := ⟨_, rfl⟩
  have m3 : min (wv s) 256 = S := by rw [wS, hS]
  have g1 := shl_shl a J K
  have g2 := shr_shr a J K false
  have g3 := shr_shr a J K (bitAt a 255)
  have g3t := sar_top a J
  have g4 := shl_mul a J
  have g5 := shr_div a J
  rw [hS] at g1 g2 g3
  rw [← we] at g4 g5
  repeat' first
    | refine W.seq ?_ | (refine W.regS G ?_; dsimp only) | refine SW.nil ?_ | refine thenQ_normal ?_ | refine W.skip ?_ | refine W.exit ?_ | refine thenQ_exit ?_ | refine inBlockQ_exit ?_ | refine inBlockQ_normal ?_
    | (apply SW.toC; refine SWcall.go (And.intro OfS.eq_1 (And.intro eJ (And.intro eK (And.intro eJK (And.intro hx (And.intro hy (And.intro hs ht))))))) ?_) | (apply SW.toOp; refine SWop.go (And.intro OfS.eq_1 (And.intro eJ (And.intro eK (And.intro eJK (And.intro hx (And.intro hy (And.intro hs ht))))))) ?_) | (apply SW.toCG; first | refine SWcall.yes (And.intro OfS.eq_1 (And.intro eJ (And.intro eK (And.intro eJK (And.intro hx (And.intro hy (And.intro hs ht))))))) ?_ | refine SWcall.no (And.intro OfS.eq_1 (And.intro eJ (And.intro eK (And.intro eJK (And.intro hx (And.intro hy (And.intro hs ht))))))) ?_) | (apply SW.toG; first | refine SWop.yes (And.intro OfS.eq_1 (And.intro eJ (And.intro eK (And.intro eJK (And.intro hx (And.intro hy (And.intro hs ht))))))) ?_ | refine SWop.no (And.intro OfS.eq_1 (And.intro eJ (And.intro eK (And.intro eJK (And.intro hx (And.intro hy (And.intro hs ht))))))) ?_)
  refine W.drawS G [[], [], [], [1, 2], [0, 3, 1, 2], [], [], [5, 6, 4, 0, 3, 1, 2], [4, 0, 3, 1, 2, 7, 5, 6], [8, 4, 0, 3, 1, 2, 7, 5, 6], [9, 8, 4, 0, 3, 1, 2, 7, 5, 6], [9, 8, 4, 0, 3, 1, 2, 7, 5, 6], [9, 8, 4, 0, 3, 1, 2, 7, 5, 6], [11, 9, 8, 4, 0, 3, 1, 2, 7, 5, 6, 12], [10, 9, 8, 4, 0, 3, 1, 2, 7, 5, 6, 13, 11, 12], [9, 8, 4, 0, 3, 1, 2, 7, 5, 6], [9, 8, 4, 0, 3, 1, 2, 7, 5, 6], [15, 9, 8, 4, 0, 3, 1, 2, 7, 5, 6, 16, 14, 10, 13, 11, 12], [14, 10, 9, 8, 4, 0, 3, 1, 2, 7, 5, 6, 13, 11, 12, 17, 15, 16], [9, 8, 4, 0, 3, 1, 2, 7, 5, 6, 18, 14, 10, 13, 11, 12, 17, 15, 16], [19, 9, 8, 4, 0, 3, 1, 2, 7, 5, 6, 18, 14, 10, 13, 11, 12, 17, 15, 16], [20, 19, 9, 8, 4, 0, 3, 1, 2, 7, 5, 6, 18, 14, 10, 13, 11, 12, 17, 15, 16], [20, 19, 9, 8, 4, 0, 3, 1, 2, 7, 5, 6, 18, 14, 10, 13, 11, 12, 17, 15, 16], [20, 19, 9, 8, 4, 0, 3, 1, 2, 7, 5, 6, 18, 14, 10, 13, 11, 12, 17, 15, 16], [22, 20, 19, 9, 8, 4, 0, 3, 1, 2, 7, 5, 6, 18, 14, 10, 13, 11, 12, 17, 15, 16, 23], [21, 20, 19, 9, 8, 4, 0, 3, 1, 2, 7, 5, 6, 18, 14, 10, 13, 11, 12, 17, 15, 16, 24, 22, 23], [20, 19, 9, 8, 4, 0, 3, 1, 2, 7, 5, 6, 18, 14, 10, 13, 11, 12, 17, 15, 16], [20, 19, 9, 8, 4, 0, 3, 1, 2, 7, 5, 6, 18, 14, 10, 13, 11, 12, 17, 15, 16], [26, 20, 19, 9, 8, 4, 0, 3, 1, 2, 7, 5, 6, 18, 14, 10, 13, 11, 12, 17, 15, 16, 27, 25, 21, 24, 22, 23], [25, 21, 20, 19, 9, 8, 4, 0, 3, 1, 2, 7, 5, 6, 18, 14, 10, 13, 11, 12, 17, 15, 16, 24, 22, 23, 28, 26, 27], [20, 19, 9, 8, 4, 0, 3, 1, 2, 7, 5, 6, 18, 14, 10, 13, 11, 12, 17, 15, 16, 29, 25, 21, 24, 22, 23, 28, 26, 27], [30, 20, 19, 9, 8, 4, 0, 3, 1, 2, 7, 5, 6, 18, 14, 10, 13, 11, 12, 17, 15, 16, 29, 25, 21, 24, 22, 23, 28, 26, 27], [31, 30, 20, 19, 9, 8, 4, 0, 3, 1, 2, 7, 5, 6, 18, 14, 10, 13, 11, 12, 17, 15, 16, 29, 25, 21, 24, 22, 23, 28, 26, 27], [31, 30, 20, 19, 9, 8, 4, 0, 3, 1, 2, 7, 5, 6, 18, 14, 10, 13, 11, 12, 17, 15, 16, 29, 25, 21, 24, 22, 23, 28, 26, 27], [32, 31, 30, 20, 19, 9, 8, 4, 0, 3, 1, 2, 7, 5, 6, 18, 14, 10, 13, 11, 12, 17, 15, 16, 29, 25, 21, 24, 22, 23, 28, 26, 27, 33], [31, 30, 20, 19, 9, 8, 4, 0, 3, 1, 2, 7, 5, 6, 18, 14, 10, 13, 11, 12, 17, 15, 16, 29, 25, 21, 24, 22, 23, 28, 26, 27], [34, 32, 31, 30, 20, 19, 9, 8, 4, 0, 3, 1, 2, 7, 5, 6, 18, 14, 10, 13, 11, 12, 17, 15, 16, 29, 25, 21, 24, 22, 23, 28, 26, 27, 33], [31, 30, 20, 19, 9, 8, 4, 0, 3, 1, 2, 7, 5, 6, 18, 14, 10, 13, 11, 12, 17, 15, 16, 29, 25, 21, 24, 22, 23, 28, 26, 27], [36, 34, 32, 31, 30, 20, 19, 9, 8, 4, 0, 3, 1, 2, 7, 5, 6, 18, 14, 10, 13, 11, 12, 17, 15, 16, 29, 25, 21, 24, 22, 23, 28, 26, 27, 33, 37], [35, 31, 30, 20, 19, 9, 8, 4, 0, 3, 1, 2, 7, 5, 6, 18, 14, 10, 13, 11, 12, 17, 15, 16, 29, 25, 21, 24, 22, 23, 28, 26, 27, 38, 36, 34, 32, 33, 37], [34, 32, 31, 30, 20, 19, 9, 8, 4, 0, 3, 1, 2, 7, 5, 6, 18, 14, 10, 13, 11, 12, 17, 15, 16, 29, 25, 21, 24, 22, 23, 28, 26, 27, 33, 39, 35, 38, 36, 37], [31, 30, 20, 19, 9, 8, 4, 0, 3, 1, 2, 7, 5, 6, 18, 14, 10, 13, 11, 12, 17, 15, 16, 29, 25, 21, 24, 22, 23, 28, 26, 27, 40, 34, 32, 33, 39, 35, 38, 36, 37], [41, 31, 30, 20, 19, 9, 8, 4, 0, 3, 1, 2, 7, 5, 6, 18, 14, 10, 13, 11, 12, 17, 15, 16, 29, 25, 21, 24, 22, 23, 28, 26, 27, 40, 34, 32, 33, 39, 35, 38, 36, 37], [42, 41, 31, 30, 20, 19, 9, 8, 4, 0, 3, 1, 2, 7, 5, 6, 18, 14, 10, 13, 11, 12, 17, 15, 16, 29, 25, 21, 24, 22, 23, 28, 26, 27, 40, 34, 32, 33, 39, 35, 38, 36, 37], [42, 41, 31, 30, 20, 19, 9, 8, 4, 0, 3, 1, 2, 7, 5, 6, 18, 14, 10, 13, 11, 12, 17, 15, 16, 29, 25, 21, 24, 22, 23, 28, 26, 27, 40, 34, 32, 33, 39, 35, 38, 36, 37], [43, 42, 41, 31, 30, 20, 19, 9, 8, 4, 0, 3, 1, 2, 7, 5, 6, 18, 14, 10, 13, 11, 12, 17, 15, 16, 29, 25, 21, 24, 22, 23, 28, 26, 27, 40, 34, 32, 33, 39, 35, 38, 36, 37, 44], [42, 41, 31, 30, 20, 19, 9, 8, 4, 0, 3, 1, 2, 7, 5, 6, 18, 14, 10, 13, 11, 12, 17, 15, 16, 29, 25, 21, 24, 22, 23, 28, 26, 27, 40, 34, 32, 33, 39, 35, 38, 36, 37], [45, 43, 42, 41, 31, 30, 20, 19, 9, 8, 4, 0, 3, 1, 2, 7, 5, 6, 18, 14, 10, 13, 11, 12, 17, 15, 16, 29, 25, 21, 24, 22, 23, 28, 26, 27, 40, 34, 32, 33, 39, 35, 38, 36, 37, 44], [42, 41, 31, 30, 20, 19, 9, 8, 4, 0, 3, 1, 2, 7, 5, 6, 18, 14, 10, 13, 11, 12, 17, 15, 16, 29, 25, 21, 24, 22, 23, 28, 26, 27, 40, 34, 32, 33, 39, 35, 38, 36, 37], [47, 45, 43, 42, 41, 31, 30, 20, 19, 9, 8, 4, 0, 3, 1, 2, 7, 5, 6, 18, 14, 10, 13, 11, 12, 17, 15, 16, 29, 25, 21, 24, 22, 23, 28, 26, 27, 40, 34, 32, 33, 39, 35, 38, 36, 37, 44, 48], [46, 42, 41, 31, 30, 20, 19, 9, 8, 4, 0, 3, 1, 2, 7, 5, 6, 18, 14, 10, 13, 11, 12, 17, 15, 16, 29, 25, 21, 24, 22, 23, 28, 26, 27, 40, 34, 32, 33, 39, 35, 38, 36, 37, 49, 47, 45, 43, 44, 48], [45, 43, 42, 41, 31, 30, 20, 19, 9, 8, 4, 0, 3, 1, 2, 7, 5, 6, 18, 14, 10, 13, 11, 12, 17, 15, 16, 29, 25, 21, 24, 22, 23, 28, 26, 27, 40, 34, 32, 33, 39, 35, 38, 36, 37, 44, 50, 46, 49, 47, 48], [42, 41, 31, 30, 20, 19, 9, 8, 4, 0, 3, 1, 2, 7, 5, 6, 18, 14, 10, 13, 11, 12, 17, 15, 16, 29, 25, 21, 24, 22, 23, 28, 26, 27, 40, 34, 32, 33, 39, 35, 38, 36, 37, 51, 45, 43, 44, 50, 46, 49, 47, 48], [52, 42, 41, 31, 30, 20, 19, 9, 8, 4, 0, 3, 1, 2, 7, 5, 6, 18, 14, 10, 13, 11, 12, 17, 15, 16, 29, 25, 21, 24, 22, 23, 28, 26, 27, 40, 34, 32, 33, 39, 35, 38, 36, 37, 51, 45, 43, 44, 50, 46, 49, 47, 48], [53, 52, 42, 41, 31, 30, 20, 19, 9, 8, 4, 0, 3, 1, 2, 7, 5, 6, 18, 14, 10, 13, 11, 12, 17, 15, 16, 29, 25, 21, 24, 22, 23, 28, 26, 27, 40, 34, 32, 33, 39, 35, 38, 36, 37, 51, 45, 43, 44, 50, 46, 49, 47, 48], [53, 52, 42, 41, 31, 30, 20, 19, 9, 8, 4, 0, 3, 1, 2, 7, 5, 6, 18, 14, 10, 13, 11, 12, 17, 15, 16, 29, 25, 21, 24, 22, 23, 28, 26, 27, 40, 34, 32, 33, 39, 35, 38, 36, 37, 51, 45, 43, 44, 50, 46, 49, 47, 48, 54], [55, 53, 52, 42, 41, 31, 30, 20, 19, 9, 8, 4, 0, 3, 1, 2, 7, 5, 6, 18, 14, 10, 13, 11, 12, 17, 15, 16, 29, 25, 21, 24, 22, 23, 28, 26, 27, 40, 34, 32, 33, 39, 35, 38, 36, 37, 51, 45, 43, 44, 50, 46, 49, 47, 48, 54]] hmix ?_
  dsimp only
  repeat' first
    | (apply DW.nil; (focus (decide +kernel)))
    | (apply DW.toC; refine DWcall.go (And.intro OfS.eq_1 (And.intro ShlS.eq_1 (And.intro ShrS.eq_1 (And.intro SarS.eq_1 (And.intro ExpS.eq_1 (And.intro MulS.eq_1 (And.intro DivS.eq_1 (And.intro livesS.eq_1 (And.intro la (And.intro le (And.intro ht (And.intro he (And.intro m1 (And.intro m2 (And.intro m3 (And.intro g1 (And.intro g2 (And.intro g3t (And.intro g3 (And.intro g4 g5)))))))))))))))))))) ?_) | (apply DW.toOp; refine DWop.go (And.intro OfS.eq_1 (And.intro ShlS.eq_1 (And.intro ShrS.eq_1 (And.intro SarS.eq_1 (And.intro ExpS.eq_1 (And.intro MulS.eq_1 (And.intro DivS.eq_1 (And.intro livesS.eq_1 (And.intro la (And.intro le (And.intro ht (And.intro he (And.intro m1 (And.intro m2 (And.intro m3 (And.intro g1 (And.intro g2 (And.intro g3t (And.intro g3 (And.intro g4 g5)))))))))))))))))))) ?_) | (apply DW.toCG; first | refine DWcall.yes (And.intro OfS.eq_1 (And.intro ShlS.eq_1 (And.intro ShrS.eq_1 (And.intro SarS.eq_1 (And.intro ExpS.eq_1 (And.intro MulS.eq_1 (And.intro DivS.eq_1 (And.intro livesS.eq_1 (And.intro la (And.intro le (And.intro ht (And.intro he (And.intro m1 (And.intro m2 (And.intro m3 (And.intro g1 (And.intro g2 (And.intro g3t (And.intro g3 (And.intro g4 g5)))))))))))))))))))) ?_ | refine DWcall.no (And.intro OfS.eq_1 (And.intro ShlS.eq_1 (And.intro ShrS.eq_1 (And.intro SarS.eq_1 (And.intro ExpS.eq_1 (And.intro MulS.eq_1 (And.intro DivS.eq_1 (And.intro livesS.eq_1 (And.intro la (And.intro le (And.intro ht (And.intro he (And.intro m1 (And.intro m2 (And.intro m3 (And.intro g1 (And.intro g2 (And.intro g3t (And.intro g3 (And.intro g4 g5)))))))))))))))))))) ?_) | (apply DW.toG; first | refine DWop.yes (And.intro OfS.eq_1 (And.intro ShlS.eq_1 (And.intro ShrS.eq_1 (And.intro SarS.eq_1 (And.intro ExpS.eq_1 (And.intro MulS.eq_1 (And.intro DivS.eq_1 (And.intro livesS.eq_1 (And.intro la (And.intro le (And.intro ht (And.intro he (And.intro m1 (And.intro m2 (And.intro m3 (And.intro g1 (And.intro g2 (And.intro g3t (And.intro g3 (And.intro g4 g5)))))))))))))))))))) ?_ | refine DWop.no (And.intro OfS.eq_1 (And.intro ShlS.eq_1 (And.intro ShrS.eq_1 (And.intro SarS.eq_1 (And.intro ExpS.eq_1 (And.intro MulS.eq_1 (And.intro DivS.eq_1 (And.intro livesS.eq_1 (And.intro la (And.intro le (And.intro ht (And.intro he (And.intro m1 (And.intro m2 (And.intro m3 (And.intro g1 (And.intro g2 (And.intro g3t (And.intro g3 (And.intro g4 g5)))))))))))))))))))) ?_)
  repeat' first
    | refine W.seq ?_ | (refine W.regS G ?_; dsimp only) | refine SW.nil ?_ | refine thenQ_normal ?_ | refine W.skip ?_ | refine W.exit ?_ | refine thenQ_exit ?_ | refine inBlockQ_exit ?_ | refine inBlockQ_normal ?_ | refine W.block ?_
    | (apply SW.toC; refine SWcall.go (And.intro OfS.eq_1 (And.intro ShlS.eq_1 (And.intro ShrS.eq_1 (And.intro SarS.eq_1 (And.intro ExpS.eq_1 (And.intro MulS.eq_1 (And.intro DivS.eq_1 (And.intro livesS.eq_1 (And.intro la (And.intro le (And.intro ht (And.intro he (And.intro m1 (And.intro m2 (And.intro m3 (And.intro g1 (And.intro g2 (And.intro g3t (And.intro g3 (And.intro g4 g5)))))))))))))))))))) ?_) | (apply SW.toOp; refine SWop.go (And.intro OfS.eq_1 (And.intro ShlS.eq_1 (And.intro ShrS.eq_1 (And.intro SarS.eq_1 (And.intro ExpS.eq_1 (And.intro MulS.eq_1 (And.intro DivS.eq_1 (And.intro livesS.eq_1 (And.intro la (And.intro le (And.intro ht (And.intro he (And.intro m1 (And.intro m2 (And.intro m3 (And.intro g1 (And.intro g2 (And.intro g3t (And.intro g3 (And.intro g4 g5)))))))))))))))))))) ?_) | (apply SW.toCG; first | refine SWcall.yes (And.intro OfS.eq_1 (And.intro ShlS.eq_1 (And.intro ShrS.eq_1 (And.intro SarS.eq_1 (And.intro ExpS.eq_1 (And.intro MulS.eq_1 (And.intro DivS.eq_1 (And.intro livesS.eq_1 (And.intro la (And.intro le (And.intro ht (And.intro he (And.intro m1 (And.intro m2 (And.intro m3 (And.intro g1 (And.intro g2 (And.intro g3t (And.intro g3 (And.intro g4 g5)))))))))))))))))))) ?_ | refine SWcall.no (And.intro OfS.eq_1 (And.intro ShlS.eq_1 (And.intro ShrS.eq_1 (And.intro SarS.eq_1 (And.intro ExpS.eq_1 (And.intro MulS.eq_1 (And.intro DivS.eq_1 (And.intro livesS.eq_1 (And.intro la (And.intro le (And.intro ht (And.intro he (And.intro m1 (And.intro m2 (And.intro m3 (And.intro g1 (And.intro g2 (And.intro g3t (And.intro g3 (And.intro g4 g5)))))))))))))))))))) ?_) | (apply SW.toG; first | refine SWop.yes (And.intro OfS.eq_1 (And.intro ShlS.eq_1 (And.intro ShrS.eq_1 (And.intro SarS.eq_1 (And.intro ExpS.eq_1 (And.intro MulS.eq_1 (And.intro DivS.eq_1 (And.intro livesS.eq_1 (And.intro la (And.intro le (And.intro ht (And.intro he (And.intro m1 (And.intro m2 (And.intro m3 (And.intro g1 (And.intro g2 (And.intro g3t (And.intro g3 (And.intro g4 g5)))))))))))))))))))) ?_ | refine SWop.no (And.intro OfS.eq_1 (And.intro ShlS.eq_1 (And.intro ShrS.eq_1 (And.intro SarS.eq_1 (And.intro ExpS.eq_1 (And.intro MulS.eq_1 (And.intro DivS.eq_1 (And.intro livesS.eq_1 (And.intro la (And.intro le (And.intro ht (And.intro he (And.intro m1 (And.intro m2 (And.intro m3 (And.intro g1 (And.intro g2 (And.intro g3t (And.intro g3 (And.intro g4 g5)))))))))))))))))))) ?_)
  refine W.ret ?_
  repeat' first
    | refine thenQ_ret ?_
    | refine inBlockQ_ret ?_
  refine fin1Z (And.intro OfS.eq_1 (And.intro ShlS.eq_1 (And.intro ShrS.eq_1 (And.intro SarS.eq_1 (And.intro ExpS.eq_1 (And.intro MulS.eq_1 (And.intro DivS.eq_1 (And.intro livesS.eq_1 (And.intro la (And.intro le (And.intro ht (And.intro he (And.intro m1 (And.intro m2 (And.intro m3 (And.intro g1 (And.intro g2 (And.intro g3t (And.intro g3 (And.intro g4 g5)))))))))))))))))))) ?_
  exact leV_refl
end Go.Vm.C01
