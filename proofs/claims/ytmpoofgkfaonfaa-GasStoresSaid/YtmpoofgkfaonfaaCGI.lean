/- What some functions of the program compute, walked through once. -/
import Derived.Test.YtmpoofgkfaonfaaCGH
namespace Go.Vm.C19
open Go Go.Proofs
set_option linter.unusedVariables false
set_option linter.unusedSimpArgs false
set_option maxRecDepth 100000
set_option maxHeartbeats 8000000

noncomputable def expS : FSpec := { run := fun ins => match ins with
  | [.agg 4 (.u 64 a)] => some (.u 64 (BitVec.ofInt 64 (((bl (wv a) : Int) + 7) / 8) * 50#64), [])
  | _ => none }
theorem exp_sound : SoundFn Try.prog glB 28 expS.run := by
  have G := good_of (P := Try.prog) glB_ro (l := [(59, LenS)]) (by simp only [List.forall_mem_cons]; exact ⟨Len_sound, by simp⟩)
  refine soundFn_of_W G Try.func28 (by decide) rfl (by decide) ?_
  intro ins ret outs h
  unfold expS at h
  dsimp only at h
  split at h
  rotate_left
  · cases h
  rename_i a
  cases h
  refine ⟨by show 1 ≤ 9; decide, fun w0 ext av => ?_⟩
  rw [Try.ntmps28, st0_eq]
  have hN := bl_256 a
  repeat' first
    | refine W.seq ?_ | (refine W.regS G ?_; dsimp only) | refine SW.nil ?_ | refine thenQ_normal ?_ | refine W.skip ?_ | refine W.exit ?_ | refine thenQ_exit ?_ | refine inBlockQ_exit ?_ | refine inBlockQ_normal ?_ | refine W.block ?_
    | (apply SW.toC; refine SWcall.go LenS.eq_1 ?_) | (apply SW.toOp; refine SWop.go LenS.eq_1 ?_) | (apply SW.toCG; first | refine SWcall.yes LenS.eq_1 ?_ | refine SWcall.no LenS.eq_1 ?_) | (apply SW.toG; first | refine SWop.yes LenS.eq_1 ?_ | refine SWop.no LenS.eq_1 ?_)
  refine W.ret ?_
  repeat' first
    | refine thenQ_ret ?_
    | refine inBlockQ_ret ?_
  refine fin1Z LenS.eq_1 ?_
  exact leV_refl
theorem rExp_sound : SoundFn Try.prog glB 29 expS.run := by
  have G := good_of (P := Try.prog) glB_ro (l := [(60, rLenS)]) (by simp only [List.forall_mem_cons]; exact ⟨rLen_sound, by simp⟩)
  refine soundFn_of_W G Try.func29 (by decide) rfl (by decide) ?_
  intro ins ret outs h
  unfold expS at h
  dsimp only at h
  split at h
  rotate_left
  · cases h
  rename_i a
  cases h
  refine ⟨by show 1 ≤ 9; decide, fun w0 ext av => ?_⟩
  rw [Try.ntmps29, st0_eq]
  have hN := bl_256 a
  rw [BitVec.mul_comm]
  repeat' first
    | refine W.seq ?_ | (refine W.regS G ?_; dsimp only) | refine SW.nil ?_ | refine thenQ_normal ?_ | refine W.skip ?_ | refine W.exit ?_ | refine thenQ_exit ?_ | refine inBlockQ_exit ?_ | refine inBlockQ_normal ?_ | refine W.block ?_
    | (apply SW.toC; refine SWcall.go rLenS.eq_1 ?_) | (apply SW.toOp; refine SWop.go rLenS.eq_1 ?_) | (apply SW.toCG; first | refine SWcall.yes rLenS.eq_1 ?_ | refine SWcall.no rLenS.eq_1 ?_) | (apply SW.toG; first | refine SWop.yes rLenS.eq_1 ?_ | refine SWop.no rLenS.eq_1 ?_)
  refine W.ret ?_
  repeat' first
    | refine thenQ_ret ?_
    | refine inBlockQ_ret ?_
  refine fin1Z rLenS.eq_1 ?_
  exact leV_refl
noncomputable def logS : FSpec := { run := fun ins => match ins with
  | [.i t, .u 64 n] => chk (0 ≤ t ∧ t ≤ 4) (some (.u 64 (moU (n.toNat * 8 + 375 * t.toNat)), []))
  | _ => none }
theorem log_sound : SoundFn Try.prog glB 30 logS.run := by
  have G := good_of (P := Try.prog) glB_ro (l := [(57, timesS)]) (by simp only [List.forall_mem_cons]; exact ⟨times_sound, by simp⟩)
  refine soundFn_of_W G Try.func30 (by decide) rfl (by decide) ?_
  intro ins ret outs h
  unfold logS at h
  dsimp only at h
  split at h
  rotate_left
  · cases h
  rename_i t n
  obtain ⟨⟨h1, h2⟩, h'⟩ := chk_some h
  clear h
  cases h'
  obtain ⟨k, rfl⟩ := Int.eq_ofNat_of_zero_le h1
  refine ⟨by show 2 ≤ 13; decide, fun w0 ext av => ?_⟩
  rw [Try.ntmps30, st0_eq]
  have ek : ((k : Int)).toNat = k := by omega
  rw [ek]
  have e1 : (if (k : Int) < 0 then 0 else (k : Int)) = (k : Int) := if_neg (by omega)
  have e2 : (BitVec.ofInt 64 (k : Int)).toNat = k := by rw [BitVec.toNat_ofInt]; omega
  have vA := moU_val (k * 375)
  have vB := moU_val (n.toNat * 8)
  have vC := moU_val (n.toNat * 8 + 375 * k)
  have mA : moN (k * 375) = min (k * 375) 9223372036854775807 := rfl
  have mB : moN (n.toNat * 8) = min (n.toNat * 8) 9223372036854775807 := rfl
  have mC : moN (n.toNat * 8 + 375 * k) = min (n.toNat * 8 + 375 * k) 9223372036854775807 := rfl
  rw [mA] at vA
  rw [mB] at vB
  rw [mC] at vC
  have vS : (moU (k * 375) + moU (n.toNat * 8)).toNat = min (k * 375) 9223372036854775807 + min (n.toNat * 8) 9223372036854775807 := by
    rw [BitVec.toNat_add, vA, vB]
    omega
  obtain ⟨s, hs⟩ : ∃ s, moU (k * 375) + moU (n.toNat * 8) = s := ⟨_, rfl⟩
  rw [hs] at vS
  by_cases h : 9223372036854775807#64 < s
  · have h5 : 9223372036854775807 < s.toNat := h
    have hq := eq_true h
    have e : moU (n.toNat * 8 + 375 * k) = 9223372036854775807#64 := by
      refine BitVec.eq_of_toNat_eq ?_
      rw [vC]
      show _ = 9223372036854775807
      omega
    rw [e]
    repeat' first
      | refine W.seq ?_ | (refine W.regS G ?_; dsimp only) | refine SW.nil ?_ | refine thenQ_normal ?_ | refine W.skip ?_ | refine W.exit ?_ | refine thenQ_exit ?_ | refine inBlockQ_exit ?_ | refine inBlockQ_normal ?_ | refine W.block ?_
      | (apply SW.toC; refine SWcall.go (And.intro timesS.eq_1 (And.intro e1 (And.intro e2 (And.intro hs hq)))) ?_) | (apply SW.toOp; refine SWop.go (And.intro timesS.eq_1 (And.intro e1 (And.intro e2 (And.intro hs hq)))) ?_) | (apply SW.toCG; first | refine SWcall.yes (And.intro timesS.eq_1 (And.intro e1 (And.intro e2 (And.intro hs hq)))) ?_ | refine SWcall.no (And.intro timesS.eq_1 (And.intro e1 (And.intro e2 (And.intro hs hq)))) ?_) | (apply SW.toG; first | refine SWop.yes (And.intro timesS.eq_1 (And.intro e1 (And.intro e2 (And.intro hs hq)))) ?_ | refine SWop.no (And.intro timesS.eq_1 (And.intro e1 (And.intro e2 (And.intro hs hq)))) ?_)
    refine W.ret ?_
    repeat' first
      | refine thenQ_ret ?_
      | refine inBlockQ_ret ?_
    refine fin1Z (And.intro timesS.eq_1 (And.intro e1 (And.intro e2 (And.intro hs hq)))) ?_
    exact leV_refl
  · have h5 : ¬ 9223372036854775807 < s.toNat := h
    have hq := eq_false h
    have e : moU (n.toNat * 8 + 375 * k) = s := by
      refine BitVec.eq_of_toNat_eq ?_
      rw [vC, vS]
      omega
    rw [e]
    repeat' first
      | refine W.seq ?_ | (refine W.regS G ?_; dsimp only) | refine SW.nil ?_ | refine thenQ_normal ?_ | refine W.skip ?_ | refine W.exit ?_ | refine thenQ_exit ?_ | refine inBlockQ_exit ?_ | refine inBlockQ_normal ?_ | refine W.block ?_
      | (apply SW.toC; refine SWcall.go (And.intro timesS.eq_1 (And.intro e1 (And.intro e2 (And.intro hs hq)))) ?_) | (apply SW.toOp; refine SWop.go (And.intro timesS.eq_1 (And.intro e1 (And.intro e2 (And.intro hs hq)))) ?_) | (apply SW.toCG; first | refine SWcall.yes (And.intro timesS.eq_1 (And.intro e1 (And.intro e2 (And.intro hs hq)))) ?_ | refine SWcall.no (And.intro timesS.eq_1 (And.intro e1 (And.intro e2 (And.intro hs hq)))) ?_) | (apply SW.toG; first | refine SWop.yes (And.intro timesS.eq_1 (And.intro e1 (And.intro e2 (And.intro hs hq)))) ?_ | refine SWop.no (And.intro timesS.eq_1 (And.intro e1 (And.intro e2 (And.intro hs hq)))) ?_)
    refine W.ret ?_
    repeat' first
      | refine thenQ_ret ?_
      | refine inBlockQ_ret ?_
    refine fin1Z (And.intro timesS.eq_1 (And.intro e1 (And.intro e2 (And.intro hs hq)))) ?_
    exact leV_refl
noncomputable def sizesS : FSpec := { run := fun ins => match ins with
  | [.u 64 was, .u 64 size, .agg 4 (.u 64 e)] => chk (e.length = 4) (some (.b true, []))
  | _ => none }
theorem sizes_sound : SoundFn Try.prog glB 7 sizesS.run := by
  have G := good_of (P := Try.prog) glB_ro (l := [(17, memoryS), (22, memoryS), (16, growS), (23, growS), (24, copyS 3), (25, mostS), (26, wordsS), (27, copyS 6), (28, expS), (29, expS), (30, logS), (11, glivesS)]) (by simp only [List.forall_mem_cons]; exact ⟨Memory_sound, rMemory_sound, grow_sound, rGrow_sound, copy_sound, most_sound, rWords_sound, sha_sound, exp_sound, rExp_sound, log_sound, lives_sound, by simp⟩)
  refine soundFn_of_W G Try.func7 (by decide) rfl (by decide) ?_
  intro ins ret outs h
  unfold sizesS at h
  dsimp only at h
  split at h
  rotate_left
  · cases h
  rename_i was size e
  obtain ⟨le, h'⟩ := chk_some h
  clear h
  cases h'
  refine ⟨by show 3 ≤ 96; decide, fun w0 ext av => ?_⟩
  rw [Try.ntmps7, st0_eq]
  have n5 : ¬ (5#64 : BitVec 64) = 0 := by decide
  have v5 : (was % 5#64).toNat = was.toNat % 5 := BitVec.toNat_umod
  obtain ⟨w, hw⟩ : ∃ w, was % 5#64 = w := ⟨_, rfl⟩
  rw [hw] at v5
  have bw : w.toNat ≤ 4 := by omega
  obtain ⟨k, hk⟩ : ∃ k, w.toNat = k := ⟨_, rfl⟩
  have eW : BitVec.ofInt 64 (k : Int) = w := by
    refine BitVec.eq_of_toNat_eq ?_
    rw [BitVec.toNat_ofInt, hk]
    omega
  obtain ⟨m, hm⟩ : ∃ m, 375#64 * w = m := ⟨_, rfl⟩
  have vm : m.toNat = 375 * k := by
    rw [← hm, BitVec.toNat_mul, hk]
    show 375 * k % 2 ^ 64 = _
    omega
  rw [hk] at bw
  have hd := wdU_val size
  repeat' first
    | refine W.seq ?_ | (refine W.regS G ?_; dsimp only) | refine SW.nil ?_ | refine thenQ_normal ?_ | refine W.skip ?_ | refine W.exit ?_ | refine thenQ_exit ?_ | refine inBlockQ_exit ?_ | refine inBlockQ_normal ?_
    | (apply SW.toC; refine SWcall.go (And.intro memoryS.eq_1 (And.intro growS.eq_1 (And.intro n5 (And.intro hw hk)))) ?_) | (apply SW.toOp; refine SWop.go (And.intro memoryS.eq_1 (And.intro growS.eq_1 (And.intro n5 (And.intro hw hk)))) ?_) | (apply SW.toCG; first | refine SWcall.yes (And.intro memoryS.eq_1 (And.intro growS.eq_1 (And.intro n5 (And.intro hw hk)))) ?_ | refine SWcall.no (And.intro memoryS.eq_1 (And.intro growS.eq_1 (And.intro n5 (And.intro hw hk)))) ?_) | (apply SW.toG; first | refine SWop.yes (And.intro memoryS.eq_1 (And.intro growS.eq_1 (And.intro n5 (And.intro hw hk)))) ?_ | refine SWop.no (And.intro memoryS.eq_1 (And.intro growS.eq_1 (And.intro n5 (And.intro hw hk)))) ?_)
  refine W.drawS G [[], [], [0, 1], [2, 0, 1], [3, 2, 0, 1], [3, 2, 0, 1], [4, 3, 2, 0, 1, 5], [3, 2, 0, 1, 6, 4, 5], [7, 3, 2, 0, 1, 6, 4, 5], [8, 7, 3, 2, 0, 1, 6, 4, 5], [8, 7, 3, 2, 0, 1, 6, 4, 5], [9, 8, 7, 3, 2, 0, 1, 6, 4, 5, 10], [8, 7, 3, 2, 0, 1, 6, 4, 5, 11, 9, 10], [12, 8, 7, 3, 2, 0, 1, 6, 4, 5, 11, 9, 10], [13, 12, 8, 7, 3, 2, 0, 1, 6, 4, 5, 11, 9, 10], [13, 12, 8, 7, 3, 2, 0, 1, 6, 4, 5, 11, 9, 10], [14, 13, 12, 8, 7, 3, 2, 0, 1, 6, 4, 5, 11, 9, 10, 15], [13, 12, 8, 7, 3, 2, 0, 1, 6, 4, 5, 11, 9, 10, 16, 14, 15], [17, 13, 12, 8, 7, 3, 2, 0, 1, 6, 4, 5, 11, 9, 10, 16, 14, 15], [18, 17, 13, 12, 8, 7, 3, 2, 0, 1, 6, 4, 5, 11, 9, 10, 16, 14, 15], [19, 18, 17, 13, 12, 8, 7, 3, 2, 0, 1, 6, 4, 5, 11, 9, 10, 16, 14, 15], [18, 17, 13, 12, 8, 7, 3, 2, 0, 1, 6, 4, 5, 11, 9, 10, 16, 14, 15], [21, 18, 17, 13, 12, 8, 7, 3, 2, 0, 1, 6, 4, 5, 11, 9, 10, 16, 14, 15, 20, 19], [22, 21, 18, 17, 13, 12, 8, 7, 3, 2, 0, 1, 6, 4, 5, 11, 9, 10, 16, 14, 15, 20, 19], [20, 19, 18, 17, 13, 12, 8, 7, 3, 2, 0, 1, 6, 4, 5, 11, 9, 10, 16, 14, 15, 23, 22, 21], [18, 17, 13, 12, 8, 7, 3, 2, 0, 1, 6, 4, 5, 11, 9, 10, 16, 14, 15, 24, 20, 19, 23, 22, 21], [25, 18, 17, 13, 12, 8, 7, 3, 2, 0, 1, 6, 4, 5, 11, 9, 10, 16, 14, 15, 24, 20, 19, 23, 22, 21], [26, 25, 18, 17, 13, 12, 8, 7, 3, 2, 0, 1, 6, 4, 5, 11, 9, 10, 16, 14, 15, 24, 20, 19, 23, 22, 21], [27, 26, 25, 18, 17, 13, 12, 8, 7, 3, 2, 0, 1, 6, 4, 5, 11, 9, 10, 16, 14, 15, 24, 20, 19, 23, 22, 21], [26, 25, 18, 17, 13, 12, 8, 7, 3, 2, 0, 1, 6, 4, 5, 11, 9, 10, 16, 14, 15, 24, 20, 19, 23, 22, 21], [29, 26, 25, 18, 17, 13, 12, 8, 7, 3, 2, 0, 1, 6, 4, 5, 11, 9, 10, 16, 14, 15, 24, 20, 19, 23, 22, 21, 28, 27], [30, 29, 26, 25, 18, 17, 13, 12, 8, 7, 3, 2, 0, 1, 6, 4, 5, 11, 9, 10, 16, 14, 15, 24, 20, 19, 23, 22, 21, 28, 27], [28, 27, 26, 25, 18, 17, 13, 12, 8, 7, 3, 2, 0, 1, 6, 4, 5, 11, 9, 10, 16, 14, 15, 24, 20, 19, 23, 22, 21, 31, 30, 29], [26, 25, 18, 17, 13, 12, 8, 7, 3, 2, 0, 1, 6, 4, 5, 11, 9, 10, 16, 14, 15, 24, 20, 19, 23, 22, 21, 32, 28, 27, 31, 30, 29], [33, 26, 25, 18, 17, 13, 12, 8, 7, 3, 2, 0, 1, 6, 4, 5, 11, 9, 10, 16, 14, 15, 24, 20, 19, 23, 22, 21, 32, 28, 27, 31, 30, 29], [34, 33, 26, 25, 18, 17, 13, 12, 8, 7, 3, 2, 0, 1, 6, 4, 5, 11, 9, 10, 16, 14, 15, 24, 20, 19, 23, 22, 21, 32, 28, 27, 31, 30, 29], [35, 34, 33, 26, 25, 18, 17, 13, 12, 8, 7, 3, 2, 0, 1, 6, 4, 5, 11, 9, 10, 16, 14, 15, 24, 20, 19, 23, 22, 21, 32, 28, 27, 31, 30, 29], [34, 33, 26, 25, 18, 17, 13, 12, 8, 7, 3, 2, 0, 1, 6, 4, 5, 11, 9, 10, 16, 14, 15, 24, 20, 19, 23, 22, 21, 32, 28, 27, 31, 30, 29], [37, 34, 33, 26, 25, 18, 17, 13, 12, 8, 7, 3, 2, 0, 1, 6, 4, 5, 11, 9, 10, 16, 14, 15, 24, 20, 19, 23, 22, 21, 32, 28, 27, 31, 30, 29, 36, 35], [36, 35, 34, 33, 26, 25, 18, 17, 13, 12, 8, 7, 3, 2, 0, 1, 6, 4, 5, 11, 9, 10, 16, 14, 15, 24, 20, 19, 23, 22, 21, 32, 28, 27, 31, 30, 29, 38, 37], [34, 33, 26, 25, 18, 17, 13, 12, 8, 7, 3, 2, 0, 1, 6, 4, 5, 11, 9, 10, 16, 14, 15, 24, 20, 19, 23, 22, 21, 32, 28, 27, 31, 30, 29, 39, 36, 35, 38, 37], [40, 34, 33, 26, 25, 18, 17, 13, 12, 8, 7, 3, 2, 0, 1, 6, 4, 5, 11, 9, 10, 16, 14, 15, 24, 20, 19, 23, 22, 21, 32, 28, 27, 31, 30, 29, 39, 36, 35, 38, 37], [41, 40, 34, 33, 26, 25, 18, 17, 13, 12, 8, 7, 3, 2, 0, 1, 6, 4, 5, 11, 9, 10, 16, 14, 15, 24, 20, 19, 23, 22, 21, 32, 28, 27, 31, 30, 29, 39, 36, 35, 38, 37], [41, 40, 34, 33, 26, 25, 18, 17, 13, 12, 8, 7, 3, 2, 0, 1, 6, 4, 5, 11, 9, 10, 16, 14, 15, 24, 20, 19, 23, 22, 21, 32, 28, 27, 31, 30, 29, 39, 36, 35, 38, 37], [42, 41, 40, 34, 33, 26, 25, 18, 17, 13, 12, 8, 7, 3, 2, 0, 1, 6, 4, 5, 11, 9, 10, 16, 14, 15, 24, 20, 19, 23, 22, 21, 32, 28, 27, 31, 30, 29, 39, 36, 35, 38, 37, 43], [41, 40, 34, 33, 26, 25, 18, 17, 13, 12, 8, 7, 3, 2, 0, 1, 6, 4, 5, 11, 9, 10, 16, 14, 15, 24, 20, 19, 23, 22, 21, 32, 28, 27, 31, 30, 29, 39, 36, 35, 38, 37], [41, 40, 34, 33, 26, 25, 18, 17, 13, 12, 8, 7, 3, 2, 0, 1, 6, 4, 5, 11, 9, 10, 16, 14, 15, 24, 20, 19, 23, 22, 21, 32, 28, 27, 31, 30, 29, 39, 36, 35, 38, 37], [46, 41, 40, 34, 33, 26, 25, 18, 17, 13, 12, 8, 7, 3, 2, 0, 1, 6, 4, 5, 11, 9, 10, 16, 14, 15, 24, 20, 19, 23, 22, 21, 32, 28, 27, 31, 30, 29, 39, 36, 35, 38, 37], [47, 46, 41, 40, 34, 33, 26, 25, 18, 17, 13, 12, 8, 7, 3, 2, 0, 1, 6, 4, 5, 11, 9, 10, 16, 14, 15, 24, 20, 19, 23, 22, 21, 32, 28, 27, 31, 30, 29, 39, 36, 35, 38, 37], [45, 41, 40, 34, 33, 26, 25, 18, 17, 13, 12, 8, 7, 3, 2, 0, 1, 6, 4, 5, 11, 9, 10, 16, 14, 15, 24, 20, 19, 23, 22, 21, 32, 28, 27, 31, 30, 29, 39, 36, 35, 38, 37, 48, 47, 46, 44, 42, 43], [44, 42, 41, 40, 34, 33, 26, 25, 18, 17, 13, 12, 8, 7, 3, 2, 0, 1, 6, 4, 5, 11, 9, 10, 16, 14, 15, 24, 20, 19, 23, 22, 21, 32, 28, 27, 31, 30, 29, 39, 36, 35, 38, 37, 43, 49, 45, 48, 47, 46], [41, 40, 34, 33, 26, 25, 18, 17, 13, 12, 8, 7, 3, 2, 0, 1, 6, 4, 5, 11, 9, 10, 16, 14, 15, 24, 20, 19, 23, 22, 21, 32, 28, 27, 31, 30, 29, 39, 36, 35, 38, 37, 50, 44, 42, 43, 49, 45, 48, 47, 46], [51, 41, 40, 34, 33, 26, 25, 18, 17, 13, 12, 8, 7, 3, 2, 0, 1, 6, 4, 5, 11, 9, 10, 16, 14, 15, 24, 20, 19, 23, 22, 21, 32, 28, 27, 31, 30, 29, 39, 36, 35, 38, 37, 50, 44, 42, 43, 49, 45, 48, 47, 46], [52, 51, 41, 40, 34, 33, 26, 25, 18, 17, 13, 12, 8, 7, 3, 2, 0, 1, 6, 4, 5, 11, 9, 10, 16, 14, 15, 24, 20, 19, 23, 22, 21, 32, 28, 27, 31, 30, 29, 39, 36, 35, 38, 37, 50, 44, 42, 43, 49, 45, 48, 47, 46], [52, 51, 41, 40, 34, 33, 26, 25, 18, 17, 13, 12, 8, 7, 3, 2, 0, 1, 6, 4, 5, 11, 9, 10, 16, 14, 15, 24, 20, 19, 23, 22, 21, 32, 28, 27, 31, 30, 29, 39, 36, 35, 38, 37, 50, 44, 42, 43, 49, 45, 48, 47, 46, 53], [54, 52, 51, 41, 40, 34, 33, 26, 25, 18, 17, 13, 12, 8, 7, 3, 2, 0, 1, 6, 4, 5, 11, 9, 10, 16, 14, 15, 24, 20, 19, 23, 22, 21, 32, 28, 27, 31, 30, 29, 39, 36, 35, 38, 37, 50, 44, 42, 43, 49, 45, 48, 47, 46, 53]] hmix ?_
  dsimp only
  repeat' first
    | (apply DW.nil; (focus (decide +kernel)))
    | (apply DW.toC; refine DWcall.go (And.intro memoryS.eq_1 (And.intro growS.eq_1 (And.intro copyS.eq_1 (And.intro mostS.eq_1 (And.intro wordsS.eq_1 (And.intro expS.eq_1 (And.intro logS.eq_1 (And.intro glivesS.eq_1 (And.intro le (And.intro eW (And.intro hm (And.intro vm hd)))))))))))) ?_) | (apply DW.toOp; refine DWop.go (And.intro memoryS.eq_1 (And.intro growS.eq_1 (And.intro copyS.eq_1 (And.intro mostS.eq_1 (And.intro wordsS.eq_1 (And.intro expS.eq_1 (And.intro logS.eq_1 (And.intro glivesS.eq_1 (And.intro le (And.intro eW (And.intro hm (And.intro vm hd)))))))))))) ?_) | (apply DW.toCG; first | refine DWcall.yes (And.intro memoryS.eq_1 (And.intro growS.eq_1 (And.intro copyS.eq_1 (And.intro mostS.eq_1 (And.intro wordsS.eq_1 (And.intro expS.eq_1 (And.intro logS.eq_1 (And.intro glivesS.eq_1 (And.intro le (And.intro eW (And.intro hm (And.intro vm hd)))))))))))) ?_ | refine DWcall.no (And.intro memoryS.eq_1 (And.intro growS.eq_1 (And.intro copyS.eq_1 (And.intro mostS.eq_1 (And.intro wordsS.eq_1 (And.intro expS.eq_1 (And.intro logS.eq_1 (And.intro glivesS.eq_1 (And.intro le (And.intro eW (And.intro hm (And.intro vm hd)))))))))))) ?_) | (apply DW.toG; first | refine DWop.yes (And.intro memoryS.eq_1 (And.intro growS.eq_1 (And.intro copyS.eq_1 (And.intro mostS.eq_1 (And.intro wordsS.eq_1 (And.intro expS.eq_1 (And.intro logS.eq_1 (And.intro glivesS.eq_1 (And.intro le (And.intro eW (And.intro hm (And.intro vm hd)))))))))))) ?_ | refine DWop.no (And.intro memoryS.eq_1 (And.intro growS.eq_1 (And.intro copyS.eq_1 (And.intro mostS.eq_1 (And.intro wordsS.eq_1 (And.intro expS.eq_1 (And.intro logS.eq_1 (And.intro glivesS.eq_1 (And.intro le (And.intro eW (And.intro hm (And.intro vm hd)))))))))))) ?_)
  repeat' first
    | refine W.seq ?_ | (refine W.regS G ?_; dsimp only) | refine SW.nil ?_ | refine thenQ_normal ?_ | refine W.skip ?_ | refine W.exit ?_ | refine thenQ_exit ?_ | refine inBlockQ_exit ?_ | refine inBlockQ_normal ?_ | refine W.block ?_
    | (apply SW.toC; refine SWcall.go (And.intro memoryS.eq_1 (And.intro growS.eq_1 (And.intro copyS.eq_1 (And.intro mostS.eq_1 (And.intro wordsS.eq_1 (And.intro expS.eq_1 (And.intro logS.eq_1 (And.intro glivesS.eq_1 (And.intro le (And.intro eW (And.intro hm (And.intro vm hd)))))))))))) ?_) | (apply SW.toOp; refine SWop.go (And.intro memoryS.eq_1 (And.intro growS.eq_1 (And.intro copyS.eq_1 (And.intro mostS.eq_1 (And.intro wordsS.eq_1 (And.intro expS.eq_1 (And.intro logS.eq_1 (And.intro glivesS.eq_1 (And.intro le (And.intro eW (And.intro hm (And.intro vm hd)))))))))))) ?_) | (apply SW.toCG; first | refine SWcall.yes (And.intro memoryS.eq_1 (And.intro growS.eq_1 (And.intro copyS.eq_1 (And.intro mostS.eq_1 (And.intro wordsS.eq_1 (And.intro expS.eq_1 (And.intro logS.eq_1 (And.intro glivesS.eq_1 (And.intro le (And.intro eW (And.intro hm (And.intro vm hd)))))))))))) ?_ | refine SWcall.no (And.intro memoryS.eq_1 (And.intro growS.eq_1 (And.intro copyS.eq_1 (And.intro mostS.eq_1 (And.intro wordsS.eq_1 (And.intro expS.eq_1 (And.intro logS.eq_1 (And.intro glivesS.eq_1 (And.intro le (And.intro eW (And.intro hm (And.intro vm hd)))))))))))) ?_) | (apply SW.toG; first | refine SWop.yes (And.intro memoryS.eq_1 (And.intro growS.eq_1 (And.intro copyS.eq_1 (And.intro mostS.eq_1 (And.intro wordsS.eq_1 (And.intro expS.eq_1 (And.intro logS.eq_1 (And.intro glivesS.eq_1 (And.intro le (And.intro eW (And.intro hm (And.intro vm hd)))))))))))) ?_ | refine SWop.no (And.intro memoryS.eq_1 (And.intro growS.eq_1 (And.intro copyS.eq_1 (And.intro mostS.eq_1 (And.intro wordsS.eq_1 (And.intro expS.eq_1 (And.intro logS.eq_1 (And.intro glivesS.eq_1 (And.intro le (And.intro eW (And.intro hm (And.intro vm hd)))))))))))) ?_)
  refine W.ret ?_
  repeat' first
    | refine thenQ_ret ?_
    | refine inBlockQ_ret ?_
  refine fin1Z (And.intro memoryS.eq_1 (And.intro growS.eq_1 (And.intro copyS.eq_1 (And.intro mostS.eq_1 (And.intro wordsS.eq_1 (And.intro expS.eq_1 (And.intro logS.eq_1 (And.intro glivesS.eq_1 (And.intro le (And.intro eW (And.intro hm (And.intro vm hd)))))))))))) ?_
  exact leV_refl
end Go.Vm.C19
