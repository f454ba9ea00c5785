/- What some functions of the program compute, walked through once. -/
import Derived.Test.YthjgpkaamgoodaaCEB
namespace Go.Vm.C01
open Go Go.Proofs
set_option linter.unusedVariables false
set_option linter.unusedSimpArgs false
set_option maxRecDepth 100000
set_option maxHeartbeats 8000000

/-- the word of the rest -/
theorem word_rest {v m : Nat} (hm : 0 < m) (hm2 : m < 65536 ^ 16) : wordF (dOf 17 (v % m)) 16 = wOf (v % m) := by
  have h1 : v % m < 65536 ^ 16 := Nat.lt_trans (Nat.mod_lt _ hm) hm2
  have h2 : v % m < 65536 ^ 17 := Nat.lt_trans h1 (Nat.pow_lt_pow_right (by decide) (by decide))
  have := word_dOf (.inr h1) h2
  rw [dOf_len] at this
  exact this
theorem rAddMod_sound : SoundFn Try.prog glB 41 amS.run := by
  have G := good_of (P := Try.prog) glB_ro (l := [(71, digS), (74, sumS), (79, rDivideS), (73, wordS)]) (by simp only [List.forall_mem_cons]; exact ⟨dig_sound, sum_sound, rDivide_sound, word_sound, by simp⟩)
  refine soundFn_of_W G Try.func41 (by decide) rfl (by decide) ?_
  intro ins ret outs h
  unfold amS at h
  dsimp only at h
  split at h
  rotate_left
  · cases h
  rename_i a b m
  obtain ⟨hl, h'⟩ := chk_some h
  clear h
  cases h'
  obtain ⟨la, lb, lm⟩ := hl
  refine ⟨by show 3 ≤ 26; decide, fun w0 ext av => ?_⟩
  rw [Try.ntmps41, st0_eq]
  have hM : wmod (wv a + wv b) (wv m) = if wv m = 0 then 0 else (wv a + wv b) % wv m := rfl
  repeat' first
    | refine W.seq ?_ | (refine W.regS G ?_; dsimp only) | refine SW.nil ?_ | refine thenQ_normal ?_ | refine W.skip ?_ | refine W.exit ?_ | refine thenQ_exit ?_ | refine inBlockQ_exit ?_ | refine inBlockQ_normal ?_ | refine W.block ?_
    | (apply SW.toC; refine SWcall.go True.intro ?_) | (apply SW.toOp; refine SWop.go True.intro ?_) | (apply SW.toCG; first | refine SWcall.yes True.intro ?_ | refine SWcall.no True.intro ?_) | (apply SW.toG; first | refine SWop.yes True.intro ?_ | refine SWop.no True.intro ?_)
  refine W.condZ G True.intro ?_ ?_
  all_goals intro h1
  · have e : m = zeros 64 4 := yes_of h1
    have q1 : wOf (wmod (wv a + wv b) (wv m)) = m := by rw [hM, if_pos (by rw [e, wv_zero4]), e, zeros_wOf]
    rw [q1]
    repeat' first
      | refine W.seq ?_ | (refine W.regS G ?_; dsimp only) | refine SW.nil ?_ | refine thenQ_normal ?_ | refine W.skip ?_ | refine W.exit ?_ | refine thenQ_exit ?_ | refine inBlockQ_exit ?_ | refine inBlockQ_normal ?_ | refine W.block ?_
      | (apply SW.toC; refine SWcall.go True.intro ?_) | (apply SW.toOp; refine SWop.go True.intro ?_) | (apply SW.toCG; first | refine SWcall.yes True.intro ?_ | refine SWcall.no True.intro ?_) | (apply SW.toG; first | refine SWop.yes True.intro ?_ | refine SWop.no True.intro ?_)
    refine W.ret ?_
    repeat' first
      | refine thenQ_ret ?_
      | refine inBlockQ_ret ?_
    refine fin1Z True.intro ?_
    exact leV_refl
  have hb0 : ¬ wv m = 0 := fun c => no_of h1 (by
    refine wv_inj lm rfl ?_
    rw [c]
    exact (wvk_zeros 4 4).symm)
  have hbp : 0 < wv m := Nat.pos_of_ne_zero hb0
  rw [if_neg hb0] at hM
  rw [hM]
  have dm : dvk (digF m 16) 16 = wv m := digF_val m
  have om := digF_ok m 16
  have l1 := digF_len a 16
  have l2 := digF_len b 16
  have l3 := digF_len m 16
  obtain ⟨oQ, dS⟩ := sumD_val (digF_ok a 16) (digF_ok b 16)
  have lQ : (sumD (digF a 16) (digF b 16)).length = 17 := by have h := sumD_len (digF a 16) (digF b 16); rw [l1, l2] at h; exact h
  rw [l1, l2, digF_val a, digF_val b] at dS
  obtain ⟨q, hq⟩ : ∃ q, sumD (digF a 16) (digF b 16) = q := ⟨_, rfl⟩
  rw [hq] at oQ dS lQ
  have dq : dvk q 17 = wv a + wv b := dS
  have hw := word_rest (v := wv a + wv b) hbp (wv_lt m)
  have l17 : ∀ v, (dOf 17 v).length = 17 := dOf_len 17
  have m1 : min 17 17 = 17 := rfl
  have m2 : min 16 17 = 16 := rfl
  rw [← hw]
  clear dS hM
  repeat' first
    | refine W.seq ?_ | (refine W.regS G ?_; dsimp only) | refine SW.nil ?_ | refine thenQ_normal ?_ | refine W.skip ?_ | refine W.exit ?_ | refine thenQ_exit ?_ | refine inBlockQ_exit ?_ | refine inBlockQ_normal ?_
    | (apply SW.toC; refine SWcall.go (And.intro digS.eq_1 (And.intro sumS.eq_1 (And.intro rDivideS.eq_1 (And.intro wordS.eq_1 (And.intro l1 (And.intro l2 (And.intro l3 (And.intro lQ (And.intro dq (And.intro dm (And.intro hq (And.intro oQ (And.intro om (And.intro l17 (And.intro m1 m2))))))))))))))) ?_) | (apply SW.toOp; refine SWop.go (And.intro digS.eq_1 (And.intro sumS.eq_1 (And.intro rDivideS.eq_1 (And.intro wordS.eq_1 (And.intro l1 (And.intro l2 (And.intro l3 (And.intro lQ (And.intro dq (And.intro dm (And.intro hq (And.intro oQ (And.intro om (And.intro l17 (And.intro m1 m2))))))))))))))) ?_) | (apply SW.toCG; first | refine SWcall.yes (And.intro digS.eq_1 (And.intro sumS.eq_1 (And.intro rDivideS.eq_1 (And.intro wordS.eq_1 (And.intro l1 (And.intro l2 (And.intro l3 (And.intro lQ (And.intro dq (And.intro dm (And.intro hq (And.intro oQ (And.intro om (And.intro l17 (And.intro m1 m2))))))))))))))) ?_ | refine SWcall.no (And.intro digS.eq_1 (And.intro sumS.eq_1 (And.intro rDivideS.eq_1 (And.intro wordS.eq_1 (And.intro l1 (And.intro l2 (And.intro l3 (And.intro lQ (And.intro dq (And.intro dm (And.intro hq (And.intro oQ (And.intro om (And.intro l17 (And.intro m1 m2))))))))))))))) ?_) | (apply SW.toG; first | refine SWop.yes (And.intro digS.eq_1 (And.intro sumS.eq_1 (And.intro rDivideS.eq_1 (And.intro wordS.eq_1 (And.intro l1 (And.intro l2 (And.intro l3 (And.intro lQ (And.intro dq (And.intro dm (And.intro hq (And.intro oQ (And.intro om (And.intro l17 (And.intro m1 m2))))))))))))))) ?_ | refine SWop.no (And.intro digS.eq_1 (And.intro sumS.eq_1 (And.intro rDivideS.eq_1 (And.intro wordS.eq_1 (And.intro l1 (And.intro l2 (And.intro l3 (And.intro lQ (And.intro dq (And.intro dm (And.intro hq (And.intro oQ (And.intro om (And.intro l17 (And.intro m1 m2))))))))))))))) ?_)
  refine W.drawS G [[], [0], [], [2, 1, 0], [1, 0, 3, 2], [], [5, 4, 1, 0, 3, 2], [4, 1, 0, 3, 2, 6, 5], [7, 4, 1, 0, 3, 2, 6, 5], [8, 7, 4, 1, 0, 3, 2, 6, 5], [8, 7, 4, 1, 0, 3, 2, 6, 5], [9, 8, 7, 4, 1, 0, 3, 2, 6, 5], [10, 8, 7, 4, 1, 0, 3, 2, 6, 5, 11, 9]] hmix ?_
  dsimp only
  repeat' first
    | (apply DW.nil; (focus (decide +kernel)))
    | (apply DW.toC; refine DWcall.go (And.intro digS.eq_1 (And.intro sumS.eq_1 (And.intro rDivideS.eq_1 (And.intro wordS.eq_1 (And.intro l1 (And.intro l2 (And.intro l3 (And.intro lQ (And.intro dq (And.intro dm (And.intro hq (And.intro oQ (And.intro om (And.intro l17 (And.intro m1 m2))))))))))))))) ?_) | (apply DW.toOp; refine DWop.go (And.intro digS.eq_1 (And.intro sumS.eq_1 (And.intro rDivideS.eq_1 (And.intro wordS.eq_1 (And.intro l1 (And.intro l2 (And.intro l3 (And.intro lQ (And.intro dq (And.intro dm (And.intro hq (And.intro oQ (And.intro om (And.intro l17 (And.intro m1 m2))))))))))))))) ?_) | (apply DW.toCG; first | refine DWcall.yes (And.intro digS.eq_1 (And.intro sumS.eq_1 (And.intro rDivideS.eq_1 (And.intro wordS.eq_1 (And.intro l1 (And.intro l2 (And.intro l3 (And.intro lQ (And.intro dq (And.intro dm (And.intro hq (And.intro oQ (And.intro om (And.intro l17 (And.intro m1 m2))))))))))))))) ?_ | refine DWcall.no (And.intro digS.eq_1 (And.intro sumS.eq_1 (And.intro rDivideS.eq_1 (And.intro wordS.eq_1 (And.intro l1 (And.intro l2 (And.intro l3 (And.intro lQ (And.intro dq (And.intro dm (And.intro hq (And.intro oQ (And.intro om (And.intro l17 (And.intro m1 m2))))))))))))))) ?_) | (apply DW.toG; first | refine DWop.yes (And.intro digS.eq_1 (And.intro sumS.eq_1 (And.intro rDivideS.eq_1 (And.intro wordS.eq_1 (And.intro l1 (And.intro l2 (And.intro l3 (And.intro lQ (And.intro dq (And.intro dm (And.intro hq (And.intro oQ (And.intro om (And.intro l17 (And.intro m1 m2))))))))))))))) ?_ | refine DWop.no (And.intro digS.eq_1 (And.intro sumS.eq_1 (And.intro rDivideS.eq_1 (And.intro wordS.eq_1 (And.intro l1 (And.intro l2 (And.intro l3 (And.intro lQ (And.intro dq (And.intro dm (And.intro hq (And.intro oQ (And.intro om (And.intro l17 (And.intro m1 m2))))))))))))))) ?_)
  repeat' first
    | refine W.seq ?_ | (refine W.regS G ?_; dsimp only) | refine SW.nil ?_ | refine thenQ_normal ?_ | refine W.skip ?_ | refine W.exit ?_ | refine thenQ_exit ?_ | refine inBlockQ_exit ?_ | refine inBlockQ_normal ?_ | refine W.block ?_
    | (apply SW.toC; refine SWcall.go (And.intro digS.eq_1 (And.intro sumS.eq_1 (And.intro rDivideS.eq_1 (And.intro wordS.eq_1 (And.intro l1 (And.intro l2 (And.intro l3 (And.intro lQ (And.intro dq (And.intro dm (And.intro hq (And.intro oQ (And.intro om (And.intro l17 (And.intro m1 m2))))))))))))))) ?_) | (apply SW.toOp; refine SWop.go (And.intro digS.eq_1 (And.intro sumS.eq_1 (And.intro rDivideS.eq_1 (And.intro wordS.eq_1 (And.intro l1 (And.intro l2 (And.intro l3 (And.intro lQ (And.intro dq (And.intro dm (And.intro hq (And.intro oQ (And.intro om (And.intro l17 (And.intro m1 m2))))))))))))))) ?_) | (apply SW.toCG; first | refine SWcall.yes (And.intro digS.eq_1 (And.intro sumS.eq_1 (And.intro rDivideS.eq_1 (And.intro wordS.eq_1 (And.intro l1 (And.intro l2 (And.intro l3 (And.intro lQ (And.intro dq (And.intro dm (And.intro hq (And.intro oQ (And.intro om (And.intro l17 (And.intro m1 m2))))))))))))))) ?_ | refine SWcall.no (And.intro digS.eq_1 (And.intro sumS.eq_1 (And.intro rDivideS.eq_1 (And.intro wordS.eq_1 (And.intro l1 (And.intro l2 (And.intro l3 (And.intro lQ (And.intro dq (And.intro dm (And.intro hq (And.intro oQ (And.intro om (And.intro l17 (And.intro m1 m2))))))))))))))) ?_) | (apply SW.toG; first | refine SWop.yes (And.intro digS.eq_1 (And.intro sumS.eq_1 (And.intro rDivideS.eq_1 (And.intro wordS.eq_1 (And.intro l1 (And.intro l2 (And.intro l3 (And.intro lQ (And.intro dq (And.intro dm (And.intro hq (And.intro oQ (And.intro om (And.intro l17 (And.intro m1 m2))))))))))))))) ?_ | refine SWop.no (And.intro digS.eq_1 (And.intro sumS.eq_1 (And.intro rDivideS.eq_1 (And.intro wordS.eq_1 (And.intro l1 (And.intro l2 (And.intro l3 (And.intro lQ (And.intro dq (And.intro dm (And.intro hq (And.intro oQ (And.intro om (And.intro l17 (And.intro m1 m2))))))))))))))) ?_)
  refine W.ret ?_
  repeat' first
    | refine thenQ_ret ?_
    | refine inBlockQ_ret ?_
  refine fin1Z (And.intro digS.eq_1 (And.intro sumS.eq_1 (And.intro rDivideS.eq_1 (And.intro wordS.eq_1 (And.intro l1 (And.intro l2 (And.intro l3 (And.intro lQ (And.intro dq (And.intro dm (And.intro hq (And.intro oQ (And.intro om (And.intro l17 (And.intro m1 m2))))))))))))))) ?_
  exact leV_refl
theorem rMulMod_sound : SoundFn Try.prog glB 42 mmS.run := by
  have G := good_of (P := Try.prog) glB_ro (l := [(71, digS), (77, prodS), (79, rDivideS), (73, wordS)]) (by simp only [List.forall_mem_cons]; exact ⟨dig_sound, prod_sound, rDivide_sound, word_sound, by simp⟩)
  refine soundFn_of_W G Try.func42 (by decide) rfl (by decide) ?_
  intro ins ret outs h
  unfold mmS at h
  dsimp only at h
  split at h
  rotate_left
  · cases h
  rename_i a b m
  obtain ⟨hl, h'⟩ := chk_some h
  clear h
  cases h'
  obtain ⟨la, lb, lm⟩ := hl
  refine ⟨by show 3 ≤ 26; decide, fun w0 ext av => ?_⟩
  rw [Try.ntmps42, st0_eq]
  have hM : wmod (wv a * wv b) (wv m) = if wv m = 0 then 0 else (wv a * wv b) % wv m := rfl
  repeat' first
    | refine W.seq ?_ | (refine W.regS G ?_; dsimp only) | refine SW.nil ?_ | refine thenQ_normal ?_ | refine W.skip ?_ | refine W.exit ?_ | refine thenQ_exit ?_ | refine inBlockQ_exit ?_ | refine inBlockQ_normal ?_ | refine W.block ?_
    | (apply SW.toC; refine SWcall.go True.intro ?_) | (apply SW.toOp; refine SWop.go True.intro ?_) | (apply SW.toCG; first | refine SWcall.yes True.intro ?_ | refine SWcall.no True.intro ?_) | (apply SW.toG; first | refine SWop.yes True.intro ?_ | refine SWop.no True.intro ?_)
  refine W.condZ G True.intro ?_ ?_
  all_goals intro h1
  · have e : m = zeros 64 4 := yes_of h1
    have q1 : wOf (wmod (wv a * wv b) (wv m)) = m := by rw [hM, if_pos (by rw [e, wv_zero4]), e, zeros_wOf]
    rw [q1]
    repeat' first
      | refine W.seq ?_ | (refine W.regS G ?_; dsimp only) | refine SW.nil ?_ | refine thenQ_normal ?_ | refine W.skip ?_ | refine W.exit ?_ | refine thenQ_exit ?_ | refine inBlockQ_exit ?_ | refine inBlockQ_normal ?_ | refine W.block ?_
      | (apply SW.toC; refine SWcall.go True.intro ?_) | (apply SW.toOp; refine SWop.go True.intro ?_) | (apply SW.toCG; first | refine SWcall.yes True.intro ?_ | refine SWcall.no True.intro ?_) | (apply SW.toG; first | refine SWop.yes True.intro ?_ | refine SWop.no True.intro ?_)
    refine W.ret ?_
    repeat' first
      | refine thenQ_ret ?_
      | refine inBlockQ_ret ?_
    refine fin1Z True.intro ?_
    exact leV_refl
  have hb0 : ¬ wv m = 0 := fun c => no_of h1 (by
    refine wv_inj lm rfl ?_
    rw [c]
    exact (wvk_zeros 4 4).symm)
  have hbp : 0 < wv m := Nat.pos_of_ne_zero hb0
  rw [if_neg hb0] at hM
  rw [hM]
  have dm : dvk (digF m 16) 16 = wv m := digF_val m
  have om := digF_ok m 16
  have l1 := digF_len a 16
  have l2 := digF_len b 16
  have l3 := digF_len m 16
  obtain ⟨oQ, dS⟩ := prodF_val (digF_ok a 16) (digF_ok b 16)
  have lQ : (prodF (digF a 16) (digF b 16)).length = 32 := by have h := prodF_len (digF a 16) (digF b 16); rw [l1, l2] at h; exact h
  rw [l1, l2, digF_val a, digF_val b] at dS
  obtain ⟨q, hq⟩ : ∃ q, prodF (digF a 16) (digF b 16) = q := ⟨_, rfl⟩
  rw [hq] at oQ dS lQ
  have dq : dvk q 32 = wv a * wv b := dS
  have hw := word_rest (v := wv a * wv b) hbp (wv_lt m)
  have l17 : ∀ v, (dOf 17 v).length = 17 := dOf_len 17
  have m1 : min 32 17 = 17 := rfl
  have m2 : min 16 17 = 16 := rfl
  rw [← hw]
  clear dS hM
  repeat' first
    | refine W.seq ?_ | (refine W.regS G ?_; dsimp only) | refine SW.nil ?_ | refine thenQ_normal ?_ | refine W.skip ?_ | refine W.exit ?_ | refine thenQ_exit ?_ | refine inBlockQ_exit ?_ | refine inBlockQ_normal ?_
    | (apply SW.toC; refine SWcall.go (And.intro digS.eq_1 (And.intro prodS.eq_1 (And.intro rDivideS.eq_1 (And.intro wordS.eq_1 (And.intro l1 (And.intro l2 (And.intro l3 (And.intro lQ (And.intro dq (And.intro dm (And.intro hq (And.intro oQ (And.intro om (And.intro l17 (And.intro m1 m2))))))))))))))) ?_) | (apply SW.toOp; refine SWop.go (And.intro digS.eq_1 (And.intro prodS.eq_1 (And.intro rDivideS.eq_1 (And.intro wordS.eq_1 (And.intro l1 (And.intro l2 (And.intro l3 (And.intro lQ (And.intro dq (And.intro dm (And.intro hq (And.intro oQ (And.intro om (And.intro l17 (And.intro m1 m2))))))))))))))) ?_) | (apply SW.toCG; first | refine SWcall.yes (And.intro digS.eq_1 (And.intro prodS.eq_1 (And.intro rDivideS.eq_1 (And.intro wordS.eq_1 (And.intro l1 (And.intro l2 (And.intro l3 (And.intro lQ (And.intro dq (And.intro dm (And.intro hq (And.intro oQ (And.intro om (And.intro l17 (And.intro m1 m2))))))))))))))) ?_ | refine SWcall.no (And.intro digS.eq_1 (And.intro prodS.eq_1 (And.intro rDivideS.eq_1 (And.intro wordS.eq_1 (And.intro l1 (And.intro l2 (And.intro l3 (And.intro lQ (And.intro dq (And.intro dm (And.intro hq (And.intro oQ (And.intro om (And.intro l17 (And.intro m1 m2))))))))))))))) ?_) | (apply SW.toG; first | refine SWop.yes (And.intro digS.eq_1 (And.intro prodS.eq_1 (And.intro rDivideS.eq_1 (And.intro wordS.eq_1 (And.intro l1 (And.intro l2 (And.intro l3 (And.intro lQ (And.intro dq (And.intro dm (And.intro hq (And.intro oQ (And.intro om (And.intro l17 (And.intro m1 m2))))))))))))))) ?_ | refine SWop.no (And.intro digS.eq_1 (And.intro prodS.eq_1 (And.intro rDivideS.eq_1 (And.intro wordS.eq_1 (And.intro l1 (And.intro l2 (And.intro l3 (And.intro lQ (And.intro dq (And.intro dm (And.intro hq (And.intro oQ (And.intro om (And.intro l17 (And.intro m1 m2))))))))))))))) ?_)
  refine W.drawS G [[], [0], [], [2, 1, 0], [1, 0, 3, 2], [], [5, 4, 1, 0, 3, 2], [4, 1, 0, 3, 2, 6, 5], [7, 4, 1, 0, 3, 2, 6, 5], [8, 7, 4, 1, 0, 3, 2, 6, 5], [8, 7, 4, 1, 0, 3, 2, 6, 5], [9, 8, 7, 4, 1, 0, 3, 2, 6, 5], [10, 8, 7, 4, 1, 0, 3, 2, 6, 5, 11, 9]] hmix ?_
  dsimp only
  repeat' first
    | (apply DW.nil; (focus (decide +kernel)))
    | (apply DW.toC; refine DWcall.go (And.intro digS.eq_1 (And.intro prodS.eq_1 (And.intro rDivideS.eq_1 (And.intro wordS.eq_1 (And.intro l1 (And.intro l2 (And.intro l3 (And.intro lQ (And.intro dq (And.intro dm (And.intro hq (And.intro oQ (And.intro om (And.intro l17 (And.intro m1 m2))))))))))))))) ?_) | (apply DW.toOp; refine DWop.go (And.intro digS.eq_1 (And.intro prodS.eq_1 (And.intro rDivideS.eq_1 (And.intro wordS.eq_1 (And.intro l1 (And.intro l2 (And.intro l3 (And.intro lQ (And.intro dq (And.intro dm (And.intro hq (And.intro oQ (And.intro om (And.intro l17 (And.intro m1 m2))))))))))))))) ?_) | (apply DW.toCG; first | refine DWcall.yes (And.intro digS.eq_1 (And.intro prodS.eq_1 (And.intro rDivideS.eq_1 (And.intro wordS.eq_1 (And.intro l1 (And.intro l2 (And.intro l3 (And.intro lQ (And.intro dq (And.intro dm (And.intro hq (And.intro oQ (And.intro om (And.intro l17 (And.intro m1 m2))))))))))))))) ?_ | refine DWcall.no (And.intro digS.eq_1 (And.intro prodS.eq_1 (And.intro rDivideS.eq_1 (And.intro wordS.eq_1 (And.intro l1 (And.intro l2 (And.intro l3 (And.intro lQ (And.intro dq (And.intro dm (And.intro hq (And.intro oQ (And.intro om (And.intro l17 (And.intro m1 m2))))))))))))))) ?_) | (apply DW.toG; first | refine DWop.yes (And.intro digS.eq_1 (And.intro prodS.eq_1 (And.intro rDivideS.eq_1 (And.intro wordS.eq_1 (And.intro l1 (And.intro l2 (And.intro l3 (And.intro lQ (And.intro dq (And.intro dm (And.intro hq (And.intro oQ (And.intro om (And.intro l17 (And.intro m1 m2))))))))))))))) ?_ | refine DWop.no (And.intro digS.eq_1 (And.intro prodS.eq_1 (And.intro rDivideS.eq_1 (And.intro wordS.eq_1 (And.intro l1 (And.intro l2 (And.intro l3 (And.intro lQ (And.intro dq (And.intro dm (And.intro hq (And.intro oQ (And.intro om (And.intro l17 (And.intro m1 m2))))))))))))))) ?_)
  repeat' first
    | refine W.seq ?_ | (refine W.regS G ?_; dsimp only) | refine SW.nil ?_ | refine thenQ_normal ?_ | refine W.skip ?_ | refine W.exit ?_ | refine thenQ_exit ?_ | refine inBlockQ_exit ?_ | refine inBlockQ_normal ?_ | refine W.block ?_
    | (apply SW.toC; refine SWcall.go (And.intro digS.eq_1 (And.intro prodS.eq_1 (And.intro rDivideS.eq_1 (And.intro wordS.eq_1 (And.intro l1 (And.intro l2 (And.intro l3 (And.intro lQ (And.intro dq (And.intro dm (And.intro hq (And.intro oQ (And.intro om (And.intro l17 (And.intro m1 m2))))))))))))))) ?_) | (apply SW.toOp; refine SWop.go (And.intro digS.eq_1 (And.intro prodS.eq_1 (And.intro rDivideS.eq_1 (And.intro wordS.eq_1 (And.intro l1 (And.intro l2 (And.intro l3 (And.intro lQ (And.intro dq (And.intro dm (And.intro hq (And.intro oQ (And.intro om (And.intro l17 (And.intro m1 m2))))))))))))))) ?_) | (apply SW.toCG; first | refine SWcall.yes (And.intro digS.eq_1 (And.intro prodS.eq_1 (And.intro rDivideS.eq_1 (And.intro wordS.eq_1 (And.intro l1 (And.intro l2 (And.intro l3 (And.intro lQ (And.intro dq (And.intro dm (And.intro hq (And.intro oQ (And.intro om (And.intro l17 (And.intro m1 m2))))))))))))))) ?_ | refine SWcall.no (And.intro digS.eq_1 (And.intro prodS.eq_1 (And.intro rDivideS.eq_1 (And.intro wordS.eq_1 (And.intro l1 (And.intro l2 (And.intro l3 (And.intro lQ (And.intro dq (And.intro dm (And.intro hq (And.intro oQ (And.intro om (And.intro l17 (And.intro m1 m2))))))))))))))) ?_) | (apply SW.toG; first | refine SWop.yes (And.intro digS.eq_1 (And.intro prodS.eq_1 (And.intro rDivideS.eq_1 (And.intro wordS.eq_1 (And.intro l1 (And.intro l2 (And.intro l3 (And.intro lQ (And.intro dq (And.intro dm (And.intro hq (And.intro oQ (And.intro om (And.intro l17 (And.intro m1 m2))))))))))))))) ?_ | refine SWop.no (And.intro digS.eq_1 (And.intro prodS.eq_1 (And.intro rDivideS.eq_1 (And.intro wordS.eq_1 (And.intro l1 (And.intro l2 (And.intro l3 (And.intro lQ (And.intro dq (And.intro dm (And.intro hq (And.intro oQ (And.intro om (And.intro l17 (And.intro m1 m2))))))))))))))) ?_)
  refine W.ret ?_
  repeat' first
    | refine thenQ_ret ?_
    | refine inBlockQ_ret ?_
  refine fin1Z (And.intro digS.eq_1 (And.intro prodS.eq_1 (And.intro rDivideS.eq_1 (And.intro wordS.eq_1 (And.intro l1 (And.intro l2 (And.intro l3 (And.intro lQ (And.intro dq (And.intro dm (And.intro hq (And.intro oQ (And.intro om (And.intro l17 (And.intro m1 m2))))))))))))))) ?_
  exact leV_refl
end Go.Vm.C01
