/- What some functions of the program compute, walked through once. -/
import Derived.Test.YthjgpkaamgoodaaCCI
namespace Go.Vm.C01
open Go Go.Proofs
set_option linter.unusedVariables false
set_option linter.unusedSimpArgs false
set_option maxRecDepth 100000
set_option maxHeartbeats 8000000

noncomputable def ModS : FSpec := { run := fun ins => match ins with
  | [.agg 4 (.u 64 a), .agg 4 (.u 64 b)] => chk (a.length = 4 ∧ b.length = 4) (some (.agg 4 (.u 64 (wOf (wmod (wv a) (wv b)))), []))
  | _ => none }
theorem Mod_sound : SoundFn Try.prog glB 57 ModS.run := by
  have G := good_of (P := Try.prog) glB_ro (l := [(80, divS)]) (by simp only [List.forall_mem_cons]; exact ⟨div_sound, by simp⟩)
  refine soundFn_of_W G Try.func57 (by decide) rfl (by decide) ?_
  intro ins ret outs h
  unfold ModS at h
  dsimp only at h
  split at h
  rotate_left
  · cases h
  rename_i a b
  obtain ⟨hl, h'⟩ := chk_some h
  clear h
  cases h'
  obtain ⟨la, lb⟩ := hl
  refine ⟨by show 2 ≤ 14; decide, fun w0 ext av => ?_⟩
  rw [Try.ntmps57, st0_eq]
  repeat' first
    | refine W.seq ?_ | (refine W.regS G ?_; dsimp only) | refine SW.nil ?_ | refine thenQ_normal ?_ | refine W.skip ?_ | refine W.exit ?_ | refine thenQ_exit ?_ | refine inBlockQ_exit ?_ | refine inBlockQ_normal ?_ | refine W.block ?_
    | (apply SW.toC; refine SWcall.go (And.intro divS.eq_1 (And.intro la lb)) ?_) | (apply SW.toOp; refine SWop.go (And.intro divS.eq_1 (And.intro la lb)) ?_) | (apply SW.toCG; first | refine SWcall.yes (And.intro divS.eq_1 (And.intro la lb)) ?_ | refine SWcall.no (And.intro divS.eq_1 (And.intro la lb)) ?_) | (apply SW.toG; first | refine SWop.yes (And.intro divS.eq_1 (And.intro la lb)) ?_ | refine SWop.no (And.intro divS.eq_1 (And.intro la lb)) ?_)
  refine W.ret ?_
  repeat' first
    | refine thenQ_ret ?_
    | refine inBlockQ_ret ?_
  refine fin1Z (And.intro divS.eq_1 (And.intro la lb)) ?_
  exact leV_refl
noncomputable def negS : FSpec := { run := fun ins => match ins with
  | [.agg 4 (.u 64 a)] => some (.agg 4 (.u 64 (wOf (B256 - wv a))), [])
  | _ => none }
theorem neg_sound : SoundFn Try.prog glB 84 negS.run := by
  have G := good_of (P := Try.prog) glB_ro (l := [(36, SubS)]) (by simp only [List.forall_mem_cons]; exact ⟨Sub_sound, by simp⟩)
  refine soundFn_of_W G Try.func84 (by decide) rfl (by decide) ?_
  intro ins ret outs h
  unfold negS at h
  dsimp only at h
  split at h
  rotate_left
  · cases h
  rename_i a
  cases h
  refine ⟨by show 1 ≤ 6; decide, fun w0 ext av => ?_⟩
  rw [Try.ntmps84, st0_eq]
  have lz : (zeros 64 4).length = 4 := rfl
  have e : wOf (B256 - wv a) = wOf (wv (zeros 64 4) + B256 - wv a) := by rw [wv_zero4, Nat.zero_add]
  rw [e]
  repeat' first
    | refine W.seq ?_ | (refine W.regS G ?_; dsimp only) | refine SW.nil ?_ | refine thenQ_normal ?_ | refine W.skip ?_ | refine W.exit ?_ | refine thenQ_exit ?_ | refine inBlockQ_exit ?_ | refine inBlockQ_normal ?_ | refine W.block ?_
    | (apply SW.toC; refine SWcall.go (And.intro SubS.eq_1 lz) ?_) | (apply SW.toOp; refine SWop.go (And.intro SubS.eq_1 lz) ?_) | (apply SW.toCG; first | refine SWcall.yes (And.intro SubS.eq_1 lz) ?_ | refine SWcall.no (And.intro SubS.eq_1 lz) ?_) | (apply SW.toG; first | refine SWop.yes (And.intro SubS.eq_1 lz) ?_ | refine SWop.no (And.intro SubS.eq_1 lz) ?_)
  refine W.ret ?_
  repeat' first
    | refine thenQ_ret ?_
    | refine inBlockQ_ret ?_
  refine fin1Z (And.intro SubS.eq_1 lz) ?_
  exact leV_refl
def plF (a : List (BitVec 64)) : List (BitVec 64) := if H255 ≤ wv a then wOf (B256 - wv a) else a
theorem plF_len {a : List (BitVec 64)} (la : a.length = 4) : (plF a).length = 4 := by
  unfold plF
  split
  · rfl
  · exact la
noncomputable def plainS : FSpec := { run := fun ins => match ins with
  | [.agg 4 (.u 64 a)] => some (.agg 4 (.u 64 (plF a)), [])
  | _ => none }
theorem plain_sound : SoundFn Try.prog glB 82 plainS.run := by
  have G := good_of (P := Try.prog) glB_ro (l := [(83, negativeS), (84, negS)]) (by simp only [List.forall_mem_cons]; exact ⟨negative_sound, neg_sound, by simp⟩)
  refine soundFn_of_W G Try.func82 (by decide) rfl (by decide) ?_
  intro ins ret outs h
  unfold plainS at h
  dsimp only at h
  split at h
  rotate_left
  · cases h
  rename_i a
  cases h
  refine ⟨by show 1 ≤ 8; decide, fun w0 ext av => ?_⟩
  rw [Try.ntmps82, st0_eq]
  have ht := top_get a
  have hF : plF a = if H255 ≤ wv a then wOf (B256 - wv a) else a := rfl
  repeat' first
    | refine W.seq ?_ | (refine W.regS G ?_; dsimp only) | refine SW.nil ?_ | refine thenQ_normal ?_ | refine W.skip ?_ | refine W.exit ?_ | refine thenQ_exit ?_ | refine inBlockQ_exit ?_ | refine inBlockQ_normal ?_ | refine W.block ?_
    | (apply SW.toC; refine SWcall.go (And.intro negativeS.eq_1 negS.eq_1) ?_) | (apply SW.toOp; refine SWop.go (And.intro negativeS.eq_1 negS.eq_1) ?_) | (apply SW.toCG; first | refine SWcall.yes (And.intro negativeS.eq_1 negS.eq_1) ?_ | refine SWcall.no (And.intro negativeS.eq_1 negS.eq_1) ?_) | (apply SW.toG; first | refine SWop.yes (And.intro negativeS.eq_1 negS.eq_1) ?_ | refine SWop.no (And.intro negativeS.eq_1 negS.eq_1) ?_)
  refine W.condZ G (And.intro negativeS.eq_1 negS.eq_1) ?_ ?_
  all_goals intro hc
  · have hc' : bitAt a 255 = true := hc
    rw [ht] at hc'
    rw [if_pos (of_decide_eq_true hc')] at hF
    rw [hF]
    repeat' first
      | refine W.seq ?_ | (refine W.regS G ?_; dsimp only) | refine SW.nil ?_ | refine thenQ_normal ?_ | refine W.skip ?_ | refine W.exit ?_ | refine thenQ_exit ?_ | refine inBlockQ_exit ?_ | refine inBlockQ_normal ?_ | refine W.block ?_
      | (apply SW.toC; refine SWcall.go (And.intro negativeS.eq_1 negS.eq_1) ?_) | (apply SW.toOp; refine SWop.go (And.intro negativeS.eq_1 negS.eq_1) ?_) | (apply SW.toCG; first | refine SWcall.yes (And.intro negativeS.eq_1 negS.eq_1) ?_ | refine SWcall.no (And.intro negativeS.eq_1 negS.eq_1) ?_) | (apply SW.toG; first | refine SWop.yes (And.intro negativeS.eq_1 negS.eq_1) ?_ | refine SWop.no (And.intro negativeS.eq_1 negS.eq_1) ?_)
    refine W.ret ?_
    repeat' first
      | refine thenQ_ret ?_
      | refine inBlockQ_ret ?_
    refine fin1Z (And.intro negativeS.eq_1 negS.eq_1) ?_
    exact leV_refl
  · have hc' : bitAt a 255 = false := hc
    rw [ht] at hc'
    rw [if_neg (of_decide_eq_false hc')] at hF
    rw [hF]
    repeat' first
      | refine W.seq ?_ | (refine W.regS G ?_; dsimp only) | refine SW.nil ?_ | refine thenQ_normal ?_ | refine W.skip ?_ | refine W.exit ?_ | refine thenQ_exit ?_ | refine inBlockQ_exit ?_ | refine inBlockQ_normal ?_ | refine W.block ?_
      | (apply SW.toC; refine SWcall.go (And.intro negativeS.eq_1 negS.eq_1) ?_) | (apply SW.toOp; refine SWop.go (And.intro negativeS.eq_1 negS.eq_1) ?_) | (apply SW.toCG; first | refine SWcall.yes (And.intro negativeS.eq_1 negS.eq_1) ?_ | refine SWcall.no (And.intro negativeS.eq_1 negS.eq_1) ?_) | (apply SW.toG; first | refine SWop.yes (And.intro negativeS.eq_1 negS.eq_1) ?_ | refine SWop.no (And.intro negativeS.eq_1 negS.eq_1) ?_)
    refine W.ret ?_
    repeat' first
      | refine thenQ_ret ?_
      | refine inBlockQ_ret ?_
    refine fin1Z (And.intro negativeS.eq_1 negS.eq_1) ?_
    exact leV_refl
def sdF (a b : List (BitVec 64)) : List (BitVec 64) := if decide (H255 ≤ wv a) = decide (H255 ≤ wv b) then wOf (wv (plF a) / wv (plF b)) else wOf (B256 - wv (wOf (wv (plF a) / wv (plF b))))
def smF (a b : List (BitVec 64)) : List (BitVec 64) := if decide (H255 ≤ wv a) = true then wOf (B256 - wv (wOf (wmod (wv (plF a)) (wv (plF b))))) else wOf (wmod (wv (plF a)) (wv (plF b)))
noncomputable def SDivS : FSpec := { run := fun ins => match ins with
  | [.agg 4 (.u 64 a), .agg 4 (.u 64 b)] => chk (a.length = 4 ∧ b.length = 4) (some (.agg 4 (.u 64 (sdF a b)), []))
  | _ => none }
theorem SDiv_sound : SoundFn Try.prog glB 58 SDivS.run := by
  have G := good_of (P := Try.prog) glB_ro (l := [(82, plainS), (80, divS), (83, negativeS), (84, negS)]) (by simp only [List.forall_mem_cons]; exact ⟨plain_sound, div_sound, negative_sound, neg_sound, by simp⟩)
  refine soundFn_of_W G Try.func58 (by decide) rfl (by decide) ?_
  intro ins ret outs h
  unfold SDivS at h
  dsimp only at h
  split at h
  rotate_left
  · cases h
  rename_i a b
  obtain ⟨hl, h'⟩ := chk_some h
  clear h
  cases h'
  obtain ⟨la, lb⟩ := hl
  refine ⟨by show 2 ≤ 23; decide, fun w0 ext av => ?_⟩
  rw [Try.ntmps58, st0_eq]
  have ta := top_get a
  have tb := top_get b
  have hF : sdF a b = if decide (H255 ≤ wv a) = decide (H255 ≤ wv b) then wOf (wv (plF a) / wv (plF b)) else wOf (B256 - wv (wOf (wv (plF a) / wv (plF b)))) := rfl
  have pa := plF_len la
  have pb := plF_len lb
  rw [← ta, ← tb] at hF
  generalize hza : bitAt a 255 = za at hF
  generalize hzb : bitAt b 255 = zb at hF
  repeat' first
    | refine W.seq ?_ | (refine W.regS G ?_; dsimp only) | refine SW.nil ?_ | refine thenQ_normal ?_ | refine W.skip ?_ | refine W.exit ?_ | refine thenQ_exit ?_ | refine inBlockQ_exit ?_ | refine inBlockQ_normal ?_
    | (apply SW.toC; refine SWcall.go (And.intro plainS.eq_1 (And.intro divS.eq_1 (And.intro pa pb))) ?_) | (apply SW.toOp; refine SWop.go (And.intro plainS.eq_1 (And.intro divS.eq_1 (And.intro pa pb))) ?_) | (apply SW.toCG; first | refine SWcall.yes (And.intro plainS.eq_1 (And.intro divS.eq_1 (And.intro pa pb))) ?_ | refine SWcall.no (And.intro plainS.eq_1 (And.intro divS.eq_1 (And.intro pa pb))) ?_) | (apply SW.toG; first | refine SWop.yes (And.intro plainS.eq_1 (And.intro divS.eq_1 (And.intro pa pb))) ?_ | refine SWop.no (And.intro plainS.eq_1 (And.intro divS.eq_1 (And.intro pa pb))) ?_)
  refine W.drawS G [[], [0], [], [2, 1, 0], [1, 0, 3, 2], [4, 1, 0, 3, 2], [5, 4, 1, 0, 3, 2], [5, 4, 1, 0, 3, 2], [], [], [8, 6, 5, 4, 1, 0, 3, 2, 9], [9, 7, 5, 4, 1, 0, 3, 2, 10, 8, 6]] hmix ?_
  dsimp only
  repeat' first
    | (apply DW.nil; (focus (decide +kernel)))
    | (apply DW.toC; refine DWcall.go (And.intro plainS.eq_1 (And.intro divS.eq_1 (And.intro pa pb))) ?_) | (apply DW.toOp; refine DWop.go (And.intro plainS.eq_1 (And.intro divS.eq_1 (And.intro pa pb))) ?_) | (apply DW.toCG; first | refine DWcall.yes (And.intro plainS.eq_1 (And.intro divS.eq_1 (And.intro pa pb))) ?_ | refine DWcall.no (And.intro plainS.eq_1 (And.intro divS.eq_1 (And.intro pa pb))) ?_) | (apply DW.toG; first | refine DWop.yes (And.intro plainS.eq_1 (And.intro divS.eq_1 (And.intro pa pb))) ?_ | refine DWop.no (And.intro plainS.eq_1 (And.intro divS.eq_1 (And.intro pa pb))) ?_)
  cases za <;> cases zb
  · rw [if_pos rfl] at hF
    rw [hF]
    repeat' first
      | refine W.seq ?_ | (refine W.regS G ?_; dsimp only) | refine SW.nil ?_ | refine thenQ_normal ?_ | refine W.skip ?_ | refine W.exit ?_ | refine thenQ_exit ?_ | refine inBlockQ_exit ?_ | refine inBlockQ_normal ?_
      | (apply SW.toC; refine SWcall.go (And.intro negativeS.eq_1 (And.intro hza hzb)) ?_) | (apply SW.toOp; refine SWop.go (And.intro negativeS.eq_1 (And.intro hza hzb)) ?_) | (apply SW.toCG; first | refine SWcall.yes (And.intro negativeS.eq_1 (And.intro hza hzb)) ?_ | refine SWcall.no (And.intro negativeS.eq_1 (And.intro hza hzb)) ?_) | (apply SW.toG; first | refine SWop.yes (And.intro negativeS.eq_1 (And.intro hza hzb)) ?_ | refine SWop.no (And.intro negativeS.eq_1 (And.intro hza hzb)) ?_)
    refine W.drawS G [[], [0], [], [2, 1, 0], [1, 0, 3, 2]] hmix ?_
    dsimp only
    repeat' first
      | (apply DW.nil; (focus (decide +kernel)))
      | (apply DW.toC; refine DWcall.go (And.intro negativeS.eq_1 (And.intro hza hzb)) ?_) | (apply DW.toOp; refine DWop.go (And.intro negativeS.eq_1 (And.intro hza hzb)) ?_) | (apply DW.toCG; first | refine DWcall.yes (And.intro negativeS.eq_1 (And.intro hza hzb)) ?_ | refine DWcall.no (And.intro negativeS.eq_1 (And.intro hza hzb)) ?_) | (apply DW.toG; first | refine DWop.yes (And.intro negativeS.eq_1 (And.intro hza hzb)) ?_ | refine DWop.no (And.intro negativeS.eq_1 (And.intro hza hzb)) ?_)
    repeat' first
      | refine W.seq ?_ | (refine W.regS G ?_; dsimp only) | refine SW.nil ?_ | refine thenQ_normal ?_ | refine W.skip ?_ | refine W.exit ?_ | refine thenQ_exit ?_ | refine inBlockQ_exit ?_ | refine inBlockQ_normal ?_ | refine W.block ?_
      | (apply SW.toC; refine SWcall.go (And.intro negativeS.eq_1 (And.intro hza hzb)) ?_) | (apply SW.toOp; refine SWop.go (And.intro negativeS.eq_1 (And.intro hza hzb)) ?_) | (apply SW.toCG; first | refine SWcall.yes (And.intro negativeS.eq_1 (And.intro hza hzb)) ?_ | refine SWcall.no (And.intro negativeS.eq_1 (And.intro hza hzb)) ?_) | (apply SW.toG; first | refine SWop.yes (And.intro negativeS.eq_1 (And.intro hza hzb)) ?_ | refine SWop.no (And.intro negativeS.eq_1 (And.intro hza hzb)) ?_)
    refine W.condZ G (And.intro negativeS.eq_1 (And.intro hza hzb)) ?_ ?_
    all_goals intro hc
    · exact absurd hc (by decide)
    repeat' first
      | refine W.seq ?_ | (refine W.regS G ?_; dsimp only) | refine SW.nil ?_ | refine thenQ_normal ?_ | refine W.skip ?_ | refine W.exit ?_ | refine thenQ_exit ?_ | refine inBlockQ_exit ?_ | refine inBlockQ_normal ?_ | refine W.block ?_
      | (apply SW.toC; refine SWcall.go (And.intro negativeS.eq_1 (And.intro hza hzb)) ?_) | (apply SW.toOp; refine SWop.go (And.intro negativeS.eq_1 (And.intro hza hzb)) ?_) | (apply SW.toCG; first | refine SWcall.yes (And.intro negativeS.eq_1 (And.intro hza hzb)) ?_ | refine SWcall.no (And.intro negativeS.eq_1 (And.intro hza hzb)) ?_) | (apply SW.toG; first | refine SWop.yes (And.intro negativeS.eq_1 (And.intro hza hzb)) ?_ | refine SWop.no (And.intro negativeS.eq_1 (And.intro hza hzb)) ?_)
    refine W.ret ?_
    repeat' first
      | refine thenQ_ret ?_
      | refine inBlockQ_ret ?_
    refine fin1Z (And.intro negativeS.eq_1 (And.intro hza hzb)) ?_
    exact leV_refl
  · rw [if_neg (by decide)] at hF
    rw [hF]
    repeat' first
      | refine W.seq ?_ | (refine W.regS G ?_; dsimp only) | refine SW.nil ?_ | refine thenQ_normal ?_ | refine W.skip ?_ | refine W.exit ?_ | refine thenQ_exit ?_ | refine inBlockQ_exit ?_ | refine inBlockQ_normal ?_
      | (apply SW.toC; refine SWcall.go (And.intro negativeS.eq_1 (And.intro hza (And.intro hzb negS.eq_1))) ?_) | (apply SW.toOp; refine SWop.go (And.intro negativeS.eq_1 (And.intro hza (And.intro hzb negS.eq_1))) ?_) | (apply SW.toCG; first | refine SWcall.yes (And.intro negativeS.eq_1 (And.intro hza (And.intro hzb negS.eq_1))) ?_ | refine SWcall.no (And.intro negativeS.eq_1 (And.intro hza (And.intro hzb negS.eq_1))) ?_) | (apply SW.toG; first | refine SWop.yes (And.intro negativeS.eq_1 (And.intro hza (And.intro hzb negS.eq_1))) ?_ | refine SWop.no (And.intro negativeS.eq_1 (And.intro hza (And.intro hzb negS.eq_1))) ?_)
    refine W.drawS G [[], [0], [], [2, 1, 0], [1, 0, 3, 2]] hmix ?_
    dsimp only
    repeat' first
      | (apply DW.nil; (focus (decide +kernel)))
      | (apply DW.toC; refine DWcall.go (And.intro negativeS.eq_1 (And.intro hza (And.intro hzb negS.eq_1))) ?_) | (apply DW.toOp; refine DWop.go (And.intro negativeS.eq_1 (And.intro hza (And.intro hzb negS.eq_1))) ?_) | (apply DW.toCG; first | refine DWcall.yes (And.intro negativeS.eq_1 (And.intro hza (And.intro hzb negS.eq_1))) ?_ | refine DWcall.no (And.intro negativeS.eq_1 (And.intro hza (And.intro hzb negS.eq_1))) ?_) | (apply DW.toG; first | refine DWop.yes (And.intro negativeS.eq_1 (And.intro hza (And.intro hzb negS.eq_1))) ?_ | refine DWop.no (And.intro negativeS.eq_1 (And.intro hza (And.intro hzb negS.eq_1))) ?_)
    repeat' first
      | refine W.seq ?_ | (refine W.regS G ?_; dsimp only) | refine SW.nil ?_ | refine thenQ_normal ?_ | refine W.skip ?_ | refine W.exit ?_ | refine thenQ_exit ?_ | refine inBlockQ_exit ?_ | refine inBlockQ_normal ?_ | refine W.block ?_
      | (apply SW.toC; refine SWcall.go (And.intro negativeS.eq_1 (And.intro hza (And.intro hzb negS.eq_1))) ?_) | (apply SW.toOp; refine SWop.go (And.intro negativeS.eq_1 (And.intro hza (And.intro hzb negS.eq_1))) ?_) | (apply SW.toCG; first | refine SWcall.yes (And.intro negativeS.eq_1 (And.intro hza (And.intro hzb negS.eq_1))) ?_ | refine SWcall.no (And.intro negativeS.eq_1 (And.intro hza (And.intro hzb negS.eq_1))) ?_) | (apply SW.toG; first | refine SWop.yes (And.intro negativeS.eq_1 (And.intro hza (And.intro hzb negS.eq_1))) ?_ | refine SWop.no (And.intro negativeS.eq_1 (And.intro hza (And.intro hzb negS.eq_1))) ?_)
    refine W.condZ G (And.intro negativeS.eq_1 (And.intro hza (And.intro hzb negS.eq_1))) ?_ ?_
    all_goals intro hc
    · repeat' first
        | refine W.seq ?_ | (refine W.regS G ?_; dsimp only) | refine SW.nil ?_ | refine thenQ_normal ?_ | refine W.skip ?_ | refine W.exit ?_ | refine thenQ_exit ?_ | refine inBlockQ_exit ?_ | refine inBlockQ_normal ?_ | refine W.block ?_
        | (apply SW.toC; refine SWcall.go (And.intro negativeS.eq_1 (And.intro hza (And.intro hzb negS.eq_1))) ?_) | (apply SW.toOp; refine SWop.go (And.intro negativeS.eq_1 (And.intro hza (And.intro hzb negS.eq_1))) ?_) | (apply SW.toCG; first | refine SWcall.yes (And.intro negativeS.eq_1 (And.intro hza (And.intro hzb negS.eq_1))) ?_ | refine SWcall.no (And.intro negativeS.eq_1 (And.intro hza (And.intro hzb negS.eq_1))) ?_) | (apply SW.toG; first | refine SWop.yes (And.intro negativeS.eq_1 (And.intro hza (And.intro hzb negS.eq_1))) ?_ | refine SWop.no (And.intro negativeS.eq_1 (And.intro hza (And.intro hzb negS.eq_1))) ?_)
      refine W.ret ?_
      repeat' first
        | refine thenQ_ret ?_
        | refine inBlockQ_ret ?_
      refine fin1Z (And.intro negativeS.eq_1 (And.intro hza (And.intro hzb negS.eq_1))) ?_
      exact leV_refl
    · exact absurd hc (by decide)
  · rw [if_neg (by decide)] at hF
    rw [hF]
    repeat' first
      | refine W.seq ?_ | (refine W.regS G ?_; dsimp only) | refine SW.nil ?_ | refine thenQ_normal ?_ | refine W.skip ?_ | refine W.exit ?_ | refine thenQ_exit ?_ | refine inBlockQ_exit ?_ | refine inBlockQ_normal ?_
      | (apply SW.toC; refine SWcall.go (And.intro negativeS.eq_1 (And.intro hza (And.intro hzb negS.eq_1))) ?_) | (apply SW.toOp; refine SWop.go (And.intro negativeS.eq_1 (And.intro hza (And.intro hzb negS.eq_1))) ?_) | (apply SW.toCG; first | refine SWcall.yes (And.intro negativeS.eq_1 (And.intro hza (And.intro hzb negS.eq_1))) ?_ | refine SWcall.no (And.intro negativeS.eq_1 (And.intro hza (And.intro hzb negS.eq_1))) ?_) | (apply SW.toG; first | refine SWop.yes (And.intro negativeS.eq_1 (And.intro hza (And.intro hzb negS.eq_1))) ?_ | refine SWop.no (And.intro negativeS.eq_1 (And.intro hza (And.intro hzb negS.eq_1))) ?_)
    refine W.drawS G [[], [0], [], [2, 1, 0], [1, 0, 3, 2]] hmix ?_
    dsimp only
    repeat' first
      | (apply DW.nil; (focus (decide +kernel)))
      | (apply DW.toC; refine DWcall.go (And.intro negativeS.eq_1 (And.intro hza (And.intro hzb negS.eq_1))) ?_) | (apply DW.toOp; refine DWop.go (And.intro negativeS.eq_1 (And.intro hza (And.intro hzb negS.eq_1))) ?_) | (apply DW.toCG; first | refine DWcall.yes (And.intro negativeS.eq_1 (And.intro hza (And.intro hzb negS.eq_1))) ?_ | refine DWcall.no (And.intro negativeS.eq_1 (And.intro hza (And.intro hzb negS.eq_1))) ?_) | (apply DW.toG; first | refine DWop.yes (And.intro negativeS.eq_1 (And.intro hza (And.intro hzb negS.eq_1))) ?_ | refine DWop.no (And.intro negativeS.eq_1 (And.intro hza (And.intro hzb negS.eq_1))) ?_)
    repeat' first
      | refine W.seq ?_ | (refine W.regS G ?_; dsimp only) | refine SW.nil ?_ | refine thenQ_normal ?_ | refine W.skip ?_ | refine W.exit ?_ | refine thenQ_exit ?_ | refine inBlockQ_exit ?_ | refine inBlockQ_normal ?_ | refine W.block ?_
      | (apply SW.toC; refine SWcall.go (And.intro negativeS.eq_1 (And.intro hza (And.intro hzb negS.eq_1))) ?_) | (apply SW.toOp; refine SWop.go (And.intro negativeS.eq_1 (And.intro hza (And.intro hzb negS.eq_1))) ?_) | (apply SW.toCG; first | refine SWcall.yes (And.intro negativeS.eq_1 (And.intro hza (And.intro hzb negS.eq_1))) ?_ | refine SWcall.no (And.intro negativeS.eq_1 (And.intro hza (And.intro hzb negS.eq_1))) ?_) | (apply SW.toG; first | refine SWop.yes (And.intro negativeS.eq_1 (And.intro hza (And.intro hzb negS.eq_1))) ?_ | refine SWop.no (And.intro negativeS.eq_1 (And.intro hza (And.intro hzb negS.eq_1))) ?_)
    refine W.condZ G (And.intro negativeS.eq_1 (And.intro hza (And.intro hzb negS.eq_1))) ?_ ?_
    all_goals intro hc
    · repeat' first
        | refine W.seq ?_ | (refine W.regS G ?_; dsimp only) | refine SW.nil ?_ | refine thenQ_normal ?_ | refine W.skip ?_ | refine W.exit ?_ | refine thenQ_exit ?_ | refine inBlockQ_exit ?_ | refine inBlockQ_normal ?_ | refine W.block ?_
        | (apply SW.toC; refine SWcall.go (And.intro negativeS.eq_1 (And.intro hza (And.intro hzb negS.eq_1))) ?_) | (apply SW.toOp; refine SWop.go (And.intro negativeS.eq_1 (And.intro hza (And.intro hzb negS.eq_1))) ?_) | (apply SW.toCG; first | refine SWcall.yes (And.intro negativeS.eq_1 (And.intro hza (And.intro hzb negS.eq_1))) ?_ | refine SWcall.no (And.intro negativeS.eq_1 (And.intro hza (And.intro hzb negS.eq_1))) ?_) | (apply SW.toG; first | refine SWop.yes (And.intro negativeS.eq_1 (And.intro hza (And.intro hzb negS.eq_1))) ?_ | refine SWop.no (And.intro negativeS.eq_1 (And.intro hza (And.intro hzb negS.eq_1))) ?_)
      refine W.ret ?_
      repeat' first
        | refine thenQ_ret ?_
        | refine inBlockQ_ret ?_
      refine fin1Z (And.intro negativeS.eq_1 (And.intro hza (And.intro hzb negS.eq_1))) ?_
      exact leV_refl
    · exact absurd hc (by decide)
  · rw [if_pos rfl] at hF
    rw [hF]
    repeat' first
      | refine W.seq ?_ | (refine W.regS G ?_; dsimp only) | refine SW.nil ?_ | refine thenQ_normal ?_ | refine W.skip ?_ | refine W.exit ?_ | refine thenQ_exit ?_ | refine inBlockQ_exit ?_ | refine inBlockQ_normal ?_
      | (apply SW.toC; refine SWcall.go (And.intro negativeS.eq_1 (And.intro hza hzb)) ?_) | (apply SW.toOp; refine SWop.go (And.intro negativeS.eq_1 (And.intro hza hzb)) ?_) | (apply SW.toCG; first | refine SWcall.yes (And.intro negativeS.eq_1 (And.intro hza hzb)) ?_ | refine SWcall.no (And.intro negativeS.eq_1 (And.intro hza hzb)) ?_) | (apply SW.toG; first | refine SWop.yes (And.intro negativeS.eq_1 (And.intro hza hzb)) ?_ | refine SWop.no (And.intro negativeS.eq_1 (And.intro hza hzb)) ?_)
    refine W.drawS G [[], [0], [], [2, 1, 0], [1, 0, 3, 2]] hmix ?_
    dsimp only
    repeat' first
      | (apply DW.nil; (focus (decide +kernel)))
      | (apply DW.toC; refine DWcall.go (And.intro negativeS.eq_1 (And.intro hza hzb)) ?_) | (apply DW.toOp; refine DWop.go (And.intro negativeS.eq_1 (And.intro hza hzb)) ?_) | (apply DW.toCG; first | refine DWcall.yes (And.intro negativeS.eq_1 (And.intro hza hzb)) ?_ | refine DWcall.no (And.intro negativeS.eq_1 (And.intro hza hzb)) ?_) | (apply DW.toG; first | refine DWop.yes (And.intro negativeS.eq_1 (And.intro hza hzb)) ?_ | refine DWop.no (And.intro negativeS.eq_1 (And.intro hza hzb)) ?_)
    repeat' first
      | refine W.seq ?_ | (refine W.regS G ?_; dsimp only) | refine SW.nil ?_ | refine thenQ_normal ?_ | refine W.skip ?_ | refine W.exit ?_ | refine thenQ_exit ?_ | refine inBlockQ_exit ?_ | refine inBlockQ_normal ?_ | refine W.block ?_
      | (apply SW.toC; refine SWcall.go (And.intro negativeS.eq_1 (And.intro hza hzb)) ?_) | (apply SW.toOp; refine SWop.go (And.intro negativeS.eq_1 (And.intro hza hzb)) ?_) | (apply SW.toCG; first | refine SWcall.yes (And.intro negativeS.eq_1 (And.intro hza hzb)) ?_ | refine SWcall.no (And.intro negativeS.eq_1 (And.intro hza hzb)) ?_) | (apply SW.toG; first | refine SWop.yes (And.intro negativeS.eq_1 (And.intro hza hzb)) ?_ | refine SWop.no (And.intro negativeS.eq_1 (And.intro hza hzb)) ?_)
    refine W.condZ G (And.intro negativeS.eq_1 (And.intro hza hzb)) ?_ ?_
    all_goals intro hc
    · exact absurd hc (by decide)
    repeat' first
      | refine W.seq ?_ | (refine W.regS G ?_; dsimp only) | refine SW.nil ?_ | refine thenQ_normal ?_ | refine W.skip ?_ | refine W.exit ?_ | refine thenQ_exit ?_ | refine inBlockQ_exit ?_ | refine inBlockQ_normal ?_ | refine W.block ?_
      | (apply SW.toC; refine SWcall.go (And.intro negativeS.eq_1 (And.intro hza hzb)) ?_) | (apply SW.toOp; refine SWop.go (And.intro negativeS.eq_1 (And.intro hza hzb)) ?_) | (apply SW.toCG; first | refine SWcall.yes (And.intro negativeS.eq_1 (And.intro hza hzb)) ?_ | refine SWcall.no (And.intro negativeS.eq_1 (And.intro hza hzb)) ?_) | (apply SW.toG; first | refine SWop.yes (And.intro negativeS.eq_1 (And.intro hza hzb)) ?_ | refine SWop.no (And.intro negativeS.eq_1 (And.intro hza hzb)) ?_)
    refine W.ret ?_
    repeat' first
      | refine thenQ_ret ?_
      | refine inBlockQ_ret ?_
    refine fin1Z (And.intro negativeS.eq_1 (And.intro hza hzb)) ?_
    exact leV_refl
noncomputable def SModS : FSpec := { run := fun ins => match ins with
  | [.agg 4 (.u 64 a), .agg 4 (.u 64 b)] => chk (a.length = 4 ∧ b.length = 4) (some (.agg 4 (.u 64 (smF a b)), []))
  | _ => none }
theorem SMod_sound : SoundFn Try.prog glB 59 SModS.run := by
  have G := good_of (P := Try.prog) glB_ro (l := [(82, plainS), (80, divS), (83, negativeS), (84, negS)]) (by simp only [List.forall_mem_cons]; exact ⟨plain_sound, div_sound, negative_sound, neg_sound, by simp⟩)
  refine soundFn_of_W G Try.func59 (by decide) rfl (by decide) ?_
  intro ins ret outs h
  unfold SModS at h
  dsimp only at h
  split at h
  rotate_left
  · cases h
  rename_i a b
  obtain ⟨hl, h'⟩ := chk_some h
  clear h
  cases h'
  obtain ⟨la, lb⟩ := hl
  refine ⟨by show 2 ≤ 20; decide, fun w0 ext av => ?_⟩
  rw [Try.ntmps59, st0_eq]
  have ta := top_get a
  have hF : smF a b = if decide (H255 ≤ wv a) = true then wOf (B256 - wv (wOf (wmod (wv (plF a)) (wv (plF b))))) else wOf (wmod (wv (plF a)) (wv (plF b))) := rfl
  have pa := plF_len la
  have pb := plF_len lb
  rw [← ta] at hF
  generalize hza : bitAt a 255 = za at hF
  repeat' first
    | refine W.seq ?_ | (refine W.regS G ?_; dsimp only) | refine SW.nil ?_ | refine thenQ_normal ?_ | refine W.skip ?_ | refine W.exit ?_ | refine thenQ_exit ?_ | refine inBlockQ_exit ?_ | refine inBlockQ_normal ?_
    | (apply SW.toC; refine SWcall.go (And.intro plainS.eq_1 (And.intro divS.eq_1 (And.intro pa pb))) ?_) | (apply SW.toOp; refine SWop.go (And.intro plainS.eq_1 (And.intro divS.eq_1 (And.intro pa pb))) ?_) | (apply SW.toCG; first | refine SWcall.yes (And.intro plainS.eq_1 (And.intro divS.eq_1 (And.intro pa pb))) ?_ | refine SWcall.no (And.intro plainS.eq_1 (And.intro divS.eq_1 (And.intro pa pb))) ?_) | (apply SW.toG; first | refine SWop.yes (And.intro plainS.eq_1 (And.intro divS.eq_1 (And.intro pa pb))) ?_ | refine SWop.no (And.intro plainS.eq_1 (And.intro divS.eq_1 (And.intro pa pb))) ?_)
  refine W.drawS G [[], [0], [], [2, 1, 0], [1, 0, 3, 2], [4, 1, 0, 3, 2], [5, 4, 1, 0, 3, 2], [5, 4, 1, 0, 3, 2], [], [], [8, 6, 5, 4, 1, 0, 3, 2, 9], [9, 7, 5, 4, 1, 0, 3, 2, 10, 8, 6]] hmix ?_
  dsimp only
  repeat' first
    | (apply DW.nil; (focus (decide +kernel)))
    | (apply DW.toC; refine DWcall.go (And.intro plainS.eq_1 (And.intro divS.eq_1 (And.intro pa pb))) ?_) | (apply DW.toOp; refine DWop.go (And.intro plainS.eq_1 (And.intro divS.eq_1 (And.intro pa pb))) ?_) | (apply DW.toCG; first | refine DWcall.yes (And.intro plainS.eq_1 (And.intro divS.eq_1 (And.intro pa pb))) ?_ | refine DWcall.no (And.intro plainS.eq_1 (And.intro divS.eq_1 (And.intro pa pb))) ?_) | (apply DW.toG; first | refine DWop.yes (And.intro plainS.eq_1 (And.intro divS.eq_1 (And.intro pa pb))) ?_ | refine DWop.no (And.intro plainS.eq_1 (And.intro divS.eq_1 (And.intro pa pb))) ?_)
  repeat' first
    | refine W.seq ?_ | (refine W.regS G ?_; dsimp only) | refine SW.nil ?_ | refine thenQ_normal ?_ | refine W.skip ?_ | refine W.exit ?_ | refine thenQ_exit ?_ | refine inBlockQ_exit ?_ | refine inBlockQ_normal ?_ | refine W.block ?_
    | (apply SW.toC; refine SWcall.go (And.intro negativeS.eq_1 (And.intro hza negS.eq_1)) ?_) | (apply SW.toOp; refine SWop.go (And.intro negativeS.eq_1 (And.intro hza negS.eq_1)) ?_) | (apply SW.toCG; first | refine SWcall.yes (And.intro negativeS.eq_1 (And.intro hza negS.eq_1)) ?_ | refine SWcall.no (And.intro negativeS.eq_1 (And.intro hza negS.eq_1)) ?_) | (apply SW.toG; first | refine SWop.yes (And.intro negativeS.eq_1 (And.intro hza negS.eq_1)) ?_ | refine SWop.no (And.intro negativeS.eq_1 (And.intro hza negS.eq_1)) ?_)
  refine W.condZ G (And.intro negativeS.eq_1 (And.intro hza negS.eq_1)) ?_ ?_
  all_goals intro hc
  · have hc' : za = true := hc
    rw [if_pos hc'] at hF
    rw [hF]
    repeat' first
      | refine W.seq ?_ | (refine W.regS G ?_; dsimp only) | refine SW.nil ?_ | refine thenQ_normal ?_ | refine W.skip ?_ | refine W.exit ?_ | refine thenQ_exit ?_ | refine inBlockQ_exit ?_ | refine inBlockQ_normal ?_ | refine W.block ?_
      | (apply SW.toC; refine SWcall.go (And.intro negativeS.eq_1 (And.intro hza negS.eq_1)) ?_) | (apply SW.toOp; refine SWop.go (And.intro negativeS.eq_1 (And.intro hza negS.eq_1)) ?_) | (apply SW.toCG; first | refine SWcall.yes (And.intro negativeS.eq_1 (And.intro hza negS.eq_1)) ?_ | refine SWcall.no (And.intro negativeS.eq_1 (And.intro hza negS.eq_1)) ?_) | (apply SW.toG; first | refine SWop.yes (And.intro negativeS.eq_1 (And.intro hza negS.eq_1)) ?_ | refine SWop.no (And.intro negativeS.eq_1 (And.intro hza negS.eq_1)) ?_)
    refine W.ret ?_
    repeat' first
      | refine thenQ_ret ?_
      | refine inBlockQ_ret ?_
    refine fin1Z (And.intro negativeS.eq_1 (And.intro hza negS.eq_1)) ?_
    exact leV_refl
  · have hc' : ¬ za = true := by have h0 : za = false := hc; rw [h0]; decide
    rw [if_neg hc'] at hF
    rw [hF]
    repeat' first
      | refine W.seq ?_ | (refine W.regS G ?_; dsimp only) | refine SW.nil ?_ | refine thenQ_normal ?_ | refine W.skip ?_ | refine W.exit ?_ | refine thenQ_exit ?_ | refine inBlockQ_exit ?_ | refine inBlockQ_normal ?_ | refine W.block ?_
      | (apply SW.toC; refine SWcall.go (And.intro negativeS.eq_1 (And.intro hza negS.eq_1)) ?_) | (apply SW.toOp; refine SWop.go (And.intro negativeS.eq_1 (And.intro hza negS.eq_1)) ?_) | (apply SW.toCG; first | refine SWcall.yes (And.intro negativeS.eq_1 (And.intro hza negS.eq_1)) ?_ | refine SWcall.no (And.intro negativeS.eq_1 (And.intro hza negS.eq_1)) ?_) | (apply SW.toG; first | refine SWop.yes (And.intro negativeS.eq_1 (And.intro hza negS.eq_1)) ?_ | refine SWop.no (And.intro negativeS.eq_1 (And.intro hza negS.eq_1)) ?_)
    refine W.ret ?_
    repeat' first
      | refine thenQ_ret ?_
      | refine inBlockQ_ret ?_
    refine fin1Z (And.intro negativeS.eq_1 (And.intro hza negS.eq_1)) ?_
    exact leV_refl
noncomputable def rSDMS : FSpec := { run := fun ins => match ins with
  | [.agg 4 (.u 64 a), .agg 4 (.u 64 b)] => chk (a.length = 4 ∧ b.length = 4) (some (.tup [.agg 4 (.u 64 (sdF a b)), .agg 4 (.u 64 (smF a b))], []))
  | _ => none }
theorem rSDM_sound : SoundFn Try.prog glB 55 rSDMS.run := by
  have G := good_of (P := Try.prog) glB_ro (l := [(72, signedS), (54, rDMS), (76, rNegS)]) (by simp only [List.forall_mem_cons]; exact ⟨signed_sound, rDM_sound, rNeg_sound, by simp⟩)
  refine soundFn_of_W G Try.func55 (by decide) rfl (by decide) ?_
  intro ins ret outs h
  unfold rSDMS at h
  dsimp only at h
  split at h
  rotate_left
  · cases h
  rename_i a b
  obtain ⟨hl, h'⟩ := chk_some h
  clear h
  cases h'
  obtain ⟨la, lb⟩ := hl
  refine ⟨by show 2 ≤ 38; decide, fun w0 ext av => ?_⟩
  rw [Try.ntmps55, st0_eq]
  have hS : sdF a b = if decide (H255 ≤ wv a) = decide (H255 ≤ wv b) then wOf (wv (plF a) / wv (plF b)) else wOf (B256 - wv (wOf (wv (plF a) / wv (plF b)))) := rfl
  have hT : smF a b = if decide (H255 ≤ wv a) = true then wOf (B256 - wv (wOf (wmod (wv (plF a)) (wv (plF b))))) else wOf (wmod (wv (plF a)) (wv (plF b))) := rfl
  have pa := plF_len la
  have pb := plF_len lb
  have ea : (if H255 ≤ wv a then wOf (B256 - wv a) else a) = plF a := rfl
  have eb : (if H255 ≤ wv b then wOf (B256 - wv b) else b) = plF b := rfl
  generalize hza : decide (H255 ≤ wv a) = za at hS hT
  generalize hzb : decide (H255 ≤ wv b) = zb at hS
  generalize plF a = A at *
  generalize plF b = B at *
  cases za <;> cases zb
  · rw [if_pos rfl] at hS
    rw [if_neg (by decide)] at hT
    rw [hS, hT]
    repeat' first
      | refine W.seq ?_ | (refine W.regS G ?_; dsimp only) | refine SW.nil ?_ | refine thenQ_normal ?_ | refine W.skip ?_ | refine W.exit ?_ | refine thenQ_exit ?_ | refine inBlockQ_exit ?_ | refine inBlockQ_normal ?_ | refine W.block ?_
      | (apply SW.toC; refine SWcall.go (And.intro signedS.eq_1 (And.intro la (And.intro lb (And.intro ea (And.intro eb (And.intro hza (And.intro hzb (And.intro rDMS.eq_1 (And.intro pa pb))))))))) ?_) | (apply SW.toOp; refine SWop.go (And.intro signedS.eq_1 (And.intro la (And.intro lb (And.intro ea (And.intro eb (And.intro hza (And.intro hzb (And.intro rDMS.eq_1 (And.intro pa pb))))))))) ?_) | (apply SW.toCG; first | refine SWcall.yes (And.intro signedS.eq_1 (And.intro la (And.intro lb (And.intro ea (And.intro eb (And.intro hza (And.intro hzb (And.intro rDMS.eq_1 (And.intro pa pb))))))))) ?_ | refine SWcall.no (And.intro signedS.eq_1 (And.intro la (And.intro lb (And.intro ea (And.intro eb (And.intro hza (And.intro hzb (And.intro rDMS.eq_1 (And.intro pa pb))))))))) ?_) | (apply SW.toG; first | refine SWop.yes (And.intro signedS.eq_1 (And.intro la (And.intro lb (And.intro ea (And.intro eb (And.intro hza (And.intro hzb (And.intro rDMS.eq_1 (And.intro pa pb))))))))) ?_ | refine SWop.no (And.intro signedS.eq_1 (And.intro la (And.intro lb (And.intro ea (And.intro eb (And.intro hza (And.intro hzb (And.intro rDMS.eq_1 (And.intro pa pb))))))))) ?_)
    refine W.condZ G (And.intro signedS.eq_1 (And.intro la (And.intro lb (And.intro ea (And.intro eb (And.intro hza (And.intro hzb (And.intro rDMS.eq_1 (And.intro pa pb))))))))) ?_ ?_
    all_goals intro hc
    · exact absurd hc (by decide)
    repeat' first
      | refine W.seq ?_ | (refine W.regS G ?_; dsimp only) | refine SW.nil ?_ | refine thenQ_normal ?_ | refine W.skip ?_ | refine W.exit ?_ | refine thenQ_exit ?_ | refine inBlockQ_exit ?_ | refine inBlockQ_normal ?_ | refine W.block ?_
      | (apply SW.toC; refine SWcall.go (And.intro signedS.eq_1 (And.intro la (And.intro lb (And.intro ea (And.intro eb (And.intro hza (And.intro hzb (And.intro rDMS.eq_1 (And.intro pa pb))))))))) ?_) | (apply SW.toOp; refine SWop.go (And.intro signedS.eq_1 (And.intro la (And.intro lb (And.intro ea (And.intro eb (And.intro hza (And.intro hzb (And.intro rDMS.eq_1 (And.intro pa pb))))))))) ?_) | (apply SW.toCG; first | refine SWcall.yes (And.intro signedS.eq_1 (And.intro la (And.intro lb (And.intro ea (And.intro eb (And.intro hza (And.intro hzb (And.intro rDMS.eq_1 (And.intro pa pb))))))))) ?_ | refine SWcall.no (And.intro signedS.eq_1 (And.intro la (And.intro lb (And.intro ea (And.intro eb (And.intro hza (And.intro hzb (And.intro rDMS.eq_1 (And.intro pa pb))))))))) ?_) | (apply SW.toG; first | refine SWop.yes (And.intro signedS.eq_1 (And.intro la (And.intro lb (And.intro ea (And.intro eb (And.intro hza (And.intro hzb (And.intro rDMS.eq_1 (And.intro pa pb))))))))) ?_ | refine SWop.no (And.intro signedS.eq_1 (And.intro la (And.intro lb (And.intro ea (And.intro eb (And.intro hza (And.intro hzb (And.intro rDMS.eq_1 (And.intro pa pb))))))))) ?_)
    refine W.condZ G (And.intro signedS.eq_1 (And.intro la (And.intro lb (And.intro ea (And.intro eb (And.intro hza (And.intro hzb (And.intro rDMS.eq_1 (And.intro pa pb))))))))) ?_ ?_
    all_goals intro hd
    · exact absurd hd (by decide)
    repeat' first
      | refine W.seq ?_ | (refine W.regS G ?_; dsimp only) | refine SW.nil ?_ | refine thenQ_normal ?_ | refine W.skip ?_ | refine W.exit ?_ | refine thenQ_exit ?_ | refine inBlockQ_exit ?_ | refine inBlockQ_normal ?_
      | (apply SW.toC; refine SWcall.go (And.intro signedS.eq_1 (And.intro la (And.intro lb (And.intro ea (And.intro eb (And.intro hza (And.intro hzb (And.intro rDMS.eq_1 (And.intro pa pb))))))))) ?_) | (apply SW.toOp; refine SWop.go (And.intro signedS.eq_1 (And.intro la (And.intro lb (And.intro ea (And.intro eb (And.intro hza (And.intro hzb (And.intro rDMS.eq_1 (And.intro pa pb))))))))) ?_) | (apply SW.toCG; first | refine SWcall.yes (And.intro signedS.eq_1 (And.intro la (And.intro lb (And.intro ea (And.intro eb (And.intro hza (And.intro hzb (And.intro rDMS.eq_1 (And.intro pa pb))))))))) ?_ | refine SWcall.no (And.intro signedS.eq_1 (And.intro la (And.intro lb (And.intro ea (And.intro eb (And.intro hza (And.intro hzb (And.intro rDMS.eq_1 (And.intro pa pb))))))))) ?_) | (apply SW.toG; first | refine SWop.yes (And.intro signedS.eq_1 (And.intro la (And.intro lb (And.intro ea (And.intro eb (And.intro hza (And.intro hzb (And.intro rDMS.eq_1 (And.intro pa pb))))))))) ?_ | refine SWop.no (And.intro signedS.eq_1 (And.intro la (And.intro lb (And.intro ea (And.intro eb (And.intro hza (And.intro hzb (And.intro rDMS.eq_1 (And.intro pa pb))))))))) ?_)
    refine W.drawS G [[], [], [0], [1, 2, 0]] hmix ?_
    dsimp only
    repeat' first
      | (apply DW.nil; (focus (decide +kernel)))
      | (apply DW.toC; refine DWcall.go (And.intro signedS.eq_1 (And.intro la (And.intro lb (And.intro ea (And.intro eb (And.intro hza (And.intro hzb (And.intro rDMS.eq_1 (And.intro pa pb))))))))) ?_) | (apply DW.toOp; refine DWop.go (And.intro signedS.eq_1 (And.intro la (And.intro lb (And.intro ea (And.intro eb (And.intro hza (And.intro hzb (And.intro rDMS.eq_1 (And.intro pa pb))))))))) ?_) | (apply DW.toCG; first | refine DWcall.yes (And.intro signedS.eq_1 (And.intro la (And.intro lb (And.intro ea (And.intro eb (And.intro hza (And.intro hzb (And.intro rDMS.eq_1 (And.intro pa pb))))))))) ?_ | refine DWcall.no (And.intro signedS.eq_1 (And.intro la (And.intro lb (And.intro ea (And.intro eb (And.intro hza (And.intro hzb (And.intro rDMS.eq_1 (And.intro pa pb))))))))) ?_) | (apply DW.toG; first | refine DWop.yes (And.intro signedS.eq_1 (And.intro la (And.intro lb (And.intro ea (And.intro eb (And.intro hza (And.intro hzb (And.intro rDMS.eq_1 (And.intro pa pb))))))))) ?_ | refine DWop.no (And.intro signedS.eq_1 (And.intro la (And.intro lb (And.intro ea (And.intro eb (And.intro hza (And.intro hzb (And.intro rDMS.eq_1 (And.intro pa pb))))))))) ?_)
    repeat' first
      | refine W.seq ?_ | (refine W.regS G ?_; dsimp only) | refine SW.nil ?_ | refine thenQ_normal ?_ | refine W.skip ?_ | refine W.exit ?_ | refine thenQ_exit ?_ | refine inBlockQ_exit ?_ | refine inBlockQ_normal ?_ | refine W.block ?_
      | (apply SW.toC; refine SWcall.go (And.intro signedS.eq_1 (And.intro la (And.intro lb (And.intro ea (And.intro eb (And.intro hza (And.intro hzb (And.intro rDMS.eq_1 (And.intro pa pb))))))))) ?_) | (apply SW.toOp; refine SWop.go (And.intro signedS.eq_1 (And.intro la (And.intro lb (And.intro ea (And.intro eb (And.intro hza (And.intro hzb (And.intro rDMS.eq_1 (And.intro pa pb))))))))) ?_) | (apply SW.toCG; first | refine SWcall.yes (And.intro signedS.eq_1 (And.intro la (And.intro lb (And.intro ea (And.intro eb (And.intro hza (And.intro hzb (And.intro rDMS.eq_1 (And.intro pa pb))))))))) ?_ | refine SWcall.no (And.intro signedS.eq_1 (And.intro la (And.intro lb (And.intro ea (And.intro eb (And.intro hza (And.intro hzb (And.intro rDMS.eq_1 (And.intro pa pb))))))))) ?_) | (apply SW.toG; first | refine SWop.yes (And.intro signedS.eq_1 (And.intro la (And.intro lb (And.intro ea (And.intro eb (And.intro hza (And.intro hzb (And.intro rDMS.eq_1 (And.intro pa pb))))))))) ?_ | refine SWop.no (And.intro signedS.eq_1 (And.intro la (And.intro lb (And.intro ea (And.intro eb (And.intro hza (And.intro hzb (And.intro rDMS.eq_1 (And.intro pa pb))))))))) ?_)
    refine W.ret ?_
    repeat' first
      | refine thenQ_ret ?_
      | refine inBlockQ_ret ?_
    refine fin2Z (And.intro signedS.eq_1 (And.intro la (And.intro lb (And.intro ea (And.intro eb (And.intro hza (And.intro hzb (And.intro rDMS.eq_1 (And.intro pa pb))))))))) ?_ ?_
    · exact leV_refl
    · exact leV_refl
  · rw [if_neg (by decide)] at hS
    rw [if_neg (by decide)] at hT
    rw [hS, hT]
    repeat' first
      | refine W.seq ?_ | (refine W.regS G ?_; dsimp only) | refine SW.nil ?_ | refine thenQ_normal ?_ | refine W.skip ?_ | refine W.exit ?_ | refine thenQ_exit ?_ | refine inBlockQ_exit ?_ | refine inBlockQ_normal ?_ | refine W.block ?_
      | (apply SW.toC; refine SWcall.go (And.intro signedS.eq_1 (And.intro la (And.intro lb (And.intro ea (And.intro eb (And.intro hza (And.intro hzb (And.intro rDMS.eq_1 (And.intro pa (And.intro pb rNegS.eq_1)))))))))) ?_) | (apply SW.toOp; refine SWop.go (And.intro signedS.eq_1 (And.intro la (And.intro lb (And.intro ea (And.intro eb (And.intro hza (And.intro hzb (And.intro rDMS.eq_1 (And.intro pa (And.intro pb rNegS.eq_1)))))))))) ?_) | (apply SW.toCG; first | refine SWcall.yes (And.intro signedS.eq_1 (And.intro la (And.intro lb (And.intro ea (And.intro eb (And.intro hza (And.intro hzb (And.intro rDMS.eq_1 (And.intro pa (And.intro pb rNegS.eq_1)))))))))) ?_ | refine SWcall.no (And.intro signedS.eq_1 (And.intro la (And.intro lb (And.intro ea (And.intro eb (And.intro hza (And.intro hzb (And.intro rDMS.eq_1 (And.intro pa (And.intro pb rNegS.eq_1)))))))))) ?_) | (apply SW.toG; first | refine SWop.yes (And.intro signedS.eq_1 (And.intro la (And.intro lb (And.intro ea (And.intro eb (And.intro hza (And.intro hzb (And.intro rDMS.eq_1 (And.intro pa (And.intro pb rNegS.eq_1)))))))))) ?_ | refine SWop.no (And.intro signedS.eq_1 (And.intro la (And.intro lb (And.intro ea (And.intro eb (And.intro hza (And.intro hzb (And.intro rDMS.eq_1 (And.intro pa (And.intro pb rNegS.eq_1)))))))))) ?_)
    refine W.condZ G (And.intro signedS.eq_1 (And.intro la (And.intro lb (And.intro ea (And.intro eb (And.intro hza (And.intro hzb (And.intro rDMS.eq_1 (And.intro pa (And.intro pb rNegS.eq_1)))))))))) ?_ ?_
    all_goals intro hc
    · repeat' first
        | refine W.seq ?_ | (refine W.regS G ?_; dsimp only) | refine SW.nil ?_ | refine thenQ_normal ?_ | refine W.skip ?_ | refine W.exit ?_ | refine thenQ_exit ?_ | refine inBlockQ_exit ?_ | refine inBlockQ_normal ?_ | refine W.block ?_
        | (apply SW.toC; refine SWcall.go (And.intro signedS.eq_1 (And.intro la (And.intro lb (And.intro ea (And.intro eb (And.intro hza (And.intro hzb (And.intro rDMS.eq_1 (And.intro pa (And.intro pb rNegS.eq_1)))))))))) ?_) | (apply SW.toOp; refine SWop.go (And.intro signedS.eq_1 (And.intro la (And.intro lb (And.intro ea (And.intro eb (And.intro hza (And.intro hzb (And.intro rDMS.eq_1 (And.intro pa (And.intro pb rNegS.eq_1)))))))))) ?_) | (apply SW.toCG; first | refine SWcall.yes (And.intro signedS.eq_1 (And.intro la (And.intro lb (And.intro ea (And.intro eb (And.intro hza (And.intro hzb (And.intro rDMS.eq_1 (And.intro pa (And.intro pb rNegS.eq_1)))))))))) ?_ | refine SWcall.no (And.intro signedS.eq_1 (And.intro la (And.intro lb (And.intro ea (And.intro eb (And.intro hza (And.intro hzb (And.intro rDMS.eq_1 (And.intro pa (And.intro pb rNegS.eq_1)))))))))) ?_) | (apply SW.toG; first | refine SWop.yes (And.intro signedS.eq_1 (And.intro la (And.intro lb (And.intro ea (And.intro eb (And.intro hza (And.intro hzb (And.intro rDMS.eq_1 (And.intro pa (And.intro pb rNegS.eq_1)))))))))) ?_ | refine SWop.no (And.intro signedS.eq_1 (And.intro la (And.intro lb (And.intro ea (And.intro eb (And.intro hza (And.intro hzb (And.intro rDMS.eq_1 (And.intro pa (And.intro pb rNegS.eq_1)))))))))) ?_)
      refine W.condZ G (And.intro signedS.eq_1 (And.intro la (And.intro lb (And.intro ea (And.intro eb (And.intro hza (And.intro hzb (And.intro rDMS.eq_1 (And.intro pa (And.intro pb rNegS.eq_1)))))))))) ?_ ?_
      all_goals intro hd
      · exact absurd hd (by decide)
      repeat' first
        | refine W.seq ?_ | (refine W.regS G ?_; dsimp only) | refine SW.nil ?_ | refine thenQ_normal ?_ | refine W.skip ?_ | refine W.exit ?_ | refine thenQ_exit ?_ | refine inBlockQ_exit ?_ | refine inBlockQ_normal ?_
        | (apply SW.toC; refine SWcall.go (And.intro signedS.eq_1 (And.intro la (And.intro lb (And.intro ea (And.intro eb (And.intro hza (And.intro hzb (And.intro rDMS.eq_1 (And.intro pa (And.intro pb rNegS.eq_1)))))))))) ?_) | (apply SW.toOp; refine SWop.go (And.intro signedS.eq_1 (And.intro la (And.intro lb (And.intro ea (And.intro eb (And.intro hza (And.intro hzb (And.intro rDMS.eq_1 (And.intro pa (And.intro pb rNegS.eq_1)))))))))) ?_) | (apply SW.toCG; first | refine SWcall.yes (And.intro signedS.eq_1 (And.intro la (And.intro lb (And.intro ea (And.intro eb (And.intro hza (And.intro hzb (And.intro rDMS.eq_1 (And.intro pa (And.intro pb rNegS.eq_1)))))))))) ?_ | refine SWcall.no (And.intro signedS.eq_1 (And.intro la (And.intro lb (And.intro ea (And.intro eb (And.intro hza (And.intro hzb (And.intro rDMS.eq_1 (And.intro pa (And.intro pb rNegS.eq_1)))))))))) ?_) | (apply SW.toG; first | refine SWop.yes (And.intro signedS.eq_1 (And.intro la (And.intro lb (And.intro ea (And.intro eb (And.intro hza (And.intro hzb (And.intro rDMS.eq_1 (And.intro pa (And.intro pb rNegS.eq_1)))))))))) ?_ | refine SWop.no (And.intro signedS.eq_1 (And.intro la (And.intro lb (And.intro ea (And.intro eb (And.intro hza (And.intro hzb (And.intro rDMS.eq_1 (And.intro pa (And.intro pb rNegS.eq_1)))))))))) ?_)
      refine W.drawS G [[], [], [0], [1, 2, 0]] hmix ?_
      dsimp only
      repeat' first
        | (apply DW.nil; (focus (decide +kernel)))
        | (apply DW.toC; refine DWcall.go (And.intro signedS.eq_1 (And.intro la (And.intro lb (And.intro ea (And.intro eb (And.intro hza (And.intro hzb (And.intro rDMS.eq_1 (And.intro pa (And.intro pb rNegS.eq_1)))))))))) ?_) | (apply DW.toOp; refine DWop.go (And.intro signedS.eq_1 (And.intro la (And.intro lb (And.intro ea (And.intro eb (And.intro hza (And.intro hzb (And.intro rDMS.eq_1 (And.intro pa (And.intro pb rNegS.eq_1)))))))))) ?_) | (apply DW.toCG; first | refine DWcall.yes (And.intro signedS.eq_1 (And.intro la (And.intro lb (And.intro ea (And.intro eb (And.intro hza (And.intro hzb (And.intro rDMS.eq_1 (And.intro pa (And.intro pb rNegS.eq_1)))))))))) ?_ | refine DWcall.no (And.intro signedS.eq_1 (And.intro la (And.intro lb (And.intro ea (And.intro eb (And.intro hza (And.intro hzb (And.intro rDMS.eq_1 (And.intro pa (And.intro pb rNegS.eq_1)))))))))) ?_) | (apply DW.toG; first | refine DWop.yes (And.intro signedS.eq_1 (And.intro la (And.intro lb (And.intro ea (And.intro eb (And.intro hza (And.intro hzb (And.intro rDMS.eq_1 (And.intro pa (And.intro pb rNegS.eq_1)))))))))) ?_ | refine DWop.no (And.intro signedS.eq_1 (And.intro la (And.intro lb (And.intro ea (And.intro eb (And.intro hza (And.intro hzb (And.intro rDMS.eq_1 (And.intro pa (And.intro pb rNegS.eq_1)))))))))) ?_)
      repeat' first
        | refine W.seq ?_ | (refine W.regS G ?_; dsimp only) | refine SW.nil ?_ | refine thenQ_normal ?_ | refine W.skip ?_ | refine W.exit ?_ | refine thenQ_exit ?_ | refine inBlockQ_exit ?_ | refine inBlockQ_normal ?_ | refine W.block ?_
        | (apply SW.toC; refine SWcall.go (And.intro signedS.eq_1 (And.intro la (And.intro lb (And.intro ea (And.intro eb (And.intro hza (And.intro hzb (And.intro rDMS.eq_1 (And.intro pa (And.intro pb rNegS.eq_1)))))))))) ?_) | (apply SW.toOp; refine SWop.go (And.intro signedS.eq_1 (And.intro la (And.intro lb (And.intro ea (And.intro eb (And.intro hza (And.intro hzb (And.intro rDMS.eq_1 (And.intro pa (And.intro pb rNegS.eq_1)))))))))) ?_) | (apply SW.toCG; first | refine SWcall.yes (And.intro signedS.eq_1 (And.intro la (And.intro lb (And.intro ea (And.intro eb (And.intro hza (And.intro hzb (And.intro rDMS.eq_1 (And.intro pa (And.intro pb rNegS.eq_1)))))))))) ?_ | refine SWcall.no (And.intro signedS.eq_1 (And.intro la (And.intro lb (And.intro ea (And.intro eb (And.intro hza (And.intro hzb (And.intro rDMS.eq_1 (And.intro pa (And.intro pb rNegS.eq_1)))))))))) ?_) | (apply SW.toG; first | refine SWop.yes (And.intro signedS.eq_1 (And.intro la (And.intro lb (And.intro ea (And.intro eb (And.intro hza (And.intro hzb (And.intro rDMS.eq_1 (And.intro pa (And.intro pb rNegS.eq_1)))))))))) ?_ | refine SWop.no (And.intro signedS.eq_1 (And.intro la (And.intro lb (And.intro ea (And.intro eb (And.intro hza (And.intro hzb (And.intro rDMS.eq_1 (And.intro pa (And.intro pb rNegS.eq_1)))))))))) ?_)
      refine W.ret ?_
      repeat' first
        | refine thenQ_ret ?_
        | refine inBlockQ_ret ?_
      refine fin2Z (And.intro signedS.eq_1 (And.intro la (And.intro lb (And.intro ea (And.intro eb (And.intro hza (And.intro hzb (And.intro rDMS.eq_1 (And.intro pa (And.intro pb rNegS.eq_1)))))))))) ?_ ?_
      · exact leV_refl
      · exact leV_refl
    · exact absurd hc (by decide)
  · rw [if_neg (by decide)] at hS
    rw [if_pos rfl] at hT
    rw [hS, hT]
    repeat' first
      | refine W.seq ?_ | (refine W.regS G ?_; dsimp only) | refine SW.nil ?_ | refine thenQ_normal ?_ | refine W.skip ?_ | refine W.exit ?_ | refine thenQ_exit ?_ | refine inBlockQ_exit ?_ | refine inBlockQ_normal ?_ | refine W.block ?_
      | (apply SW.toC; refine SWcall.go (And.intro signedS.eq_1 (And.intro la (And.intro lb (And.intro ea (And.intro eb (And.intro hza (And.intro hzb (And.intro rDMS.eq_1 (And.intro pa (And.intro pb rNegS.eq_1)))))))))) ?_) | (apply SW.toOp; refine SWop.go (And.intro signedS.eq_1 (And.intro la (And.intro lb (And.intro ea (And.intro eb (And.intro hza (And.intro hzb (And.intro rDMS.eq_1 (And.intro pa (And.intro pb rNegS.eq_1)))))))))) ?_) | (apply SW.toCG; first | refine SWcall.yes (And.intro signedS.eq_1 (And.intro la (And.intro lb (And.intro ea (And.intro eb (And.intro hza (And.intro hzb (And.intro rDMS.eq_1 (And.intro pa (And.intro pb rNegS.eq_1)))))))))) ?_ | refine SWcall.no (And.intro signedS.eq_1 (And.intro la (And.intro lb (And.intro ea (And.intro eb (And.intro hza (And.intro hzb (And.intro rDMS.eq_1 (And.intro pa (And.intro pb rNegS.eq_1)))))))))) ?_) | (apply SW.toG; first | refine SWop.yes (And.intro signedS.eq_1 (And.intro la (And.intro lb (And.intro ea (And.intro eb (And.intro hza (And.intro hzb (And.intro rDMS.eq_1 (And.intro pa (And.intro pb rNegS.eq_1)))))))))) ?_ | refine SWop.no (And.intro signedS.eq_1 (And.intro la (And.intro lb (And.intro ea (And.intro eb (And.intro hza (And.intro hzb (And.intro rDMS.eq_1 (And.intro pa (And.intro pb rNegS.eq_1)))))))))) ?_)
    refine W.condZ G (And.intro signedS.eq_1 (And.intro la (And.intro lb (And.intro ea (And.intro eb (And.intro hza (And.intro hzb (And.intro rDMS.eq_1 (And.intro pa (And.intro pb rNegS.eq_1)))))))))) ?_ ?_
    all_goals intro hc
    · repeat' first
        | refine W.seq ?_ | (refine W.regS G ?_; dsimp only) | refine SW.nil ?_ | refine thenQ_normal ?_ | refine W.skip ?_ | refine W.exit ?_ | refine thenQ_exit ?_ | refine inBlockQ_exit ?_ | refine inBlockQ_normal ?_ | refine W.block ?_
        | (apply SW.toC; refine SWcall.go (And.intro signedS.eq_1 (And.intro la (And.intro lb (And.intro ea (And.intro eb (And.intro hza (And.intro hzb (And.intro rDMS.eq_1 (And.intro pa (And.intro pb rNegS.eq_1)))))))))) ?_) | (apply SW.toOp; refine SWop.go (And.intro signedS.eq_1 (And.intro la (And.intro lb (And.intro ea (And.intro eb (And.intro hza (And.intro hzb (And.intro rDMS.eq_1 (And.intro pa (And.intro pb rNegS.eq_1)))))))))) ?_) | (apply SW.toCG; first | refine SWcall.yes (And.intro signedS.eq_1 (And.intro la (And.intro lb (And.intro ea (And.intro eb (And.intro hza (And.intro hzb (And.intro rDMS.eq_1 (And.intro pa (And.intro pb rNegS.eq_1)))))))))) ?_ | refine SWcall.no (And.intro signedS.eq_1 (And.intro la (And.intro lb (And.intro ea (And.intro eb (And.intro hza (And.intro hzb (And.intro rDMS.eq_1 (And.intro pa (And.intro pb rNegS.eq_1)))))))))) ?_) | (apply SW.toG; first | refine SWop.yes (And.intro signedS.eq_1 (And.intro la (And.intro lb (And.intro ea (And.intro eb (And.intro hza (And.intro hzb (And.intro rDMS.eq_1 (And.intro pa (And.intro pb rNegS.eq_1)))))))))) ?_ | refine SWop.no (And.intro signedS.eq_1 (And.intro la (And.intro lb (And.intro ea (And.intro eb (And.intro hza (And.intro hzb (And.intro rDMS.eq_1 (And.intro pa (And.intro pb rNegS.eq_1)))))))))) ?_)
      refine W.condZ G (And.intro signedS.eq_1 (And.intro la (And.intro lb (And.intro ea (And.intro eb (And.intro hza (And.intro hzb (And.intro rDMS.eq_1 (And.intro pa (And.intro pb rNegS.eq_1)))))))))) ?_ ?_
      all_goals intro hd
      · repeat' first
          | refine W.seq ?_ | (refine W.regS G ?_; dsimp only) | refine SW.nil ?_ | refine thenQ_normal ?_ | refine W.skip ?_ | refine W.exit ?_ | refine thenQ_exit ?_ | refine inBlockQ_exit ?_ | refine inBlockQ_normal ?_
          | (apply SW.toC; refine SWcall.go (And.intro signedS.eq_1 (And.intro la (And.intro lb (And.intro ea (And.intro eb (And.intro hza (And.intro hzb (And.intro rDMS.eq_1 (And.intro pa (And.intro pb rNegS.eq_1)))))))))) ?_) | (apply SW.toOp; refine SWop.go (And.intro signedS.eq_1 (And.intro la (And.intro lb (And.intro ea (And.intro eb (And.intro hza (And.intro hzb (And.intro rDMS.eq_1 (And.intro pa (And.intro pb rNegS.eq_1)))))))))) ?_) | (apply SW.toCG; first | refine SWcall.yes (And.intro signedS.eq_1 (And.intro la (And.intro lb (And.intro ea (And.intro eb (And.intro hza (And.intro hzb (And.intro rDMS.eq_1 (And.intro pa (And.intro pb rNegS.eq_1)))))))))) ?_ | refine SWcall.no (And.intro signedS.eq_1 (And.intro la (And.intro lb (And.intro ea (And.intro eb (And.intro hza (And.intro hzb (And.intro rDMS.eq_1 (And.intro pa (And.intro pb rNegS.eq_1)))))))))) ?_) | (apply SW.toG; first | refine SWop.yes (And.intro signedS.eq_1 (And.intro la (And.intro lb (And.intro ea (And.intro eb (And.intro hza (And.intro hzb (And.intro rDMS.eq_1 (And.intro pa (And.intro pb rNegS.eq_1)))))))))) ?_ | refine SWop.no (And.intro signedS.eq_1 (And.intro la (And.intro lb (And.intro ea (And.intro eb (And.intro hza (And.intro hzb (And.intro rDMS.eq_1 (And.intro pa (And.intro pb rNegS.eq_1)))))))))) ?_)
        refine W.drawS G [[], [], [0], [1, 2, 0]] hmix ?_
        dsimp only
        repeat' first
          | (apply DW.nil; (focus (decide +kernel)))
          | (apply DW.toC; refine DWcall.go (And.intro signedS.eq_1 (And.intro la (And.intro lb (And.intro ea (And.intro eb (And.intro hza (And.intro hzb (And.intro rDMS.eq_1 (And.intro pa (And.intro pb rNegS.eq_1)))))))))) ?_) | (apply DW.toOp; refine DWop.go (And.intro signedS.eq_1 (And.intro la (And.intro lb (And.intro ea (And.intro eb (And.intro hza (And.intro hzb (And.intro rDMS.eq_1 (And.intro pa (And.intro pb rNegS.eq_1)))))))))) ?_) | (apply DW.toCG; first | refine DWcall.yes (And.intro signedS.eq_1 (And.intro la (And.intro lb (And.intro ea (And.intro eb (And.intro hza (And.intro hzb (And.intro rDMS.eq_1 (And.intro pa (And.intro pb rNegS.eq_1)))))))))) ?_ | refine DWcall.no (And.intro signedS.eq_1 (And.intro la (And.intro lb (And.intro ea (And.intro eb (And.intro hza (And.intro hzb (And.intro rDMS.eq_1 (And.intro pa (And.intro pb rNegS.eq_1)))))))))) ?_) | (apply DW.toG; first | refine DWop.yes (And.intro signedS.eq_1 (And.intro la (And.intro lb (And.intro ea (And.intro eb (And.intro hza (And.intro hzb (And.intro rDMS.eq_1 (And.intro pa (And.intro pb rNegS.eq_1)))))))))) ?_ | refine DWop.no (And.intro signedS.eq_1 (And.intro la (And.intro lb (And.intro ea (And.intro eb (And.intro hza (And.intro hzb (And.intro rDMS.eq_1 (And.intro pa (And.intro pb rNegS.eq_1)))))))))) ?_)
        repeat' first
          | refine W.seq ?_ | (refine W.regS G ?_; dsimp only) | refine SW.nil ?_ | refine thenQ_normal ?_ | refine W.skip ?_ | refine W.exit ?_ | refine thenQ_exit ?_ | refine inBlockQ_exit ?_ | refine inBlockQ_normal ?_ | refine W.block ?_
          | (apply SW.toC; refine SWcall.go (And.intro signedS.eq_1 (And.intro la (And.intro lb (And.intro ea (And.intro eb (And.intro hza (And.intro hzb (And.intro rDMS.eq_1 (And.intro pa (And.intro pb rNegS.eq_1)))))))))) ?_) | (apply SW.toOp; refine SWop.go (And.intro signedS.eq_1 (And.intro la (And.intro lb (And.intro ea (And.intro eb (And.intro hza (And.intro hzb (And.intro rDMS.eq_1 (And.intro pa (And.intro pb rNegS.eq_1)))))))))) ?_) | (apply SW.toCG; first | refine SWcall.yes (And.intro signedS.eq_1 (And.intro la (And.intro lb (And.intro ea (And.intro eb (And.intro hza (And.intro hzb (And.intro rDMS.eq_1 (And.intro pa (And.intro pb rNegS.eq_1)))))))))) ?_ | refine SWcall.no (And.intro signedS.eq_1 (And.intro la (And.intro lb (And.intro ea (And.intro eb (And.intro hza (And.intro hzb (And.intro rDMS.eq_1 (And.intro pa (And.intro pb rNegS.eq_1)))))))))) ?_) | (apply SW.toG; first | refine SWop.yes (And.intro signedS.eq_1 (And.intro la (And.intro lb (And.intro ea (And.intro eb (And.intro hza (And.intro hzb (And.intro rDMS.eq_1 (And.intro pa (And.intro pb rNegS.eq_1)))))))))) ?_ | refine SWop.no (And.intro signedS.eq_1 (And.intro la (And.intro lb (And.intro ea (And.intro eb (And.intro hza (And.intro hzb (And.intro rDMS.eq_1 (And.intro pa (And.intro pb rNegS.eq_1)))))))))) ?_)
        refine W.ret ?_
        repeat' first
          | refine thenQ_ret ?_
          | refine inBlockQ_ret ?_
        refine fin2Z (And.intro signedS.eq_1 (And.intro la (And.intro lb (And.intro ea (And.intro eb (And.intro hza (And.intro hzb (And.intro rDMS.eq_1 (And.intro pa (And.intro pb rNegS.eq_1)))))))))) ?_ ?_
        · exact leV_refl
        · exact leV_refl
      · exact absurd hd (by decide)
    · exact absurd hc (by decide)
  · rw [if_pos rfl] at hS
    rw [if_pos rfl] at hT
    rw [hS, hT]
    repeat' first
      | refine W.seq ?_ | (refine W.regS G ?_; dsimp only) | refine SW.nil ?_ | refine thenQ_normal ?_ | refine W.skip ?_ | refine W.exit ?_ | refine thenQ_exit ?_ | refine inBlockQ_exit ?_ | refine inBlockQ_normal ?_ | refine W.block ?_
      | (apply SW.toC; refine SWcall.go (And.intro signedS.eq_1 (And.intro la (And.intro lb (And.intro ea (And.intro eb (And.intro hza (And.intro hzb (And.intro rDMS.eq_1 (And.intro pa (And.intro pb rNegS.eq_1)))))))))) ?_) | (apply SW.toOp; refine SWop.go (And.intro signedS.eq_1 (And.intro la (And.intro lb (And.intro ea (And.intro eb (And.intro hza (And.intro hzb (And.intro rDMS.eq_1 (And.intro pa (And.intro pb rNegS.eq_1)))))))))) ?_) | (apply SW.toCG; first | refine SWcall.yes (And.intro signedS.eq_1 (And.intro la (And.intro lb (And.intro ea (And.intro eb (And.intro hza (And.intro hzb (And.intro rDMS.eq_1 (And.intro pa (And.intro pb rNegS.eq_1)))))))))) ?_ | refine SWcall.no (And.intro signedS.eq_1 (And.intro la (And.intro lb (And.intro ea (And.intro eb (And.intro hza (And.intro hzb (And.intro rDMS.eq_1 (And.intro pa (And.intro pb rNegS.eq_1)))))))))) ?_) | (apply SW.toG; first | refine SWop.yes (And.intro signedS.eq_1 (And.intro la (And.intro lb (And.intro ea (And.intro eb (And.intro hza (And.intro hzb (And.intro rDMS.eq_1 (And.intro pa (And.intro pb rNegS.eq_1)))))))))) ?_ | refine SWop.no (And.intro signedS.eq_1 (And.intro la (And.intro lb (And.intro ea (And.intro eb (And.intro hza (And.intro hzb (And.intro rDMS.eq_1 (And.intro pa (And.intro pb rNegS.eq_1)))))))))) ?_)
    refine W.condZ G (And.intro signedS.eq_1 (And.intro la (And.intro lb (And.intro ea (And.intro eb (And.intro hza (And.intro hzb (And.intro rDMS.eq_1 (And.intro pa (And.intro pb rNegS.eq_1)))))))))) ?_ ?_
    all_goals intro hc
    · exact absurd hc (by decide)
    · repeat' first
        | refine W.seq ?_ | (refine W.regS G ?_; dsimp only) | refine SW.nil ?_ | refine thenQ_normal ?_ | refine W.skip ?_ | refine W.exit ?_ | refine thenQ_exit ?_ | refine inBlockQ_exit ?_ | refine inBlockQ_normal ?_ | refine W.block ?_
        | (apply SW.toC; refine SWcall.go (And.intro signedS.eq_1 (And.intro la (And.intro lb (And.intro ea (And.intro eb (And.intro hza (And.intro hzb (And.intro rDMS.eq_1 (And.intro pa (And.intro pb rNegS.eq_1)))))))))) ?_) | (apply SW.toOp; refine SWop.go (And.intro signedS.eq_1 (And.intro la (And.intro lb (And.intro ea (And.intro eb (And.intro hza (And.intro hzb (And.intro rDMS.eq_1 (And.intro pa (And.intro pb rNegS.eq_1)))))))))) ?_) | (apply SW.toCG; first | refine SWcall.yes (And.intro signedS.eq_1 (And.intro la (And.intro lb (And.intro ea (And.intro eb (And.intro hza (And.intro hzb (And.intro rDMS.eq_1 (And.intro pa (And.intro pb rNegS.eq_1)))))))))) ?_ | refine SWcall.no (And.intro signedS.eq_1 (And.intro la (And.intro lb (And.intro ea (And.intro eb (And.intro hza (And.intro hzb (And.intro rDMS.eq_1 (And.intro pa (And.intro pb rNegS.eq_1)))))))))) ?_) | (apply SW.toG; first | refine SWop.yes (And.intro signedS.eq_1 (And.intro la (And.intro lb (And.intro ea (And.intro eb (And.intro hza (And.intro hzb (And.intro rDMS.eq_1 (And.intro pa (And.intro pb rNegS.eq_1)))))))))) ?_ | refine SWop.no (And.intro signedS.eq_1 (And.intro la (And.intro lb (And.intro ea (And.intro eb (And.intro hza (And.intro hzb (And.intro rDMS.eq_1 (And.intro pa (And.intro pb rNegS.eq_1)))))))))) ?_)
      refine W.condZ G (And.intro signedS.eq_1 (And.intro la (And.intro lb (And.intro ea (And.intro eb (And.intro hza (And.intro hzb (And.intro rDMS.eq_1 (And.intro pa (And.intro pb rNegS.eq_1)))))))))) ?_ ?_
      all_goals intro hd
      · repeat' first
          | refine W.seq ?_ | (refine W.regS G ?_; dsimp only) | refine SW.nil ?_ | refine thenQ_normal ?_ | refine W.skip ?_ | refine W.exit ?_ | refine thenQ_exit ?_ | refine inBlockQ_exit ?_ | refine inBlockQ_normal ?_
          | (apply SW.toC; refine SWcall.go (And.intro signedS.eq_1 (And.intro la (And.intro lb (And.intro ea (And.intro eb (And.intro hza (And.intro hzb (And.intro rDMS.eq_1 (And.intro pa (And.intro pb rNegS.eq_1)))))))))) ?_) | (apply SW.toOp; refine SWop.go (And.intro signedS.eq_1 (And.intro la (And.intro lb (And.intro ea (And.intro eb (And.intro hza (And.intro hzb (And.intro rDMS.eq_1 (And.intro pa (And.intro pb rNegS.eq_1)))))))))) ?_) | (apply SW.toCG; first | refine SWcall.yes (And.intro signedS.eq_1 (And.intro la (And.intro lb (And.intro ea (And.intro eb (And.intro hza (And.intro hzb (And.intro rDMS.eq_1 (And.intro pa (And.intro pb rNegS.eq_1)))))))))) ?_ | refine SWcall.no (And.intro signedS.eq_1 (And.intro la (And.intro lb (And.intro ea (And.intro eb (And.intro hza (And.intro hzb (And.intro rDMS.eq_1 (And.intro pa (And.intro pb rNegS.eq_1)))))))))) ?_) | (apply SW.toG; first | refine SWop.yes (And.intro signedS.eq_1 (And.intro la (And.intro lb (And.intro ea (And.intro eb (And.intro hza (And.intro hzb (And.intro rDMS.eq_1 (And.intro pa (And.intro pb rNegS.eq_1)))))))))) ?_ | refine SWop.no (And.intro signedS.eq_1 (And.intro la (And.intro lb (And.intro ea (And.intro eb (And.intro hza (And.intro hzb (And.intro rDMS.eq_1 (And.intro pa (And.intro pb rNegS.eq_1)))))))))) ?_)
        refine W.drawS G [[], [], [0], [1, 2, 0]] hmix ?_
        dsimp only
        repeat' first
          | (apply DW.nil; (focus (decide +kernel)))
          | (apply DW.toC; refine DWcall.go (And.intro signedS.eq_1 (And.intro la (And.intro lb (And.intro ea (And.intro eb (And.intro hza (And.intro hzb (And.intro rDMS.eq_1 (And.intro pa (And.intro pb rNegS.eq_1)))))))))) ?_) | (apply DW.toOp; refine DWop.go (And.intro signedS.eq_1 (And.intro la (And.intro lb (And.intro ea (And.intro eb (And.intro hza (And.intro hzb (And.intro rDMS.eq_1 (And.intro pa (And.intro pb rNegS.eq_1)))))))))) ?_) | (apply DW.toCG; first | refine DWcall.yes (And.intro signedS.eq_1 (And.intro la (And.intro lb (And.intro ea (And.intro eb (And.intro hza (And.intro hzb (And.intro rDMS.eq_1 (And.intro pa (And.intro pb rNegS.eq_1)))))))))) ?_ | refine DWcall.no (And.intro signedS.eq_1 (And.intro la (And.intro lb (And.intro ea (And.intro eb (And.intro hza (And.intro hzb (And.intro rDMS.eq_1 (And.intro pa (And.intro pb rNegS.eq_1)))))))))) ?_) | (apply DW.toG; first | refine DWop.yes (And.intro signedS.eq_1 (And.intro la (And.intro lb (And.intro ea (And.intro eb (And.intro hza (And.intro hzb (And.intro rDMS.eq_1 (And.intro pa (And.intro pb rNegS.eq_1)))))))))) ?_ | refine DWop.no (And.intro signedS.eq_1 (And.intro la (And.intro lb (And.intro ea (And.intro eb (And.intro hza (And.intro hzb (And.intro rDMS.eq_1 (And.intro pa (And.intro pb rNegS.eq_1)))))))))) ?_)
        repeat' first
          | refine W.seq ?_ | (refine W.regS G ?_; dsimp only) | refine SW.nil ?_ | refine thenQ_normal ?_ | refine W.skip ?_ | refine W.exit ?_ | refine thenQ_exit ?_ | refine inBlockQ_exit ?_ | refine inBlockQ_normal ?_ | refine W.block ?_
          | (apply SW.toC; refine SWcall.go (And.intro signedS.eq_1 (And.intro la (And.intro lb (And.intro ea (And.intro eb (And.intro hza (And.intro hzb (And.intro rDMS.eq_1 (And.intro pa (And.intro pb rNegS.eq_1)))))))))) ?_) | (apply SW.toOp; refine SWop.go (And.intro signedS.eq_1 (And.intro la (And.intro lb (And.intro ea (And.intro eb (And.intro hza (And.intro hzb (And.intro rDMS.eq_1 (And.intro pa (And.intro pb rNegS.eq_1)))))))))) ?_) | (apply SW.toCG; first | refine SWcall.yes (And.intro signedS.eq_1 (And.intro la (And.intro lb (And.intro ea (And.intro eb (And.intro hza (And.intro hzb (And.intro rDMS.eq_1 (And.intro pa (And.intro pb rNegS.eq_1)))))))))) ?_ | refine SWcall.no (And.intro signedS.eq_1 (And.intro la (And.intro lb (And.intro ea (And.intro eb (And.intro hza (And.intro hzb (And.intro rDMS.eq_1 (And.intro pa (And.intro pb rNegS.eq_1)))))))))) ?_) | (apply SW.toG; first | refine SWop.yes (And.intro signedS.eq_1 (And.intro la (And.intro lb (And.intro ea (And.intro eb (And.intro hza (And.intro hzb (And.intro rDMS.eq_1 (And.intro pa (And.intro pb rNegS.eq_1)))))))))) ?_ | refine SWop.no (And.intro signedS.eq_1 (And.intro la (And.intro lb (And.intro ea (And.intro eb (And.intro hza (And.intro hzb (And.intro rDMS.eq_1 (And.intro pa (And.intro pb rNegS.eq_1)))))))))) ?_)
        refine W.ret ?_
        repeat' first
          | refine thenQ_ret ?_
          | refine inBlockQ_ret ?_
        refine fin2Z (And.intro signedS.eq_1 (And.intro la (And.intro lb (And.intro ea (And.intro eb (And.intro hza (And.intro hzb (And.intro rDMS.eq_1 (And.intro pa (And.intro pb rNegS.eq_1)))))))))) ?_ ?_
        · exact leV_refl
        · exact leV_refl
      · exact absurd hd (by decide)
end Go.Vm.C01
