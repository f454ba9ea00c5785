/- What some functions of the program compute, walked through once. -/
import Derived.Test.YtioffpklmlmhcaaDoorCG
namespace Go.Vm.C03
open Go Go.Proofs
set_option linter.unusedVariables false
set_option linter.unusedSimpArgs false
set_option maxRecDepth 100000
set_option maxHeartbeats 8000000

noncomputable def sumF (b : List (BitVec 8)) : List (BitVec 8) := hashF (takes b b.length (zeros 64 25, 0))
noncomputable def sumS : FSpec := { run := fun ins => match ins with
  | [.sl false (.u 8 b)] => chk (b.length ≤ 140737488355328) (some (.agg 32 (.u 8 (sumF b)), []))
  | _ => none }
theorem zeros25_len : (zeros 64 25).length = 25 := rfl
theorem sum_sound : SoundFn Tryd.prog glB 7 sumS.run := by
  have G := good_of (P := Tryd.prog) glB_ro (l := [(14, takesS), (15, hashS)]) (by simp only [List.forall_mem_cons]; exact ⟨takes_sound, hash_sound, by simp⟩)
  refine soundFn_of_W G Tryd.func7 (by decide) rfl (by decide) ?_
  intro ins ret outs h
  unfold sumS at h
  dsimp only at h
  split at h
  rotate_left
  · cases h
  rename_i b
  obtain ⟨hm, h'⟩ := chk_some h
  clear h
  cases h'
  refine ⟨by show 1 ≤ 8; decide, fun w0 ext av => ?_⟩
  rw [Tryd.ntmps7, st0_eq]
  have ok := takes_ok b b.length (p := (zeros 64 25, 0)) ⟨zeros25_len, by decide⟩
  have hF : sumF b = hashF (takes b b.length (zeros 64 25, 0)) := rfl
  generalize hp : takes b b.length (zeros 64 25, 0) = p at ok hF
  obtain ⟨s1, n1⟩ := p
  dsimp only at ok hF
  have z := zeros25_len
  repeat' first
    | refine W.seq ?_ | (refine W.regS G ?_; dsimp only) | refine SW.nil ?_ | refine thenQ_normal ?_ | refine W.skip ?_ | refine W.exit ?_ | refine thenQ_exit ?_ | refine inBlockQ_exit ?_ | refine inBlockQ_normal ?_ | refine W.block ?_
    | (apply SW.toC; refine SWcall.go (And.intro takesS.eq_1 (And.intro hashS.eq_1 (And.intro z (And.intro hp ok.1)))) ?_) | (apply SW.toOp; refine SWop.go (And.intro takesS.eq_1 (And.intro hashS.eq_1 (And.intro z (And.intro hp ok.1)))) ?_) | (apply SW.toCG; first | refine SWcall.yes (And.intro takesS.eq_1 (And.intro hashS.eq_1 (And.intro z (And.intro hp ok.1)))) ?_ | refine SWcall.no (And.intro takesS.eq_1 (And.intro hashS.eq_1 (And.intro z (And.intro hp ok.1)))) ?_) | (apply SW.toG; first | refine SWop.yes (And.intro takesS.eq_1 (And.intro hashS.eq_1 (And.intro z (And.intro hp ok.1)))) ?_ | refine SWop.no (And.intro takesS.eq_1 (And.intro hashS.eq_1 (And.intro z (And.intro hp ok.1)))) ?_)
  refine W.ret ?_
  repeat' first
    | refine thenQ_ret ?_
    | refine inBlockQ_ret ?_
  refine fin1Z (And.intro takesS.eq_1 (And.intro hashS.eq_1 (And.intro z (And.intro hp ok.1)))) ?_
  rw [hF]
  exact leV_refl
noncomputable def newS : FSpec := { run := fun ins => match ins with
  | [] => some (.ref 0 0 (.st [.agg 25 (.u 64 (zeros 64 25)), .i 0]), [])
  | _ => none }
theorem new_sound : SoundFn Tryd.prog glB 6 newS.run := by
  have G := good_of (P := Tryd.prog) glB_ro (l := []) (by simp)
  refine soundFn_of_W G Tryd.func6 (by decide) rfl (by decide) ?_
  intro ins ret outs h
  unfold newS at h
  dsimp only at h
  split at h
  rotate_left
  · cases h
  cases h
  refine ⟨by show 0 ≤ 3; decide, fun w0 ext av => ?_⟩
  rw [Tryd.ntmps6, st0_eq]
  repeat' first
    | refine W.seq ?_ | (refine W.regS G ?_; dsimp only) | refine SW.nil ?_ | refine thenQ_normal ?_ | refine W.skip ?_ | refine W.exit ?_ | refine thenQ_exit ?_ | refine inBlockQ_exit ?_ | refine inBlockQ_normal ?_ | refine W.block ?_
    | (apply SW.toC; refine SWcall.go True.intro ?_) | (apply SW.toOp; refine SWop.go True.intro ?_) | (apply SW.toCG; first | refine SWcall.yes True.intro ?_ | refine SWcall.no True.intro ?_) | (apply SW.toG; first | refine SWop.yes True.intro ?_ | refine SWop.no True.intro ?_)
  refine W.ret ?_
  repeat' first
    | refine thenQ_ret ?_
    | refine inBlockQ_ret ?_
  refine fin1Z True.intro ?_
  exact leV_refl
theorem write_sound : SoundFn Tryd.prog glB 8 takesS.run := by
  have G := good_of (P := Tryd.prog) glB_ro (l := [(14, takesS)]) (by simp only [List.forall_mem_cons]; exact ⟨takes_sound, by simp⟩)
  refine soundFn_of_W G Tryd.func8 (by decide) rfl (by decide) ?_
  intro ins ret outs h
  unfold takesS at h
  dsimp only at h
  split at h
  rotate_left
  · cases h
  rename_i s n b
  obtain ⟨hm, h'⟩ := chk_some h
  clear h
  cases h'
  refine ⟨by show 2 ≤ 7; decide, fun w0 ext av => ?_⟩
  rw [Tryd.ntmps8, st0_eq]
  repeat' first
    | refine W.seq ?_ | (refine W.regS G ?_; dsimp only) | refine SW.nil ?_ | refine thenQ_normal ?_ | refine W.skip ?_ | refine W.exit ?_ | refine thenQ_exit ?_ | refine inBlockQ_exit ?_ | refine inBlockQ_normal ?_ | refine W.block ?_
    | (apply SW.toC; refine SWcall.go (And.intro takesS.eq_1 hm) ?_) | (apply SW.toOp; refine SWop.go (And.intro takesS.eq_1 hm) ?_) | (apply SW.toCG; first | refine SWcall.yes (And.intro takesS.eq_1 hm) ?_ | refine SWcall.no (And.intro takesS.eq_1 hm) ?_) | (apply SW.toG; first | refine SWop.yes (And.intro takesS.eq_1 hm) ?_ | refine SWop.no (And.intro takesS.eq_1 hm) ?_)
  exact fin0Z (And.intro takesS.eq_1 hm)
noncomputable def resetS : FSpec := { run := fun ins => match ins with
  | [.ref 0 0 (.st [.agg 25 (.u 64 s), .i n])] => some (.tup [], [.st [.agg 25 (.u 64 (zeros 64 25)), .i 0]])
  | _ => none }
theorem reset_sound : SoundFn Tryd.prog glB 9 resetS.run := by
  have G := good_of (P := Tryd.prog) glB_ro (l := []) (by simp)
  refine soundFn_of_W G Tryd.func9 (by decide) rfl (by decide) ?_
  intro ins ret outs h
  unfold resetS at h
  dsimp only at h
  split at h
  rotate_left
  · cases h
  rename_i s n
  cases h
  refine ⟨by show 1 ≤ 5; decide, fun w0 ext av => ?_⟩
  rw [Tryd.ntmps9, st0_eq]
  repeat' first
    | refine W.seq ?_ | (refine W.regS G ?_; dsimp only) | refine SW.nil ?_ | refine thenQ_normal ?_ | refine W.skip ?_ | refine W.exit ?_ | refine thenQ_exit ?_ | refine inBlockQ_exit ?_ | refine inBlockQ_normal ?_ | refine W.block ?_
    | (apply SW.toC; refine SWcall.go True.intro ?_) | (apply SW.toOp; refine SWop.go True.intro ?_) | (apply SW.toCG; first | refine SWcall.yes True.intro ?_ | refine SWcall.no True.intro ?_) | (apply SW.toG; first | refine SWop.yes True.intro ?_ | refine SWop.no True.intro ?_)
  exact fin0Z True.intro
noncomputable def ssumS : FSpec := { run := fun ins => match ins with
  | [.ref 0 0 (.st [.agg 25 (.u 64 s), .i n])] => chk (s.length = 25 ∧ 0 ≤ n ∧ n < 136) (some (.agg 32 (.u 8 (hashF (s, n.toNat))), [.st [.agg 25 (.u 64 s), .i n]]))
  | _ => none }
theorem ssum_sound : SoundFn Tryd.prog glB 10 ssumS.run := by
  have G := good_of (P := Tryd.prog) glB_ro (l := [(15, hashS)]) (by simp only [List.forall_mem_cons]; exact ⟨hash_sound, by simp⟩)
  refine soundFn_of_W G Tryd.func10 (by decide) rfl (by decide) ?_
  intro ins ret outs h
  unfold ssumS at h
  dsimp only at h
  split at h
  rotate_left
  · cases h
  rename_i s n
  obtain ⟨hm, h'⟩ := chk_some h
  clear h
  cases h'
  refine ⟨by show 1 ≤ 7; decide, fun w0 ext av => ?_⟩
  rw [Tryd.ntmps10, st0_eq]
  repeat' first
    | refine W.seq ?_ | (refine W.regS G ?_; dsimp only) | refine SW.nil ?_ | refine thenQ_normal ?_ | refine W.skip ?_ | refine W.exit ?_ | refine thenQ_exit ?_ | refine inBlockQ_exit ?_ | refine inBlockQ_normal ?_ | refine W.block ?_
    | (apply SW.toC; refine SWcall.go (And.intro hashS.eq_1 hm) ?_) | (apply SW.toOp; refine SWop.go (And.intro hashS.eq_1 hm) ?_) | (apply SW.toCG; first | refine SWcall.yes (And.intro hashS.eq_1 hm) ?_ | refine SWcall.no (And.intro hashS.eq_1 hm) ?_) | (apply SW.toG; first | refine SWop.yes (And.intro hashS.eq_1 hm) ?_ | refine SWop.no (And.intro hashS.eq_1 hm) ?_)
  refine W.ret ?_
  repeat' first
    | refine thenQ_ret ?_
    | refine inBlockQ_ret ?_
  refine fin1Z (And.intro hashS.eq_1 hm) ?_
  exact leV_refl
end Go.Vm.C03
