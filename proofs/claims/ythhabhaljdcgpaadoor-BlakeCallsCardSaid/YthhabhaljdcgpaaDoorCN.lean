/- What some functions of the program compute, walked through once. -/
import Derived.Test.YthhabhaljdcgpaaDoorCM
namespace Go.Vm.C06
open Go Go.Proofs
set_option linter.unusedVariables false
set_option linter.unusedSimpArgs false
set_option maxRecDepth 100000
set_option maxHeartbeats 8000000

theorem both (b : List (BitVec 8)) : ∃ (o : List (BitVec 8)) (e : Int), callS.run [.sl false (.u 8 b)] = some (.tup [.sl true (.u 8 o), .i e], []) ∧ refCallS.run [.sl false (.u 8 b)] = some (.tup [.sl true (.u 8 o), .i e], []) ∧ o.length ≤ 64 := by
  by_cases hc : b.length = 213 ∧ ¬ 1#8 < b.getD 212 0
  · refine ⟨refBytes (refH2 b) 64, 0, ?_, ?_, by rw [refBytes_len]; omega⟩
    · show (if _ then _ else _) = _
      rw [if_pos hc, call_eq]
    · show (if _ then _ else _) = _
      rw [if_pos hc]
  · refine ⟨[], 4, ?_, ?_, by simp⟩
    · show (if _ then _ else _) = _
      rw [if_neg hc]
    · show (if _ then _ else _) = _
      rw [if_neg hc]

noncomputable def callsS : FSpec := { run := fun ins => match ins with
  | [.sl false (.u 8 b)] => chk (b.length ≤ 140737488351232) (some (.b true, []))
  | _ => none }
theorem calls_sound : SoundFn Tryd.prog glB 5 callsS.run := by
  have G := good_of (P := Tryd.prog) glB_ro (l := [(9, callS), (10, refCallS), (8, liveS)]) (by simp only [List.forall_mem_cons]; exact ⟨call_sound, refCall_sound glB_ro, lives_sound, by simp⟩)
  refine soundFn_of_W G Tryd.func5 (by decide) rfl (by decide) ?_
  intro ins ret outs h
  unfold callsS at h
  dsimp only at h
  split at h
  rotate_left
  · cases h
  rename_i b
  obtain ⟨hb, h'⟩ := chk_some h
  clear h
  cases h'
  refine ⟨by show 1 ≤ 45; decide, fun w0 ext av => ?_⟩
  rw [Tryd.ntmps5, st0_eq]
  by_cases hL : b.length = 213
  · have hL' : (b.length : Int) = 213 := by omega
    have e1 : (subL b 2 211).length = 211 := by rw [subL_len, hL]; rfl
    repeat' first
      | refine W.seq ?_ | (refine W.regS G ?_; dsimp only) | refine SW.nil ?_ | refine thenQ_normal ?_ | refine W.skip ?_ | refine W.exit ?_ | refine thenQ_exit ?_ | refine inBlockQ_exit ?_ | refine inBlockQ_normal ?_ | refine W.block ?_
      | (apply SW.toC; refine SWcall.go hL ?_) | (apply SW.toOp; refine SWop.go hL ?_) | (apply SW.toCG; first | refine SWcall.yes hL ?_ | refine SWcall.no hL ?_) | (apply SW.toG; first | refine SWop.yes hL ?_ | refine SWop.no hL ?_)
    refine W.condZ G hL ?_ ?_
    all_goals intro hc
    · skip
      repeat' first
        | refine W.seq ?_ | (refine W.regS G ?_; dsimp only) | refine SW.nil ?_ | refine thenQ_normal ?_ | refine W.skip ?_ | refine W.exit ?_ | refine thenQ_exit ?_ | refine inBlockQ_exit ?_ | refine inBlockQ_normal ?_ | refine W.block ?_
        | (apply SW.toC; refine SWcall.go (And.intro hL e1) ?_) | (apply SW.toOp; refine SWop.go (And.intro hL e1) ?_) | (apply SW.toCG; first | refine SWcall.yes (And.intro hL e1) ?_ | refine SWcall.no (And.intro hL e1) ?_) | (apply SW.toG; first | refine SWop.yes (And.intro hL e1) ?_ | refine SWop.no (And.intro hL e1) ?_)
      obtain ⟨o, e, h1, h2, h3⟩ := both (0#8 :: 0#8 :: (subL b 2 211).set 0 ((subL b 2 211).getD 0 0 % 8#8))
      repeat' first
        | refine W.seq ?_ | (refine W.regS G ?_; dsimp only) | refine SW.nil ?_ | refine thenQ_normal ?_ | refine W.skip ?_ | refine W.exit ?_ | refine thenQ_exit ?_ | refine inBlockQ_exit ?_ | refine inBlockQ_normal ?_ | refine W.block ?_
        | (apply SW.toC; refine SWcall.go (And.intro e1 (And.intro h1 (And.intro h2 liveS.eq_1))) ?_) | (apply SW.toOp; refine SWop.go (And.intro e1 (And.intro h1 (And.intro h2 liveS.eq_1))) ?_) | (apply SW.toCG; first | refine SWcall.yes (And.intro e1 (And.intro h1 (And.intro h2 liveS.eq_1))) ?_ | refine SWcall.no (And.intro e1 (And.intro h1 (And.intro h2 liveS.eq_1))) ?_) | (apply SW.toG; first | refine SWop.yes (And.intro e1 (And.intro h1 (And.intro h2 liveS.eq_1))) ?_ | refine SWop.no (And.intro e1 (And.intro h1 (And.intro h2 liveS.eq_1))) ?_)
      refine W.ret ?_
      repeat' first
        | refine thenQ_ret ?_
        | refine inBlockQ_ret ?_
      refine fin1Z (And.intro e1 (And.intro h1 (And.intro h2 liveS.eq_1))) ?_
      exact leV_refl
    · simp at hc
  · have hL' : ¬ (b.length : Int) = 213 := by omega
    obtain ⟨o, e, h1, h2, h3⟩ := both b
    repeat' first
      | refine W.seq ?_ | (refine W.regS G ?_; dsimp only) | refine SW.nil ?_ | refine thenQ_normal ?_ | refine W.skip ?_ | refine W.exit ?_ | refine thenQ_exit ?_ | refine inBlockQ_exit ?_ | refine inBlockQ_normal ?_ | refine W.block ?_
      | (apply SW.toC; refine SWcall.go (And.intro hL' (And.intro h1 (And.intro h2 liveS.eq_1))) ?_) | (apply SW.toOp; refine SWop.go (And.intro hL' (And.intro h1 (And.intro h2 liveS.eq_1))) ?_) | (apply SW.toCG; first | refine SWcall.yes (And.intro hL' (And.intro h1 (And.intro h2 liveS.eq_1))) ?_ | refine SWcall.no (And.intro hL' (And.intro h1 (And.intro h2 liveS.eq_1))) ?_) | (apply SW.toG; first | refine SWop.yes (And.intro hL' (And.intro h1 (And.intro h2 liveS.eq_1))) ?_ | refine SWop.no (And.intro hL' (And.intro h1 (And.intro h2 liveS.eq_1))) ?_)
    refine W.condZ G (And.intro hL' (And.intro h1 (And.intro h2 liveS.eq_1))) ?_ ?_
    all_goals intro hc
    · simp at hc
    repeat' first
      | refine W.seq ?_ | (refine W.regS G ?_; dsimp only) | refine SW.nil ?_ | refine thenQ_normal ?_ | refine W.skip ?_ | refine W.exit ?_ | refine thenQ_exit ?_ | refine inBlockQ_exit ?_ | refine inBlockQ_normal ?_ | refine W.block ?_
      | (apply SW.toC; refine SWcall.go (And.intro hL' (And.intro h1 (And.intro h2 liveS.eq_1))) ?_) | (apply SW.toOp; refine SWop.go (And.intro hL' (And.intro h1 (And.intro h2 liveS.eq_1))) ?_) | (apply SW.toCG; first | refine SWcall.yes (And.intro hL' (And.intro h1 (And.intro h2 liveS.eq_1))) ?_ | refine SWcall.no (And.intro hL' (And.intro h1 (And.intro h2 liveS.eq_1))) ?_) | (apply SW.toG; first | refine SWop.yes (And.intro hL' (And.intro h1 (And.intro h2 liveS.eq_1))) ?_ | refine SWop.no (And.intro hL' (And.intro h1 (And.intro h2 liveS.eq_1))) ?_)
    refine W.ret ?_
    repeat' first
      | refine thenQ_ret ?_
      | refine inBlockQ_ret ?_
    refine fin1Z (And.intro hL' (And.intro h1 (And.intro h2 liveS.eq_1))) ?_
    exact leV_refl
end Go.Vm.C06
