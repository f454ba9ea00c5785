/- What some functions of the program compute, walked through once. -/
import Derived.Test.YthjgpkaamgoodaaCJ
namespace Go.Vm.C01
open Go Go.Proofs
set_option linter.unusedVariables false
set_option linter.unusedSimpArgs false
set_option maxRecDepth 100000
set_option maxHeartbeats 8000000

noncomputable def small42S : FSpec := { run := fun ins => match ins with
  | [.agg 4 (.u 64 a)] => chk (a = w42) (some (.tup [.u 64 42#64, .b true], []))
  | _ => none }
theorem small42_sound : SoundFn Try.prog glB 47 small42S.run := by
  intro ins ret outs h
  unfold small42S at h
  dsimp only at h
  split at h
  rotate_left
  · cases h
  rename_i a
  obtain ⟨ha, h'⟩ := chk_some h
  subst ha
  refine small_sound _ _ _ ?_
  rw [← h']
  exact congrArg (fun t => some (t, ([] : List V))) (if_pos (by decide))
noncomputable def livesS : FSpec := { run := fun ins => match ins with
  | [] => some (.b true, [])
  | _ => none }
theorem lives_sound : SoundFn Try.prog glB 19 livesS.run := by
  have G := good_of (P := Try.prog) glB_ro (l := [(16, OfS), (15, MulS), (47, small42S), (50, dec42S), (31, CmpS)]) (by simp only [List.forall_mem_cons]; exact ⟨Of_sound, Mul_sound, small42_sound, dec42_sound, Cmp_sound, by simp⟩)
  refine soundFn_of_W G Try.func19 (by decide) rfl (by decide) ?_
  intro ins ret outs h
  unfold livesS at h
  dsimp only at h
  split at h
  rotate_left
  · cases h
  cases h
  refine ⟨by show 0 ≤ 28; decide, fun w0 ext av => ?_⟩
  rw [Try.ntmps19, st0_eq]
  refine W.imp (s := sL [] [] 28) ?_ (Imp.le ?_)
  rotate_left
  · exact ⟨rfl, (fun t v h => by cases h), (fun k x h => by cases h)⟩
  obtain ⟨p7, h7⟩ : ∃ p, wOf 7 = p := ⟨_, rfl⟩
  obtain ⟨p6, h6⟩ : ∃ p, wOf 6 = p := ⟨_, rfl⟩
  obtain ⟨p41, h41⟩ : ∃ p, wOf 41 = p := ⟨_, rfl⟩
  have m1 : wOf (wv p7 * wv p6) = w42 := by rw [← h7, ← h6]; decide
  have st : bytesOf { data := #[52, 50] } = [52#8, 50#8] := by rfl
  have c1 : cmpI (wv w42) (wv p41) = 1 := by rw [← h41]; decide
  repeat' first
    | refine W.seq ?_ | (refine W.regS G ?_; dsimp only) | refine SW.nil ?_ | refine thenQ_normal ?_ | refine W.skip ?_ | refine W.exit ?_ | refine thenQ_exit ?_ | refine inBlockQ_exit ?_ | refine inBlockQ_normal ?_ | refine W.block ?_
    | (apply SW.toC; refine SWcall.go (And.intro OfS.eq_1 (And.intro MulS.eq_1 (And.intro small42S.eq_1 (And.intro dec42S.eq_1 (And.intro CmpS.eq_1 (And.intro h7 (And.intro h6 (And.intro h41 (And.intro m1 (And.intro c1 st)))))))))) ?_) | (apply SW.toOp; refine SWop.go (And.intro OfS.eq_1 (And.intro MulS.eq_1 (And.intro small42S.eq_1 (And.intro dec42S.eq_1 (And.intro CmpS.eq_1 (And.intro h7 (And.intro h6 (And.intro h41 (And.intro m1 (And.intro c1 st)))))))))) ?_) | (apply SW.toCG; first | refine SWcall.yes (And.intro OfS.eq_1 (And.intro MulS.eq_1 (And.intro small42S.eq_1 (And.intro dec42S.eq_1 (And.intro CmpS.eq_1 (And.intro h7 (And.intro h6 (And.intro h41 (And.intro m1 (And.intro c1 st)))))))))) ?_ | refine SWcall.no (And.intro OfS.eq_1 (And.intro MulS.eq_1 (And.intro small42S.eq_1 (And.intro dec42S.eq_1 (And.intro CmpS.eq_1 (And.intro h7 (And.intro h6 (And.intro h41 (And.intro m1 (And.intro c1 st)))))))))) ?_) | (apply SW.toG; first | refine SWop.yes (And.intro OfS.eq_1 (And.intro MulS.eq_1 (And.intro small42S.eq_1 (And.intro dec42S.eq_1 (And.intro CmpS.eq_1 (And.intro h7 (And.intro h6 (And.intro h41 (And.intro m1 (And.intro c1 st)))))))))) ?_ | refine SWop.no (And.intro OfS.eq_1 (And.intro MulS.eq_1 (And.intro small42S.eq_1 (And.intro dec42S.eq_1 (And.intro CmpS.eq_1 (And.intro h7 (And.intro h6 (And.intro h41 (And.intro m1 (And.intro c1 st)))))))))) ?_)
  refine W.drawS G [[], [0], [1, 0], [2, 1, 0], [2, 1, 0, 3], [4, 2, 1, 0, 3], [5, 4, 2, 1, 0, 3], [6, 5, 4, 2, 1, 0, 3], [7, 6, 5, 4, 2, 1, 0, 3], [5, 4, 2, 1, 0, 3, 8, 7, 6], [9, 5, 4, 2, 1, 0, 3, 8, 7, 6], [10, 9, 5, 4, 2, 1, 0, 3, 8, 7, 6], [10, 9, 5, 4, 2, 1, 0, 3, 8, 7, 6], [11, 10, 9, 5, 4, 2, 1, 0, 3, 8, 7, 6, 12], [13, 11, 10, 9, 5, 4, 2, 1, 0, 3, 8, 7, 6, 12], [10, 9, 5, 4, 2, 1, 0, 3, 8, 7, 6, 14, 13, 11, 12], [15, 10, 9, 5, 4, 2, 1, 0, 3, 8, 7, 6, 14, 13, 11, 12]] hmix ?_
  dsimp only
  repeat' first
    | (apply DW.nil; (focus (decide +kernel)))
    | (apply DW.toC; refine DWcall.go (And.intro OfS.eq_1 (And.intro MulS.eq_1 (And.intro small42S.eq_1 (And.intro dec42S.eq_1 (And.intro CmpS.eq_1 (And.intro h7 (And.intro h6 (And.intro h41 (And.intro m1 (And.intro c1 st)))))))))) ?_) | (apply DW.toOp; refine DWop.go (And.intro OfS.eq_1 (And.intro MulS.eq_1 (And.intro small42S.eq_1 (And.intro dec42S.eq_1 (And.intro CmpS.eq_1 (And.intro h7 (And.intro h6 (And.intro h41 (And.intro m1 (And.intro c1 st)))))))))) ?_) | (apply DW.toCG; first | refine DWcall.yes (And.intro OfS.eq_1 (And.intro MulS.eq_1 (And.intro small42S.eq_1 (And.intro dec42S.eq_1 (And.intro CmpS.eq_1 (And.intro h7 (And.intro h6 (And.intro h41 (And.intro m1 (And.intro c1 st)))))))))) ?_ | refine DWcall.no (And.intro OfS.eq_1 (And.intro MulS.eq_1 (And.intro small42S.eq_1 (And.intro dec42S.eq_1 (And.intro CmpS.eq_1 (And.intro h7 (And.intro h6 (And.intro h41 (And.intro m1 (And.intro c1 st)))))))))) ?_) | (apply DW.toG; first | refine DWop.yes (And.intro OfS.eq_1 (And.intro MulS.eq_1 (And.intro small42S.eq_1 (And.intro dec42S.eq_1 (And.intro CmpS.eq_1 (And.intro h7 (And.intro h6 (And.intro h41 (And.intro m1 (And.intro c1 st)))))))))) ?_ | refine DWop.no (And.intro OfS.eq_1 (And.intro MulS.eq_1 (And.intro small42S.eq_1 (And.intro dec42S.eq_1 (And.intro CmpS.eq_1 (And.intro h7 (And.intro h6 (And.intro h41 (And.intro m1 (And.intro c1 st)))))))))) ?_)
  repeat' first
    | refine W.seq ?_ | (refine W.regS G ?_; dsimp only) | refine SW.nil ?_ | refine thenQ_normal ?_ | refine W.skip ?_ | refine W.exit ?_ | refine thenQ_exit ?_ | refine inBlockQ_exit ?_ | refine inBlockQ_normal ?_ | refine W.block ?_
    | (apply SW.toC; refine SWcall.go (And.intro OfS.eq_1 (And.intro MulS.eq_1 (And.intro small42S.eq_1 (And.intro dec42S.eq_1 (And.intro CmpS.eq_1 (And.intro h7 (And.intro h6 (And.intro h41 (And.intro m1 (And.intro c1 st)))))))))) ?_) | (apply SW.toOp; refine SWop.go (And.intro OfS.eq_1 (And.intro MulS.eq_1 (And.intro small42S.eq_1 (And.intro dec42S.eq_1 (And.intro CmpS.eq_1 (And.intro h7 (And.intro h6 (And.intro h41 (And.intro m1 (And.intro c1 st)))))))))) ?_) | (apply SW.toCG; first | refine SWcall.yes (And.intro OfS.eq_1 (And.intro MulS.eq_1 (And.intro small42S.eq_1 (And.intro dec42S.eq_1 (And.intro CmpS.eq_1 (And.intro h7 (And.intro h6 (And.intro h41 (And.intro m1 (And.intro c1 st)))))))))) ?_ | refine SWcall.no (And.intro OfS.eq_1 (And.intro MulS.eq_1 (And.intro small42S.eq_1 (And.intro dec42S.eq_1 (And.intro CmpS.eq_1 (And.intro h7 (And.intro h6 (And.intro h41 (And.intro m1 (And.intro c1 st)))))))))) ?_) | (apply SW.toG; first | refine SWop.yes (And.intro OfS.eq_1 (And.intro MulS.eq_1 (And.intro small42S.eq_1 (And.intro dec42S.eq_1 (And.intro CmpS.eq_1 (And.intro h7 (And.intro h6 (And.intro h41 (And.intro m1 (And.intro c1 st)))))))))) ?_ | refine SWop.no (And.intro OfS.eq_1 (And.intro MulS.eq_1 (And.intro small42S.eq_1 (And.intro dec42S.eq_1 (And.intro CmpS.eq_1 (And.intro h7 (And.intro h6 (And.intro h41 (And.intro m1 (And.intro c1 st)))))))))) ?_)
  refine W.ret ?_
  repeat' first
    | refine thenQ_ret ?_
    | refine inBlockQ_ret ?_
  refine fin1Z (And.intro OfS.eq_1 (And.intro MulS.eq_1 (And.intro small42S.eq_1 (And.intro dec42S.eq_1 (And.intro CmpS.eq_1 (And.intro h7 (And.intro h6 (And.intro h41 (And.intro m1 (And.intro c1 st)))))))))) ?_
  exact leV_refl
noncomputable def addsS : FSpec := { run := fun ins => match ins with
  | [.agg 4 (.u 64 a), .agg 4 (.u 64 b)] => chk (a.length = 4 ∧ b.length = 4) (some (.b true, []))
  | _ => none }
end Go.Vm.C01
