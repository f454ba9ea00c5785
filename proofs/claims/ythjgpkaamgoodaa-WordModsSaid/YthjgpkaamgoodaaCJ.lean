/- What some functions of the program compute, walked through once. -/
import Derived.Test.YthjgpkaamgoodaaCI
namespace Go.Vm.C01
open Go Go.Proofs
set_option linter.unusedVariables false
set_option linter.unusedSimpArgs false
set_option maxRecDepth 100000
set_option maxHeartbeats 8000000

/-! ### forty-two -/
def w42 : List (BitVec 64) := [42#64, 0#64, 0#64, 0#64]
def w4 : List (BitVec 64) := [4#64, 0#64, 0#64, 0#64]
def w2 : List (BitVec 64) := [2#64, 0#64, 0#64, 0#64]
def w10 : List (BitVec 64) := [10#64, 0#64, 0#64, 0#64]
noncomputable def dec42S : FSpec := { run := fun ins => match ins with
  | [.agg 4 (.u 64 a)] => chk (a = w42) (some (.s [52#8, 50#8], []))
  | _ => none }
theorem dec42_sound : SoundFn Try.prog glB 50 dec42S.run := by
  have G := good_of (P := Try.prog) glB_ro (l := [(80, divzS), (81, revS)]) (by simp only [List.forall_mem_cons]; exact ⟨divZ_sound, rev_sound, by simp⟩)
  refine soundFn_of_W G Try.func50 (by decide) rfl (by decide) ?_
  intro ins ret outs h
  unfold dec42S at h
  dsimp only at h
  split at h
  rotate_left
  · cases h
  rename_i a
  obtain ⟨ha, h'⟩ := chk_some h
  clear h
  cases h'
  subst ha
  refine ⟨by show 1 ≤ 27; decide, fun w0 ext av => ?_⟩
  rw [Try.ntmps50, st0_eq]
  have o1 : one1 w42 := ⟨rfl, rfl, rfl, rfl⟩
  have o2 : one1 w4 := ⟨rfl, rfl, rfl, rfl⟩
  have o3 : one1 w10 := ⟨rfl, rfl, rfl, rfl⟩
  have o4 : ¬ w10.getD 0 0 = 0 := by decide
  have b10 : (zeros 64 4).set 0 10#64 = w10 := rfl
  have q1 : wOf (wv w42 / wv w10) = w4 := by decide
  have q2 : wOf (wv w42 % wv w10) = w2 := by decide
  have q3 : wOf (wv w4 / wv w10) = zeros 64 4 := by decide
  have q4 : wOf (wv w4 % wv w10) = w4 := by decide
  have n4 : ¬ w4 = zeros 64 4 := by decide
  have g2 : (48#8 + BitVec.setWidth 8 (w2.getD 0 0)) = 50#8 := by decide
  have g4 : (48#8 + BitVec.setWidth 8 (w4.getD 0 0)) = 52#8 := by decide
  generalize w42 = v42 at *
  generalize w4 = v4 at *
  generalize w2 = v2 at *
  repeat' first
    | refine W.seq ?_ | (refine W.regS G ?_; dsimp only) | refine SW.nil ?_ | refine thenQ_normal ?_ | refine W.skip ?_ | refine W.exit ?_ | refine thenQ_exit ?_ | refine inBlockQ_exit ?_ | refine inBlockQ_normal ?_ | refine W.block ?_
    | (apply SW.toC; refine SWcall.go True.intro ?_) | (apply SW.toOp; refine SWop.go True.intro ?_) | (apply SW.toCG; first | refine SWcall.yes True.intro ?_ | refine SWcall.no True.intro ?_) | (apply SW.toG; first | refine SWop.yes True.intro ?_ | refine SWop.no True.intro ?_)
  refine W.loopI (ι := Bool) (fun b => cond b (sL [(1, .p 1 0 0 0), (3, .gr 18 1)] [(1, .agg 4 (.u 64 v4)), (18, .row (.u 8 [50#8]))] 27) (sL [(1, .p 1 0 0 0), (3, .nils)] [(1, .agg 4 (.u 64 v42))] 27)) (fun b => cond b 0 1) false (Imp.le ?_) ?_
  · dsimp only [cond]
    exact sL_leZ True.intro
  intro b
  cases b
  · dsimp only [cond]
    repeat' first
      | refine W.seq ?_ | (refine W.regS G ?_; dsimp only) | refine SW.nil ?_ | refine thenQ_normal ?_ | refine W.skip ?_ | refine W.exit ?_ | refine thenQ_exit ?_ | refine inBlockQ_exit ?_ | refine inBlockQ_normal ?_ | refine W.block ?_
      | (apply SW.toC; refine SWcall.go (And.intro divzS.eq_1 (And.intro o1 (And.intro o2 (And.intro o3 (And.intro o4 (And.intro b10 (And.intro q1 (And.intro q2 (And.intro q3 (And.intro q4 (And.intro n4 (And.intro g2 g4)))))))))))) ?_) | (apply SW.toOp; refine SWop.go (And.intro divzS.eq_1 (And.intro o1 (And.intro o2 (And.intro o3 (And.intro o4 (And.intro b10 (And.intro q1 (And.intro q2 (And.intro q3 (And.intro q4 (And.intro n4 (And.intro g2 g4)))))))))))) ?_) | (apply SW.toCG; first | refine SWcall.yes (And.intro divzS.eq_1 (And.intro o1 (And.intro o2 (And.intro o3 (And.intro o4 (And.intro b10 (And.intro q1 (And.intro q2 (And.intro q3 (And.intro q4 (And.intro n4 (And.intro g2 g4)))))))))))) ?_ | refine SWcall.no (And.intro divzS.eq_1 (And.intro o1 (And.intro o2 (And.intro o3 (And.intro o4 (And.intro b10 (And.intro q1 (And.intro q2 (And.intro q3 (And.intro q4 (And.intro n4 (And.intro g2 g4)))))))))))) ?_) | (apply SW.toG; first | refine SWop.yes (And.intro divzS.eq_1 (And.intro o1 (And.intro o2 (And.intro o3 (And.intro o4 (And.intro b10 (And.intro q1 (And.intro q2 (And.intro q3 (And.intro q4 (And.intro n4 (And.intro g2 g4)))))))))))) ?_ | refine SWop.no (And.intro divzS.eq_1 (And.intro o1 (And.intro o2 (And.intro o3 (And.intro o4 (And.intro b10 (And.intro q1 (And.intro q2 (And.intro q3 (And.intro q4 (And.intro n4 (And.intro g2 g4)))))))))))) ?_)
    refine W.condZ G (And.intro divzS.eq_1 (And.intro o1 (And.intro o2 (And.intro o3 (And.intro o4 (And.intro b10 (And.intro q1 (And.intro q2 (And.intro q3 (And.intro q4 (And.intro n4 (And.intro g2 g4)))))))))))) ?_ ?_
    all_goals intro hc
    · exact absurd hc (by decide)
    repeat' first
      | refine W.seq ?_ | (refine W.regS G ?_; dsimp only) | refine SW.nil ?_ | refine thenQ_normal ?_ | refine W.skip ?_ | refine W.exit ?_ | refine thenQ_exit ?_ | refine inBlockQ_exit ?_ | refine inBlockQ_normal ?_ | refine W.block ?_
      | (apply SW.toC; refine SWcall.go (And.intro divzS.eq_1 (And.intro o1 (And.intro o2 (And.intro o3 (And.intro o4 (And.intro b10 (And.intro q1 (And.intro q2 (And.intro q3 (And.intro q4 (And.intro n4 (And.intro g2 g4)))))))))))) ?_) | (apply SW.toOp; refine SWop.go (And.intro divzS.eq_1 (And.intro o1 (And.intro o2 (And.intro o3 (And.intro o4 (And.intro b10 (And.intro q1 (And.intro q2 (And.intro q3 (And.intro q4 (And.intro n4 (And.intro g2 g4)))))))))))) ?_) | (apply SW.toCG; first | refine SWcall.yes (And.intro divzS.eq_1 (And.intro o1 (And.intro o2 (And.intro o3 (And.intro o4 (And.intro b10 (And.intro q1 (And.intro q2 (And.intro q3 (And.intro q4 (And.intro n4 (And.intro g2 g4)))))))))))) ?_ | refine SWcall.no (And.intro divzS.eq_1 (And.intro o1 (And.intro o2 (And.intro o3 (And.intro o4 (And.intro b10 (And.intro q1 (And.intro q2 (And.intro q3 (And.intro q4 (And.intro n4 (And.intro g2 g4)))))))))))) ?_) | (apply SW.toG; first | refine SWop.yes (And.intro divzS.eq_1 (And.intro o1 (And.intro o2 (And.intro o3 (And.intro o4 (And.intro b10 (And.intro q1 (And.intro q2 (And.intro q3 (And.intro q4 (And.intro n4 (And.intro g2 g4)))))))))))) ?_ | refine SWop.no (And.intro divzS.eq_1 (And.intro o1 (And.intro o2 (And.intro o3 (And.intro o4 (And.intro b10 (And.intro q1 (And.intro q2 (And.intro q3 (And.intro q4 (And.intro n4 (And.intro g2 g4)))))))))))) ?_)
    refine ⟨true, Imp.le ?_, by decide⟩
    dsimp only [cond]
    exact sL_leZ (And.intro divzS.eq_1 (And.intro o1 (And.intro o2 (And.intro o3 (And.intro o4 (And.intro b10 (And.intro q1 (And.intro q2 (And.intro q3 (And.intro q4 (And.intro n4 (And.intro g2 g4))))))))))))
  · dsimp only [cond]
    repeat' first
      | refine W.seq ?_ | (refine W.regS G ?_; dsimp only) | refine SW.nil ?_ | refine thenQ_normal ?_ | refine W.skip ?_ | refine W.exit ?_ | refine thenQ_exit ?_ | refine inBlockQ_exit ?_ | refine inBlockQ_normal ?_ | refine W.block ?_
      | (apply SW.toC; refine SWcall.go (And.intro divzS.eq_1 (And.intro o1 (And.intro o2 (And.intro o3 (And.intro o4 (And.intro b10 (And.intro q1 (And.intro q2 (And.intro q3 (And.intro q4 (And.intro n4 (And.intro g2 g4)))))))))))) ?_) | (apply SW.toOp; refine SWop.go (And.intro divzS.eq_1 (And.intro o1 (And.intro o2 (And.intro o3 (And.intro o4 (And.intro b10 (And.intro q1 (And.intro q2 (And.intro q3 (And.intro q4 (And.intro n4 (And.intro g2 g4)))))))))))) ?_) | (apply SW.toCG; first | refine SWcall.yes (And.intro divzS.eq_1 (And.intro o1 (And.intro o2 (And.intro o3 (And.intro o4 (And.intro b10 (And.intro q1 (And.intro q2 (And.intro q3 (And.intro q4 (And.intro n4 (And.intro g2 g4)))))))))))) ?_ | refine SWcall.no (And.intro divzS.eq_1 (And.intro o1 (And.intro o2 (And.intro o3 (And.intro o4 (And.intro b10 (And.intro q1 (And.intro q2 (And.intro q3 (And.intro q4 (And.intro n4 (And.intro g2 g4)))))))))))) ?_) | (apply SW.toG; first | refine SWop.yes (And.intro divzS.eq_1 (And.intro o1 (And.intro o2 (And.intro o3 (And.intro o4 (And.intro b10 (And.intro q1 (And.intro q2 (And.intro q3 (And.intro q4 (And.intro n4 (And.intro g2 g4)))))))))))) ?_ | refine SWop.no (And.intro divzS.eq_1 (And.intro o1 (And.intro o2 (And.intro o3 (And.intro o4 (And.intro b10 (And.intro q1 (And.intro q2 (And.intro q3 (And.intro q4 (And.intro n4 (And.intro g2 g4)))))))))))) ?_)
    refine W.condZ G (And.intro divzS.eq_1 (And.intro o1 (And.intro o2 (And.intro o3 (And.intro o4 (And.intro b10 (And.intro q1 (And.intro q2 (And.intro q3 (And.intro q4 (And.intro n4 (And.intro g2 g4)))))))))))) ?_ ?_
    all_goals intro hc
    · generalize hX : ([50#8, 52#8] : List (BitVec 8)) = X
      have lX : X.length = 2 := by rw [← hX]; rfl
      have r1 : revF X (2 / 2) = [52#8, 50#8] := by rw [← hX]; rfl
      have r2 : revF X (X.length / 2) = [52#8, 50#8] := by rw [← hX]; rfl
      refine W.imp (s := sL [(3, .os 18 0 0 0 2)] [(18, .row (.u 8 X))] 27) ?_ (Imp.opn 18 ?_)
      rotate_left
      · exact sL_leZ (And.intro hX (And.intro divzS.eq_1 (And.intro o1 (And.intro o2 (And.intro o3 (And.intro o4 (And.intro b10 (And.intro q1 (And.intro q2 (And.intro q3 (And.intro q4 (And.intro n4 (And.intro g2 g4)))))))))))))
      repeat' first
        | refine W.seq ?_ | (refine W.regS G ?_; dsimp only) | refine SW.nil ?_ | refine thenQ_normal ?_ | refine W.skip ?_ | refine W.exit ?_ | refine thenQ_exit ?_ | refine inBlockQ_exit ?_ | refine inBlockQ_normal ?_ | refine W.block ?_
        | (apply SW.toC; refine SWcall.go (And.intro revS.eq_1 (And.intro lX (And.intro r1 r2))) ?_) | (apply SW.toOp; refine SWop.go (And.intro revS.eq_1 (And.intro lX (And.intro r1 r2))) ?_) | (apply SW.toCG; first | refine SWcall.yes (And.intro revS.eq_1 (And.intro lX (And.intro r1 r2))) ?_ | refine SWcall.no (And.intro revS.eq_1 (And.intro lX (And.intro r1 r2))) ?_) | (apply SW.toG; first | refine SWop.yes (And.intro revS.eq_1 (And.intro lX (And.intro r1 r2))) ?_ | refine SWop.no (And.intro revS.eq_1 (And.intro lX (And.intro r1 r2))) ?_)
      refine W.ret ?_
      repeat' first
        | refine thenQ_ret ?_
        | refine inBlockQ_ret ?_
      refine fin1Z (And.intro revS.eq_1 (And.intro lX (And.intro r1 r2))) ?_
      exact leV_refl
    · exact absurd hc (by decide)
end Go.Vm.C01
