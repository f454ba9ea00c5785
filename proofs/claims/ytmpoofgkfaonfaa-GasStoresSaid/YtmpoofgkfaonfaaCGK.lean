/- What some functions of the program compute, walked through once. -/
import Derived.Test.YtmpoofgkfaonfaaCGJ
namespace Go.Vm.C19
open Go Go.Proofs
set_option linter.unusedVariables false
set_option linter.unusedSimpArgs false
set_option maxRecDepth 100000
set_option maxHeartbeats 8000000

theorem rStore_sound : SoundFn Try.prog glB 32 storeS.run := by
  have G := good_of (P := Try.prog) glB_ro (l := []) (by simp)
  refine soundFn_of_W G Try.func32 (by decide) rfl (by decide) ?_
  intro ins ret outs h
  unfold storeS at h
  dsimp only at h
  split at h
  rotate_left
  · cases h
  rename_i a b c w
  cases h
  refine ⟨by show 4 ≤ 78; decide, fun w0 ext av => ?_⟩
  rw [Try.ntmps32, st0_eq]
  obtain ⟨z, hz⟩ : ∃ z, zeros 64 4 = z := ⟨_, rfl⟩
  rw [hz]
  have hz2 := hz
  refine W.seq ?_
  refine W.mid (sL [(3, .b w), (4, .p 4 0 0 0), (5, .p 5 0 0 0), (6, .p 6 0 0 0)] [(4, .agg 4 (.u 64 a)), (5, .agg 4 (.u 64 b)), (6, .agg 4 (.u 64 c))] 78) ?_ ?_
  · repeat' first
      | refine W.seq ?_ | (refine W.regS G ?_; dsimp only) | refine SW.nil ?_ | refine thenQ_normal ?_ | refine W.skip ?_ | refine W.exit ?_ | refine thenQ_exit ?_ | refine inBlockQ_exit ?_ | refine inBlockQ_normal ?_ | refine W.block ?_
      | (apply SW.toC; refine SWcall.go True.intro ?_) | (apply SW.toOp; refine SWop.go True.intro ?_) | (apply SW.toCG; first | refine SWcall.yes True.intro ?_ | refine SWcall.no True.intro ?_) | (apply SW.toG; first | refine SWop.yes True.intro ?_ | refine SWop.no True.intro ?_)
    refine Imp.le ?_
    exact sL_leZ True.intro
  refine W.seq ?_
  refine W.mid (sL [(4, .p 4 0 0 0), (5, .p 5 0 0 0), (6, .p 6 0 0 0), (10, .p 10 0 0 0), (3, .b w), (11, .u 64 2100#64)] [(4, .agg 4 (.u 64 a)), (5, .agg 4 (.u 64 b)), (6, .agg 4 (.u 64 c)), (10, .agg 4 (.u 64 z))] 78) ?_ ?_
  · skip
    repeat' first
      | refine W.seq ?_ | (refine W.regS G ?_; dsimp only) | refine SW.nil ?_ | refine thenQ_normal ?_ | refine W.skip ?_ | refine W.exit ?_ | refine thenQ_exit ?_ | refine inBlockQ_exit ?_ | refine inBlockQ_normal ?_ | refine W.block ?_
      | (apply SW.toC; refine SWcall.go hz2 ?_) | (apply SW.toOp; refine SWop.go hz2 ?_) | (apply SW.toCG; first | refine SWcall.yes hz2 ?_ | refine SWcall.no hz2 ?_) | (apply SW.toG; first | refine SWop.yes hz2 ?_ | refine SWop.no hz2 ?_)
    refine Imp.le ?_
    exact sL_leZ hz2
  refine W.seq ?_
  refine W.mid (sL [(4, .p 4 0 0 0), (5, .p 5 0 0 0), (6, .p 6 0 0 0), (10, .p 10 0 0 0), (11, .u 64 (mrU w))] [(4, .agg 4 (.u 64 a)), (5, .agg 4 (.u 64 b)), (6, .agg 4 (.u 64 c)), (10, .agg 4 (.u 64 z))] 78) ?_ ?_
  · skip
    repeat' first
      | refine W.seq ?_ | (refine W.regS G ?_; dsimp only) | refine SW.nil ?_ | refine thenQ_normal ?_ | refine W.skip ?_ | refine W.exit ?_ | refine thenQ_exit ?_ | refine inBlockQ_exit ?_ | refine inBlockQ_normal ?_ | refine W.block ?_
      | (apply SW.toC; refine SWcall.go True.intro ?_) | (apply SW.toOp; refine SWop.go True.intro ?_) | (apply SW.toCG; first | refine SWcall.yes True.intro ?_ | refine SWcall.no True.intro ?_) | (apply SW.toG; first | refine SWop.yes True.intro ?_ | refine SWop.no True.intro ?_)
    refine W.condZ G True.intro ?_ ?_
    all_goals intro hc
    · have hc' : w = true := hc
      have e : mrU w = 0#64 := by rw [hc']; rfl
      repeat' first
        | refine W.seq ?_ | (refine W.regS G ?_; dsimp only) | refine SW.nil ?_ | refine thenQ_normal ?_ | refine W.skip ?_ | refine W.exit ?_ | refine thenQ_exit ?_ | refine inBlockQ_exit ?_ | refine inBlockQ_normal ?_ | refine W.block ?_
        | (apply SW.toC; refine SWcall.go True.intro ?_) | (apply SW.toOp; refine SWop.go True.intro ?_) | (apply SW.toCG; first | refine SWcall.yes True.intro ?_ | refine SWcall.no True.intro ?_) | (apply SW.toG; first | refine SWop.yes True.intro ?_ | refine SWop.no True.intro ?_)
      refine Imp.le ?_
      exact sL_leZ e
    · have hc' : w = false := hc
      have e : mrU w = 2100#64 := by rw [hc']; rfl
      repeat' first
        | refine W.seq ?_ | (refine W.regS G ?_; dsimp only) | refine SW.nil ?_ | refine thenQ_normal ?_ | refine W.skip ?_ | refine W.exit ?_ | refine thenQ_exit ?_ | refine inBlockQ_exit ?_ | refine inBlockQ_normal ?_ | refine W.block ?_
        | (apply SW.toC; refine SWcall.go True.intro ?_) | (apply SW.toOp; refine SWop.go True.intro ?_) | (apply SW.toCG; first | refine SWcall.yes True.intro ?_ | refine SWcall.no True.intro ?_) | (apply SW.toG; first | refine SWop.yes True.intro ?_ | refine SWop.no True.intro ?_)
      refine Imp.le ?_
      exact sL_leZ e
  have hS : ∀ e1 e2 z1, stU w e1 e2 z1 = if e1 = true then mrU w + 100#64 else if e2 = true then (if z1 = true then mrU w + 20000#64 else mrU w + 2900#64) else mrU w + 100#64 := fun _ _ _ => rfl
  generalize mrU w = r at hS ⊢
  by_cases h1 : c = b
  · have d1 := decide_eq_true h1
    have q1 := eq_true h1.symm
    rw [d1]
    rw [hS]
    repeat' first
      | refine W.seq ?_ | (refine W.regS G ?_; dsimp only) | refine SW.nil ?_ | refine thenQ_normal ?_ | refine W.skip ?_ | refine W.exit ?_ | refine thenQ_exit ?_ | refine inBlockQ_exit ?_ | refine inBlockQ_normal ?_ | refine W.block ?_
      | (apply SW.toC; refine SWcall.go q1 ?_) | (apply SW.toOp; refine SWop.go q1 ?_) | (apply SW.toCG; first | refine SWcall.yes q1 ?_ | refine SWcall.no q1 ?_) | (apply SW.toG; first | refine SWop.yes q1 ?_ | refine SWop.no q1 ?_)
    refine W.condZ G q1 ?_ ?_
    all_goals intro hcc
    rotate_left
    · exact absurd hcc (by decide)
    clear hcc
    repeat' first
      | refine W.seq ?_ | (refine W.regS G ?_; dsimp only) | refine SW.nil ?_ | refine thenQ_normal ?_ | refine W.skip ?_ | refine W.exit ?_ | refine thenQ_exit ?_ | refine inBlockQ_exit ?_ | refine inBlockQ_normal ?_ | refine W.block ?_
      | (apply SW.toC; refine SWcall.go q1 ?_) | (apply SW.toOp; refine SWop.go q1 ?_) | (apply SW.toCG; first | refine SWcall.yes q1 ?_ | refine SWcall.no q1 ?_) | (apply SW.toG; first | refine SWop.yes q1 ?_ | refine SWop.no q1 ?_)
    refine W.ret ?_
    repeat' first
      | refine thenQ_ret ?_
      | refine inBlockQ_ret ?_
    refine fin2Z q1 ?_ ?_
    · exact leV_refl
    · exact leV_refl
  have d1 := decide_eq_false h1
  have q1 := eq_false (fun e : b = c => h1 e.symm)
  rw [d1]
  by_cases h2 : b = a
  · have d2 := decide_eq_true h2
    have q2 := eq_true h2
    rw [d2]
    by_cases h3 : a = z
    · have d3 := decide_eq_true h3
      have q3 := eq_true h3
      rw [d3, hS]
      repeat' first
        | refine W.seq ?_ | (refine W.regS G ?_; dsimp only) | refine SW.nil ?_ | refine thenQ_normal ?_ | refine W.skip ?_ | refine W.exit ?_ | refine thenQ_exit ?_ | refine inBlockQ_exit ?_ | refine inBlockQ_normal ?_ | refine W.block ?_
        | (apply SW.toC; refine SWcall.go (And.intro q1 (And.intro q2 q3)) ?_) | (apply SW.toOp; refine SWop.go (And.intro q1 (And.intro q2 q3)) ?_) | (apply SW.toCG; first | refine SWcall.yes (And.intro q1 (And.intro q2 q3)) ?_ | refine SWcall.no (And.intro q1 (And.intro q2 q3)) ?_) | (apply SW.toG; first | refine SWop.yes (And.intro q1 (And.intro q2 q3)) ?_ | refine SWop.no (And.intro q1 (And.intro q2 q3)) ?_)
      refine W.condZ G (And.intro q1 (And.intro q2 q3)) ?_ ?_
      all_goals intro hcc
      · exact absurd hcc (by decide)
      clear hcc
      repeat' first
        | refine W.seq ?_ | (refine W.regS G ?_; dsimp only) | refine SW.nil ?_ | refine thenQ_normal ?_ | refine W.skip ?_ | refine W.exit ?_ | refine thenQ_exit ?_ | refine inBlockQ_exit ?_ | refine inBlockQ_normal ?_ | refine W.block ?_
        | (apply SW.toC; refine SWcall.go (And.intro q1 (And.intro q2 q3)) ?_) | (apply SW.toOp; refine SWop.go (And.intro q1 (And.intro q2 q3)) ?_) | (apply SW.toCG; first | refine SWcall.yes (And.intro q1 (And.intro q2 q3)) ?_ | refine SWcall.no (And.intro q1 (And.intro q2 q3)) ?_) | (apply SW.toG; first | refine SWop.yes (And.intro q1 (And.intro q2 q3)) ?_ | refine SWop.no (And.intro q1 (And.intro q2 q3)) ?_)
      refine W.condZ G (And.intro q1 (And.intro q2 q3)) ?_ ?_
      all_goals intro hcc
      rotate_left
      · exact absurd hcc (by decide)
      clear hcc
      repeat' first
        | refine W.seq ?_ | (refine W.regS G ?_; dsimp only) | refine SW.nil ?_ | refine thenQ_normal ?_ | refine W.skip ?_ | refine W.exit ?_ | refine thenQ_exit ?_ | refine inBlockQ_exit ?_ | refine inBlockQ_normal ?_ | refine W.block ?_
        | (apply SW.toC; refine SWcall.go (And.intro q1 (And.intro q2 q3)) ?_) | (apply SW.toOp; refine SWop.go (And.intro q1 (And.intro q2 q3)) ?_) | (apply SW.toCG; first | refine SWcall.yes (And.intro q1 (And.intro q2 q3)) ?_ | refine SWcall.no (And.intro q1 (And.intro q2 q3)) ?_) | (apply SW.toG; first | refine SWop.yes (And.intro q1 (And.intro q2 q3)) ?_ | refine SWop.no (And.intro q1 (And.intro q2 q3)) ?_)
      refine W.condZ G (And.intro q1 (And.intro q2 q3)) ?_ ?_
      all_goals intro hcc
      rotate_left
      · exact absurd hcc (by decide)
      clear hcc
      repeat' first
        | refine W.seq ?_ | (refine W.regS G ?_; dsimp only) | refine SW.nil ?_ | refine thenQ_normal ?_ | refine W.skip ?_ | refine W.exit ?_ | refine thenQ_exit ?_ | refine inBlockQ_exit ?_ | refine inBlockQ_normal ?_ | refine W.block ?_
        | (apply SW.toC; refine SWcall.go (And.intro q1 (And.intro q2 q3)) ?_) | (apply SW.toOp; refine SWop.go (And.intro q1 (And.intro q2 q3)) ?_) | (apply SW.toCG; first | refine SWcall.yes (And.intro q1 (And.intro q2 q3)) ?_ | refine SWcall.no (And.intro q1 (And.intro q2 q3)) ?_) | (apply SW.toG; first | refine SWop.yes (And.intro q1 (And.intro q2 q3)) ?_ | refine SWop.no (And.intro q1 (And.intro q2 q3)) ?_)
      refine W.ret ?_
      repeat' first
        | refine thenQ_ret ?_
        | refine inBlockQ_ret ?_
      refine fin2Z (And.intro q1 (And.intro q2 q3)) ?_ ?_
      · exact leV_refl
      · exact leV_refl
    have d3 := decide_eq_false h3
    have q3 := eq_false h3
    rw [d3, hS]
    by_cases h4 : c = z
    · have d4 := decide_eq_true h4
      have q4 := eq_true h4
      rw [d4]
      repeat' first
        | refine W.seq ?_ | (refine W.regS G ?_; dsimp only) | refine SW.nil ?_ | refine thenQ_normal ?_ | refine W.skip ?_ | refine W.exit ?_ | refine thenQ_exit ?_ | refine inBlockQ_exit ?_ | refine inBlockQ_normal ?_ | refine W.block ?_
        | (apply SW.toC; refine SWcall.go (And.intro q1 (And.intro q2 (And.intro q3 q4))) ?_) | (apply SW.toOp; refine SWop.go (And.intro q1 (And.intro q2 (And.intro q3 q4))) ?_) | (apply SW.toCG; first | refine SWcall.yes (And.intro q1 (And.intro q2 (And.intro q3 q4))) ?_ | refine SWcall.no (And.intro q1 (And.intro q2 (And.intro q3 q4))) ?_) | (apply SW.toG; first | refine SWop.yes (And.intro q1 (And.intro q2 (And.intro q3 q4))) ?_ | refine SWop.no (And.intro q1 (And.intro q2 (And.intro q3 q4))) ?_)
      refine W.condZ G (And.intro q1 (And.intro q2 (And.intro q3 q4))) ?_ ?_
      all_goals intro hcc
      · exact absurd hcc (by decide)
      clear hcc
      repeat' first
        | refine W.seq ?_ | (refine W.regS G ?_; dsimp only) | refine SW.nil ?_ | refine thenQ_normal ?_ | refine W.skip ?_ | refine W.exit ?_ | refine thenQ_exit ?_ | refine inBlockQ_exit ?_ | refine inBlockQ_normal ?_ | refine W.block ?_
        | (apply SW.toC; refine SWcall.go (And.intro q1 (And.intro q2 (And.intro q3 q4))) ?_) | (apply SW.toOp; refine SWop.go (And.intro q1 (And.intro q2 (And.intro q3 q4))) ?_) | (apply SW.toCG; first | refine SWcall.yes (And.intro q1 (And.intro q2 (And.intro q3 q4))) ?_ | refine SWcall.no (And.intro q1 (And.intro q2 (And.intro q3 q4))) ?_) | (apply SW.toG; first | refine SWop.yes (And.intro q1 (And.intro q2 (And.intro q3 q4))) ?_ | refine SWop.no (And.intro q1 (And.intro q2 (And.intro q3 q4))) ?_)
      refine W.condZ G (And.intro q1 (And.intro q2 (And.intro q3 q4))) ?_ ?_
      all_goals intro hcc
      rotate_left
      · exact absurd hcc (by decide)
      clear hcc
      repeat' first
        | refine W.seq ?_ | (refine W.regS G ?_; dsimp only) | refine SW.nil ?_ | refine thenQ_normal ?_ | refine W.skip ?_ | refine W.exit ?_ | refine thenQ_exit ?_ | refine inBlockQ_exit ?_ | refine inBlockQ_normal ?_ | refine W.block ?_
        | (apply SW.toC; refine SWcall.go (And.intro q1 (And.intro q2 (And.intro q3 q4))) ?_) | (apply SW.toOp; refine SWop.go (And.intro q1 (And.intro q2 (And.intro q3 q4))) ?_) | (apply SW.toCG; first | refine SWcall.yes (And.intro q1 (And.intro q2 (And.intro q3 q4))) ?_ | refine SWcall.no (And.intro q1 (And.intro q2 (And.intro q3 q4))) ?_) | (apply SW.toG; first | refine SWop.yes (And.intro q1 (And.intro q2 (And.intro q3 q4))) ?_ | refine SWop.no (And.intro q1 (And.intro q2 (And.intro q3 q4))) ?_)
      refine W.condZ G (And.intro q1 (And.intro q2 (And.intro q3 q4))) ?_ ?_
      all_goals intro hcc
      · exact absurd hcc (by decide)
      clear hcc
      repeat' first
        | refine W.seq ?_ | (refine W.regS G ?_; dsimp only) | refine SW.nil ?_ | refine thenQ_normal ?_ | refine W.skip ?_ | refine W.exit ?_ | refine thenQ_exit ?_ | refine inBlockQ_exit ?_ | refine inBlockQ_normal ?_ | refine W.block ?_
        | (apply SW.toC; refine SWcall.go (And.intro q1 (And.intro q2 (And.intro q3 q4))) ?_) | (apply SW.toOp; refine SWop.go (And.intro q1 (And.intro q2 (And.intro q3 q4))) ?_) | (apply SW.toCG; first | refine SWcall.yes (And.intro q1 (And.intro q2 (And.intro q3 q4))) ?_ | refine SWcall.no (And.intro q1 (And.intro q2 (And.intro q3 q4))) ?_) | (apply SW.toG; first | refine SWop.yes (And.intro q1 (And.intro q2 (And.intro q3 q4))) ?_ | refine SWop.no (And.intro q1 (And.intro q2 (And.intro q3 q4))) ?_)
      refine W.condZ G (And.intro q1 (And.intro q2 (And.intro q3 q4))) ?_ ?_
      all_goals intro hcc
      rotate_left
      · exact absurd hcc (by decide)
      clear hcc
      repeat' first
        | refine W.seq ?_ | (refine W.regS G ?_; dsimp only) | refine SW.nil ?_ | refine thenQ_normal ?_ | refine W.skip ?_ | refine W.exit ?_ | refine thenQ_exit ?_ | refine inBlockQ_exit ?_ | refine inBlockQ_normal ?_ | refine W.block ?_
        | (apply SW.toC; refine SWcall.go (And.intro q1 (And.intro q2 (And.intro q3 q4))) ?_) | (apply SW.toOp; refine SWop.go (And.intro q1 (And.intro q2 (And.intro q3 q4))) ?_) | (apply SW.toCG; first | refine SWcall.yes (And.intro q1 (And.intro q2 (And.intro q3 q4))) ?_ | refine SWcall.no (And.intro q1 (And.intro q2 (And.intro q3 q4))) ?_) | (apply SW.toG; first | refine SWop.yes (And.intro q1 (And.intro q2 (And.intro q3 q4))) ?_ | refine SWop.no (And.intro q1 (And.intro q2 (And.intro q3 q4))) ?_)
      refine W.ret ?_
      repeat' first
        | refine thenQ_ret ?_
        | refine inBlockQ_ret ?_
      refine fin2Z (And.intro q1 (And.intro q2 (And.intro q3 q4))) ?_ ?_
      · exact leV_refl
      · exact leV_refl
    have d4 := decide_eq_false h4
    have q4 := eq_false h4
    rw [d4]
    repeat' first
      | refine W.seq ?_ | (refine W.regS G ?_; dsimp only) | refine SW.nil ?_ | refine thenQ_normal ?_ | refine W.skip ?_ | refine W.exit ?_ | refine thenQ_exit ?_ | refine inBlockQ_exit ?_ | refine inBlockQ_normal ?_ | refine W.block ?_
      | (apply SW.toC; refine SWcall.go (And.intro q1 (And.intro q2 (And.intro q3 q4))) ?_) | (apply SW.toOp; refine SWop.go (And.intro q1 (And.intro q2 (And.intro q3 q4))) ?_) | (apply SW.toCG; first | refine SWcall.yes (And.intro q1 (And.intro q2 (And.intro q3 q4))) ?_ | refine SWcall.no (And.intro q1 (And.intro q2 (And.intro q3 q4))) ?_) | (apply SW.toG; first | refine SWop.yes (And.intro q1 (And.intro q2 (And.intro q3 q4))) ?_ | refine SWop.no (And.intro q1 (And.intro q2 (And.intro q3 q4))) ?_)
    refine W.condZ G (And.intro q1 (And.intro q2 (And.intro q3 q4))) ?_ ?_
    all_goals intro hcc
    · exact absurd hcc (by decide)
    clear hcc
    repeat' first
      | refine W.seq ?_ | (refine W.regS G ?_; dsimp only) | refine SW.nil ?_ | refine thenQ_normal ?_ | refine W.skip ?_ | refine W.exit ?_ | refine thenQ_exit ?_ | refine inBlockQ_exit ?_ | refine inBlockQ_normal ?_ | refine W.block ?_
      | (apply SW.toC; refine SWcall.go (And.intro q1 (And.intro q2 (And.intro q3 q4))) ?_) | (apply SW.toOp; refine SWop.go (And.intro q1 (And.intro q2 (And.intro q3 q4))) ?_) | (apply SW.toCG; first | refine SWcall.yes (And.intro q1 (And.intro q2 (And.intro q3 q4))) ?_ | refine SWcall.no (And.intro q1 (And.intro q2 (And.intro q3 q4))) ?_) | (apply SW.toG; first | refine SWop.yes (And.intro q1 (And.intro q2 (And.intro q3 q4))) ?_ | refine SWop.no (And.intro q1 (And.intro q2 (And.intro q3 q4))) ?_)
    refine W.condZ G (And.intro q1 (And.intro q2 (And.intro q3 q4))) ?_ ?_
    all_goals intro hcc
    rotate_left
    · exact absurd hcc (by decide)
    clear hcc
    repeat' first
      | refine W.seq ?_ | (refine W.regS G ?_; dsimp only) | refine SW.nil ?_ | refine thenQ_normal ?_ | refine W.skip ?_ | refine W.exit ?_ | refine thenQ_exit ?_ | refine inBlockQ_exit ?_ | refine inBlockQ_normal ?_ | refine W.block ?_
      | (apply SW.toC; refine SWcall.go (And.intro q1 (And.intro q2 (And.intro q3 q4))) ?_) | (apply SW.toOp; refine SWop.go (And.intro q1 (And.intro q2 (And.intro q3 q4))) ?_) | (apply SW.toCG; first | refine SWcall.yes (And.intro q1 (And.intro q2 (And.intro q3 q4))) ?_ | refine SWcall.no (And.intro q1 (And.intro q2 (And.intro q3 q4))) ?_) | (apply SW.toG; first | refine SWop.yes (And.intro q1 (And.intro q2 (And.intro q3 q4))) ?_ | refine SWop.no (And.intro q1 (And.intro q2 (And.intro q3 q4))) ?_)
    refine W.condZ G (And.intro q1 (And.intro q2 (And.intro q3 q4))) ?_ ?_
    all_goals intro hcc
    · exact absurd hcc (by decide)
    clear hcc
    repeat' first
      | refine W.seq ?_ | (refine W.regS G ?_; dsimp only) | refine SW.nil ?_ | refine thenQ_normal ?_ | refine W.skip ?_ | refine W.exit ?_ | refine thenQ_exit ?_ | refine inBlockQ_exit ?_ | refine inBlockQ_normal ?_ | refine W.block ?_
      | (apply SW.toC; refine SWcall.go (And.intro q1 (And.intro q2 (And.intro q3 q4))) ?_) | (apply SW.toOp; refine SWop.go (And.intro q1 (And.intro q2 (And.intro q3 q4))) ?_) | (apply SW.toCG; first | refine SWcall.yes (And.intro q1 (And.intro q2 (And.intro q3 q4))) ?_ | refine SWcall.no (And.intro q1 (And.intro q2 (And.intro q3 q4))) ?_) | (apply SW.toG; first | refine SWop.yes (And.intro q1 (And.intro q2 (And.intro q3 q4))) ?_ | refine SWop.no (And.intro q1 (And.intro q2 (And.intro q3 q4))) ?_)
    refine W.condZ G (And.intro q1 (And.intro q2 (And.intro q3 q4))) ?_ ?_
    all_goals intro hcc
    · exact absurd hcc (by decide)
    clear hcc
    repeat' first
      | refine W.seq ?_ | (refine W.regS G ?_; dsimp only) | refine SW.nil ?_ | refine thenQ_normal ?_ | refine W.skip ?_ | refine W.exit ?_ | refine thenQ_exit ?_ | refine inBlockQ_exit ?_ | refine inBlockQ_normal ?_ | refine W.block ?_
      | (apply SW.toC; refine SWcall.go (And.intro q1 (And.intro q2 (And.intro q3 q4))) ?_) | (apply SW.toOp; refine SWop.go (And.intro q1 (And.intro q2 (And.intro q3 q4))) ?_) | (apply SW.toCG; first | refine SWcall.yes (And.intro q1 (And.intro q2 (And.intro q3 q4))) ?_ | refine SWcall.no (And.intro q1 (And.intro q2 (And.intro q3 q4))) ?_) | (apply SW.toG; first | refine SWop.yes (And.intro q1 (And.intro q2 (And.intro q3 q4))) ?_ | refine SWop.no (And.intro q1 (And.intro q2 (And.intro q3 q4))) ?_)
    refine W.ret ?_
    repeat' first
      | refine thenQ_ret ?_
      | refine inBlockQ_ret ?_
    refine fin2Z (And.intro q1 (And.intro q2 (And.intro q3 q4))) ?_ ?_
    · exact leV_refl
    · exact leV_refl
  have d2 := decide_eq_false h2
  have q2 := eq_false h2
  rw [d2, hS]
  have hI : ∀ z1 z2 z3 e3, stI false false z1 z2 z3 e3 = (if z1 = true then 0 else (if z3 = true then -4800 else 0) + (if z2 = true then 4800 else 0)) + (if e3 = true then (if z1 = true then 19900 else 2800) else 0) := fun _ _ _ _ => rfl
  rw [hI]
  repeat' first
    | refine W.seq ?_ | (refine W.regS G ?_; dsimp only) | refine SW.nil ?_ | refine thenQ_normal ?_ | refine W.skip ?_ | refine W.exit ?_ | refine thenQ_exit ?_ | refine inBlockQ_exit ?_ | refine inBlockQ_normal ?_ | refine W.block ?_
    | (apply SW.toC; refine SWcall.go (And.intro q1 q2) ?_) | (apply SW.toOp; refine SWop.go (And.intro q1 q2) ?_) | (apply SW.toCG; first | refine SWcall.yes (And.intro q1 q2) ?_ | refine SWcall.no (And.intro q1 q2) ?_) | (apply SW.toG; first | refine SWop.yes (And.intro q1 q2) ?_ | refine SWop.no (And.intro q1 q2) ?_)
  refine W.condZ G (And.intro q1 q2) ?_ ?_
  all_goals intro hcc
  · exact absurd hcc (by decide)
  clear hcc
  repeat' first
    | refine W.seq ?_ | (refine W.regS G ?_; dsimp only) | refine SW.nil ?_ | refine thenQ_normal ?_ | refine W.skip ?_ | refine W.exit ?_ | refine thenQ_exit ?_ | refine inBlockQ_exit ?_ | refine inBlockQ_normal ?_ | refine W.block ?_
    | (apply SW.toC; refine SWcall.go (And.intro q1 q2) ?_) | (apply SW.toOp; refine SWop.go (And.intro q1 q2) ?_) | (apply SW.toCG; first | refine SWcall.yes (And.intro q1 q2) ?_ | refine SWcall.no (And.intro q1 q2) ?_) | (apply SW.toG; first | refine SWop.yes (And.intro q1 q2) ?_ | refine SWop.no (And.intro q1 q2) ?_)
  refine W.condZ G (And.intro q1 q2) ?_ ?_
  all_goals intro hcc
  · exact absurd hcc (by decide)
  clear hcc
  by_cases h3 : a = z
  · have q3 := eq_true h3
    rw [decide_eq_true h3]
    by_cases h6 : c = a
    · have q6 := eq_true h6
      rw [decide_eq_true h6]
      repeat' first
        | refine W.seq ?_ | (refine W.regS G ?_; dsimp only) | refine SW.nil ?_ | refine thenQ_normal ?_ | refine W.skip ?_ | refine W.exit ?_ | refine thenQ_exit ?_ | refine inBlockQ_exit ?_ | refine inBlockQ_normal ?_ | refine W.block ?_
        | (apply SW.toC; refine SWcall.go (And.intro q3 q6) ?_) | (apply SW.toOp; refine SWop.go (And.intro q3 q6) ?_) | (apply SW.toCG; first | refine SWcall.yes (And.intro q3 q6) ?_ | refine SWcall.no (And.intro q3 q6) ?_) | (apply SW.toG; first | refine SWop.yes (And.intro q3 q6) ?_ | refine SWop.no (And.intro q3 q6) ?_)
      refine W.condZ G (And.intro q3 q6) ?_ ?_
      all_goals intro hcc
      · exact absurd hcc (by decide)
      clear hcc
      repeat' first
        | refine W.seq ?_ | (refine W.regS G ?_; dsimp only) | refine SW.nil ?_ | refine thenQ_normal ?_ | refine W.skip ?_ | refine W.exit ?_ | refine thenQ_exit ?_ | refine inBlockQ_exit ?_ | refine inBlockQ_normal ?_ | refine W.block ?_
        | (apply SW.toC; refine SWcall.go (And.intro q3 q6) ?_) | (apply SW.toOp; refine SWop.go (And.intro q3 q6) ?_) | (apply SW.toCG; first | refine SWcall.yes (And.intro q3 q6) ?_ | refine SWcall.no (And.intro q3 q6) ?_) | (apply SW.toG; first | refine SWop.yes (And.intro q3 q6) ?_ | refine SWop.no (And.intro q3 q6) ?_)
      refine W.condZ G (And.intro q3 q6) ?_ ?_
      all_goals intro hcc
      · exact absurd hcc (by decide)
      clear hcc
      repeat' first
        | refine W.seq ?_ | (refine W.regS G ?_; dsimp only) | refine SW.nil ?_ | refine thenQ_normal ?_ | refine W.skip ?_ | refine W.exit ?_ | refine thenQ_exit ?_ | refine inBlockQ_exit ?_ | refine inBlockQ_normal ?_ | refine W.block ?_
        | (apply SW.toC; refine SWcall.go (And.intro q3 q6) ?_) | (apply SW.toOp; refine SWop.go (And.intro q3 q6) ?_) | (apply SW.toCG; first | refine SWcall.yes (And.intro q3 q6) ?_ | refine SWcall.no (And.intro q3 q6) ?_) | (apply SW.toG; first | refine SWop.yes (And.intro q3 q6) ?_ | refine SWop.no (And.intro q3 q6) ?_)
      refine W.condZ G (And.intro q3 q6) ?_ ?_
      all_goals intro hcc
      rotate_left
      · exact absurd hcc (by decide)
      clear hcc
      repeat' first
        | refine W.seq ?_ | (refine W.regS G ?_; dsimp only) | refine SW.nil ?_ | refine thenQ_normal ?_ | refine W.skip ?_ | refine W.exit ?_ | refine thenQ_exit ?_ | refine inBlockQ_exit ?_ | refine inBlockQ_normal ?_ | refine W.block ?_
        | (apply SW.toC; refine SWcall.go (And.intro q3 q6) ?_) | (apply SW.toOp; refine SWop.go (And.intro q3 q6) ?_) | (apply SW.toCG; first | refine SWcall.yes (And.intro q3 q6) ?_ | refine SWcall.no (And.intro q3 q6) ?_) | (apply SW.toG; first | refine SWop.yes (And.intro q3 q6) ?_ | refine SWop.no (And.intro q3 q6) ?_)
      refine W.condZ G (And.intro q3 q6) ?_ ?_
      all_goals intro hcc
      · exact absurd hcc (by decide)
      clear hcc
      repeat' first
        | refine W.seq ?_ | (refine W.regS G ?_; dsimp only) | refine SW.nil ?_ | refine thenQ_normal ?_ | refine W.skip ?_ | refine W.exit ?_ | refine thenQ_exit ?_ | refine inBlockQ_exit ?_ | refine inBlockQ_normal ?_ | refine W.block ?_
        | (apply SW.toC; refine SWcall.go (And.intro q3 q6) ?_) | (apply SW.toOp; refine SWop.go (And.intro q3 q6) ?_) | (apply SW.toCG; first | refine SWcall.yes (And.intro q3 q6) ?_ | refine SWcall.no (And.intro q3 q6) ?_) | (apply SW.toG; first | refine SWop.yes (And.intro q3 q6) ?_ | refine SWop.no (And.intro q3 q6) ?_)
      refine W.ret ?_
      repeat' first
        | refine thenQ_ret ?_
        | refine inBlockQ_ret ?_
      refine fin2Z (And.intro q3 q6) ?_ ?_
      · exact leV_refl
      · exact leV_refl
    have q6 := eq_false h6
    rw [decide_eq_false h6]
    repeat' first
      | refine W.seq ?_ | (refine W.regS G ?_; dsimp only) | refine SW.nil ?_ | refine thenQ_normal ?_ | refine W.skip ?_ | refine W.exit ?_ | refine thenQ_exit ?_ | refine inBlockQ_exit ?_ | refine inBlockQ_normal ?_ | refine W.block ?_
      | (apply SW.toC; refine SWcall.go (And.intro q3 q6) ?_) | (apply SW.toOp; refine SWop.go (And.intro q3 q6) ?_) | (apply SW.toCG; first | refine SWcall.yes (And.intro q3 q6) ?_ | refine SWcall.no (And.intro q3 q6) ?_) | (apply SW.toG; first | refine SWop.yes (And.intro q3 q6) ?_ | refine SWop.no (And.intro q3 q6) ?_)
    refine W.condZ G (And.intro q3 q6) ?_ ?_
    all_goals intro hcc
    · exact absurd hcc (by decide)
    clear hcc
    repeat' first
      | refine W.seq ?_ | (refine W.regS G ?_; dsimp only) | refine SW.nil ?_ | refine thenQ_normal ?_ | refine W.skip ?_ | refine W.exit ?_ | refine thenQ_exit ?_ | refine inBlockQ_exit ?_ | refine inBlockQ_normal ?_ | refine W.block ?_
      | (apply SW.toC; refine SWcall.go (And.intro q3 q6) ?_) | (apply SW.toOp; refine SWop.go (And.intro q3 q6) ?_) | (apply SW.toCG; first | refine SWcall.yes (And.intro q3 q6) ?_ | refine SWcall.no (And.intro q3 q6) ?_) | (apply SW.toG; first | refine SWop.yes (And.intro q3 q6) ?_ | refine SWop.no (And.intro q3 q6) ?_)
    refine W.condZ G (And.intro q3 q6) ?_ ?_
    all_goals intro hcc
    · exact absurd hcc (by decide)
    clear hcc
    repeat' first
      | refine W.seq ?_ | (refine W.regS G ?_; dsimp only) | refine SW.nil ?_ | refine thenQ_normal ?_ | refine W.skip ?_ | refine W.exit ?_ | refine thenQ_exit ?_ | refine inBlockQ_exit ?_ | refine inBlockQ_normal ?_ | refine W.block ?_
      | (apply SW.toC; refine SWcall.go (And.intro q3 q6) ?_) | (apply SW.toOp; refine SWop.go (And.intro q3 q6) ?_) | (apply SW.toCG; first | refine SWcall.yes (And.intro q3 q6) ?_ | refine SWcall.no (And.intro q3 q6) ?_) | (apply SW.toG; first | refine SWop.yes (And.intro q3 q6) ?_ | refine SWop.no (And.intro q3 q6) ?_)
    refine W.condZ G (And.intro q3 q6) ?_ ?_
    all_goals intro hcc
    · exact absurd hcc (by decide)
    clear hcc
    repeat' first
      | refine W.seq ?_ | (refine W.regS G ?_; dsimp only) | refine SW.nil ?_ | refine thenQ_normal ?_ | refine W.skip ?_ | refine W.exit ?_ | refine thenQ_exit ?_ | refine inBlockQ_exit ?_ | refine inBlockQ_normal ?_ | refine W.block ?_
      | (apply SW.toC; refine SWcall.go (And.intro q3 q6) ?_) | (apply SW.toOp; refine SWop.go (And.intro q3 q6) ?_) | (apply SW.toCG; first | refine SWcall.yes (And.intro q3 q6) ?_ | refine SWcall.no (And.intro q3 q6) ?_) | (apply SW.toG; first | refine SWop.yes (And.intro q3 q6) ?_ | refine SWop.no (And.intro q3 q6) ?_)
    refine W.condZ G (And.intro q3 q6) ?_ ?_
    all_goals intro hcc
    · exact absurd hcc (by decide)
    clear hcc
    repeat' first
      | refine W.seq ?_ | (refine W.regS G ?_; dsimp only) | refine SW.nil ?_ | refine thenQ_normal ?_ | refine W.skip ?_ | refine W.exit ?_ | refine thenQ_exit ?_ | refine inBlockQ_exit ?_ | refine inBlockQ_normal ?_ | refine W.block ?_
      | (apply SW.toC; refine SWcall.go (And.intro q3 q6) ?_) | (apply SW.toOp; refine SWop.go (And.intro q3 q6) ?_) | (apply SW.toCG; first | refine SWcall.yes (And.intro q3 q6) ?_ | refine SWcall.no (And.intro q3 q6) ?_) | (apply SW.toG; first | refine SWop.yes (And.intro q3 q6) ?_ | refine SWop.no (And.intro q3 q6) ?_)
    refine W.ret ?_
    repeat' first
      | refine thenQ_ret ?_
      | refine inBlockQ_ret ?_
    refine fin2Z (And.intro q3 q6) ?_ ?_
    · exact leV_refl
    · exact leV_refl
  have q3 := eq_false h3
  rw [decide_eq_false h3]
  by_cases h5 : b = z
  · have q5 := eq_true h5
    rw [decide_eq_true h5]
    by_cases h4 : c = z
    · have q4 := eq_true h4
      rw [decide_eq_true h4]
      by_cases h6 : c = a
      · have q6 := eq_true h6
        rw [decide_eq_true h6]
        repeat' first
          | refine W.seq ?_ | (refine W.regS G ?_; dsimp only) | refine SW.nil ?_ | refine thenQ_normal ?_ | refine W.skip ?_ | refine W.exit ?_ | refine thenQ_exit ?_ | refine inBlockQ_exit ?_ | refine inBlockQ_normal ?_ | refine W.block ?_
          | (apply SW.toC; refine SWcall.go (And.intro q3 (And.intro q5 (And.intro q4 q6))) ?_) | (apply SW.toOp; refine SWop.go (And.intro q3 (And.intro q5 (And.intro q4 q6))) ?_) | (apply SW.toCG; first | refine SWcall.yes (And.intro q3 (And.intro q5 (And.intro q4 q6))) ?_ | refine SWcall.no (And.intro q3 (And.intro q5 (And.intro q4 q6))) ?_) | (apply SW.toG; first | refine SWop.yes (And.intro q3 (And.intro q5 (And.intro q4 q6))) ?_ | refine SWop.no (And.intro q3 (And.intro q5 (And.intro q4 q6))) ?_)
        refine W.condZ G (And.intro q3 (And.intro q5 (And.intro q4 q6))) ?_ ?_
        all_goals intro hcc
        rotate_left
        · exact absurd hcc (by decide)
        clear hcc
        repeat' first
          | refine W.seq ?_ | (refine W.regS G ?_; dsimp only) | refine SW.nil ?_ | refine thenQ_normal ?_ | refine W.skip ?_ | refine W.exit ?_ | refine thenQ_exit ?_ | refine inBlockQ_exit ?_ | refine inBlockQ_normal ?_ | refine W.block ?_
          | (apply SW.toC; refine SWcall.go (And.intro q3 (And.intro q5 (And.intro q4 q6))) ?_) | (apply SW.toOp; refine SWop.go (And.intro q3 (And.intro q5 (And.intro q4 q6))) ?_) | (apply SW.toCG; first | refine SWcall.yes (And.intro q3 (And.intro q5 (And.intro q4 q6))) ?_ | refine SWcall.no (And.intro q3 (And.intro q5 (And.intro q4 q6))) ?_) | (apply SW.toG; first | refine SWop.yes (And.intro q3 (And.intro q5 (And.intro q4 q6))) ?_ | refine SWop.no (And.intro q3 (And.intro q5 (And.intro q4 q6))) ?_)
        refine W.condZ G (And.intro q3 (And.intro q5 (And.intro q4 q6))) ?_ ?_
        all_goals intro hcc
        rotate_left
        · exact absurd hcc (by decide)
        clear hcc
        repeat' first
          | refine W.seq ?_ | (refine W.regS G ?_; dsimp only) | refine SW.nil ?_ | refine thenQ_normal ?_ | refine W.skip ?_ | refine W.exit ?_ | refine thenQ_exit ?_ | refine inBlockQ_exit ?_ | refine inBlockQ_normal ?_ | refine W.block ?_
          | (apply SW.toC; refine SWcall.go (And.intro q3 (And.intro q5 (And.intro q4 q6))) ?_) | (apply SW.toOp; refine SWop.go (And.intro q3 (And.intro q5 (And.intro q4 q6))) ?_) | (apply SW.toCG; first | refine SWcall.yes (And.intro q3 (And.intro q5 (And.intro q4 q6))) ?_ | refine SWcall.no (And.intro q3 (And.intro q5 (And.intro q4 q6))) ?_) | (apply SW.toG; first | refine SWop.yes (And.intro q3 (And.intro q5 (And.intro q4 q6))) ?_ | refine SWop.no (And.intro q3 (And.intro q5 (And.intro q4 q6))) ?_)
        refine W.condZ G (And.intro q3 (And.intro q5 (And.intro q4 q6))) ?_ ?_
        all_goals intro hcc
        · exact absurd hcc (by decide)
        clear hcc
        repeat' first
          | refine W.seq ?_ | (refine W.regS G ?_; dsimp only) | refine SW.nil ?_ | refine thenQ_normal ?_ | refine W.skip ?_ | refine W.exit ?_ | refine thenQ_exit ?_ | refine inBlockQ_exit ?_ | refine inBlockQ_normal ?_ | refine W.block ?_
          | (apply SW.toC; refine SWcall.go (And.intro q3 (And.intro q5 (And.intro q4 q6))) ?_) | (apply SW.toOp; refine SWop.go (And.intro q3 (And.intro q5 (And.intro q4 q6))) ?_) | (apply SW.toCG; first | refine SWcall.yes (And.intro q3 (And.intro q5 (And.intro q4 q6))) ?_ | refine SWcall.no (And.intro q3 (And.intro q5 (And.intro q4 q6))) ?_) | (apply SW.toG; first | refine SWop.yes (And.intro q3 (And.intro q5 (And.intro q4 q6))) ?_ | refine SWop.no (And.intro q3 (And.intro q5 (And.intro q4 q6))) ?_)
        refine W.condZ G (And.intro q3 (And.intro q5 (And.intro q4 q6))) ?_ ?_
        all_goals intro hcc
        rotate_left
        · exact absurd hcc (by decide)
        clear hcc
        repeat' first
          | refine W.seq ?_ | (refine W.regS G ?_; dsimp only) | refine SW.nil ?_ | refine thenQ_normal ?_ | refine W.skip ?_ | refine W.exit ?_ | refine thenQ_exit ?_ | refine inBlockQ_exit ?_ | refine inBlockQ_normal ?_ | refine W.block ?_
          | (apply SW.toC; refine SWcall.go (And.intro q3 (And.intro q5 (And.intro q4 q6))) ?_) | (apply SW.toOp; refine SWop.go (And.intro q3 (And.intro q5 (And.intro q4 q6))) ?_) | (apply SW.toCG; first | refine SWcall.yes (And.intro q3 (And.intro q5 (And.intro q4 q6))) ?_ | refine SWcall.no (And.intro q3 (And.intro q5 (And.intro q4 q6))) ?_) | (apply SW.toG; first | refine SWop.yes (And.intro q3 (And.intro q5 (And.intro q4 q6))) ?_ | refine SWop.no (And.intro q3 (And.intro q5 (And.intro q4 q6))) ?_)
        refine W.ret ?_
        repeat' first
          | refine thenQ_ret ?_
          | refine inBlockQ_ret ?_
        refine fin2Z (And.intro q3 (And.intro q5 (And.intro q4 q6))) ?_ ?_
        · exact leV_refl
        · exact leV_refl
      have q6 := eq_false h6
      rw [decide_eq_false h6]
      repeat' first
        | refine W.seq ?_ | (refine W.regS G ?_; dsimp only) | refine SW.nil ?_ | refine thenQ_normal ?_ | refine W.skip ?_ | refine W.exit ?_ | refine thenQ_exit ?_ | refine inBlockQ_exit ?_ | refine inBlockQ_normal ?_ | refine W.block ?_
        | (apply SW.toC; refine SWcall.go (And.intro q3 (And.intro q5 (And.intro q4 q6))) ?_) | (apply SW.toOp; refine SWop.go (And.intro q3 (And.intro q5 (And.intro q4 q6))) ?_) | (apply SW.toCG; first | refine SWcall.yes (And.intro q3 (And.intro q5 (And.intro q4 q6))) ?_ | refine SWcall.no (And.intro q3 (And.intro q5 (And.intro q4 q6))) ?_) | (apply SW.toG; first | refine SWop.yes (And.intro q3 (And.intro q5 (And.intro q4 q6))) ?_ | refine SWop.no (And.intro q3 (And.intro q5 (And.intro q4 q6))) ?_)
      refine W.condZ G (And.intro q3 (And.intro q5 (And.intro q4 q6))) ?_ ?_
      all_goals intro hcc
      rotate_left
      · exact absurd hcc (by decide)
      clear hcc
      repeat' first
        | refine W.seq ?_ | (refine W.regS G ?_; dsimp only) | refine SW.nil ?_ | refine thenQ_normal ?_ | refine W.skip ?_ | refine W.exit ?_ | refine thenQ_exit ?_ | refine inBlockQ_exit ?_ | refine inBlockQ_normal ?_ | refine W.block ?_
        | (apply SW.toC; refine SWcall.go (And.intro q3 (And.intro q5 (And.intro q4 q6))) ?_) | (apply SW.toOp; refine SWop.go (And.intro q3 (And.intro q5 (And.intro q4 q6))) ?_) | (apply SW.toCG; first | refine SWcall.yes (And.intro q3 (And.intro q5 (And.intro q4 q6))) ?_ | refine SWcall.no (And.intro q3 (And.intro q5 (And.intro q4 q6))) ?_) | (apply SW.toG; first | refine SWop.yes (And.intro q3 (And.intro q5 (And.intro q4 q6))) ?_ | refine SWop.no (And.intro q3 (And.intro q5 (And.intro q4 q6))) ?_)
      refine W.condZ G (And.intro q3 (And.intro q5 (And.intro q4 q6))) ?_ ?_
      all_goals intro hcc
      rotate_left
      · exact absurd hcc (by decide)
      clear hcc
      repeat' first
        | refine W.seq ?_ | (refine W.regS G ?_; dsimp only) | refine SW.nil ?_ | refine thenQ_normal ?_ | refine W.skip ?_ | refine W.exit ?_ | refine thenQ_exit ?_ | refine inBlockQ_exit ?_ | refine inBlockQ_normal ?_ | refine W.block ?_
        | (apply SW.toC; refine SWcall.go (And.intro q3 (And.intro q5 (And.intro q4 q6))) ?_) | (apply SW.toOp; refine SWop.go (And.intro q3 (And.intro q5 (And.intro q4 q6))) ?_) | (apply SW.toCG; first | refine SWcall.yes (And.intro q3 (And.intro q5 (And.intro q4 q6))) ?_ | refine SWcall.no (And.intro q3 (And.intro q5 (And.intro q4 q6))) ?_) | (apply SW.toG; first | refine SWop.yes (And.intro q3 (And.intro q5 (And.intro q4 q6))) ?_ | refine SWop.no (And.intro q3 (And.intro q5 (And.intro q4 q6))) ?_)
      refine W.condZ G (And.intro q3 (And.intro q5 (And.intro q4 q6))) ?_ ?_
      all_goals intro hcc
      · exact absurd hcc (by decide)
      clear hcc
      repeat' first
        | refine W.seq ?_ | (refine W.regS G ?_; dsimp only) | refine SW.nil ?_ | refine thenQ_normal ?_ | refine W.skip ?_ | refine W.exit ?_ | refine thenQ_exit ?_ | refine inBlockQ_exit ?_ | refine inBlockQ_normal ?_ | refine W.block ?_
        | (apply SW.toC; refine SWcall.go (And.intro q3 (And.intro q5 (And.intro q4 q6))) ?_) | (apply SW.toOp; refine SWop.go (And.intro q3 (And.intro q5 (And.intro q4 q6))) ?_) | (apply SW.toCG; first | refine SWcall.yes (And.intro q3 (And.intro q5 (And.intro q4 q6))) ?_ | refine SWcall.no (And.intro q3 (And.intro q5 (And.intro q4 q6))) ?_) | (apply SW.toG; first | refine SWop.yes (And.intro q3 (And.intro q5 (And.intro q4 q6))) ?_ | refine SWop.no (And.intro q3 (And.intro q5 (And.intro q4 q6))) ?_)
      refine W.condZ G (And.intro q3 (And.intro q5 (And.intro q4 q6))) ?_ ?_
      all_goals intro hcc
      · exact absurd hcc (by decide)
      clear hcc
      repeat' first
        | refine W.seq ?_ | (refine W.regS G ?_; dsimp only) | refine SW.nil ?_ | refine thenQ_normal ?_ | refine W.skip ?_ | refine W.exit ?_ | refine thenQ_exit ?_ | refine inBlockQ_exit ?_ | refine inBlockQ_normal ?_ | refine W.block ?_
        | (apply SW.toC; refine SWcall.go (And.intro q3 (And.intro q5 (And.intro q4 q6))) ?_) | (apply SW.toOp; refine SWop.go (And.intro q3 (And.intro q5 (And.intro q4 q6))) ?_) | (apply SW.toCG; first | refine SWcall.yes (And.intro q3 (And.intro q5 (And.intro q4 q6))) ?_ | refine SWcall.no (And.intro q3 (And.intro q5 (And.intro q4 q6))) ?_) | (apply SW.toG; first | refine SWop.yes (And.intro q3 (And.intro q5 (And.intro q4 q6))) ?_ | refine SWop.no (And.intro q3 (And.intro q5 (And.intro q4 q6))) ?_)
      refine W.ret ?_
      repeat' first
        | refine thenQ_ret ?_
        | refine inBlockQ_ret ?_
      refine fin2Z (And.intro q3 (And.intro q5 (And.intro q4 q6))) ?_ ?_
      · exact leV_refl
      · exact leV_refl
    have q4 := eq_false h4
    rw [decide_eq_false h4]
    by_cases h6 : c = a
    · have q6 := eq_true h6
      rw [decide_eq_true h6]
      repeat' first
        | refine W.seq ?_ | (refine W.regS G ?_; dsimp only) | refine SW.nil ?_ | refine thenQ_normal ?_ | refine W.skip ?_ | refine W.exit ?_ | refine thenQ_exit ?_ | refine inBlockQ_exit ?_ | refine inBlockQ_normal ?_ | refine W.block ?_
        | (apply SW.toC; refine SWcall.go (And.intro q3 (And.intro q5 (And.intro q4 q6))) ?_) | (apply SW.toOp; refine SWop.go (And.intro q3 (And.intro q5 (And.intro q4 q6))) ?_) | (apply SW.toCG; first | refine SWcall.yes (And.intro q3 (And.intro q5 (And.intro q4 q6))) ?_ | refine SWcall.no (And.intro q3 (And.intro q5 (And.intro q4 q6))) ?_) | (apply SW.toG; first | refine SWop.yes (And.intro q3 (And.intro q5 (And.intro q4 q6))) ?_ | refine SWop.no (And.intro q3 (And.intro q5 (And.intro q4 q6))) ?_)
      refine W.condZ G (And.intro q3 (And.intro q5 (And.intro q4 q6))) ?_ ?_
      all_goals intro hcc
      rotate_left
      · exact absurd hcc (by decide)
      clear hcc
      repeat' first
        | refine W.seq ?_ | (refine W.regS G ?_; dsimp only) | refine SW.nil ?_ | refine thenQ_normal ?_ | refine W.skip ?_ | refine W.exit ?_ | refine thenQ_exit ?_ | refine inBlockQ_exit ?_ | refine inBlockQ_normal ?_ | refine W.block ?_
        | (apply SW.toC; refine SWcall.go (And.intro q3 (And.intro q5 (And.intro q4 q6))) ?_) | (apply SW.toOp; refine SWop.go (And.intro q3 (And.intro q5 (And.intro q4 q6))) ?_) | (apply SW.toCG; first | refine SWcall.yes (And.intro q3 (And.intro q5 (And.intro q4 q6))) ?_ | refine SWcall.no (And.intro q3 (And.intro q5 (And.intro q4 q6))) ?_) | (apply SW.toG; first | refine SWop.yes (And.intro q3 (And.intro q5 (And.intro q4 q6))) ?_ | refine SWop.no (And.intro q3 (And.intro q5 (And.intro q4 q6))) ?_)
      refine W.condZ G (And.intro q3 (And.intro q5 (And.intro q4 q6))) ?_ ?_
      all_goals intro hcc
      · exact absurd hcc (by decide)
      clear hcc
      repeat' first
        | refine W.seq ?_ | (refine W.regS G ?_; dsimp only) | refine SW.nil ?_ | refine thenQ_normal ?_ | refine W.skip ?_ | refine W.exit ?_ | refine thenQ_exit ?_ | refine inBlockQ_exit ?_ | refine inBlockQ_normal ?_ | refine W.block ?_
        | (apply SW.toC; refine SWcall.go (And.intro q3 (And.intro q5 (And.intro q4 q6))) ?_) | (apply SW.toOp; refine SWop.go (And.intro q3 (And.intro q5 (And.intro q4 q6))) ?_) | (apply SW.toCG; first | refine SWcall.yes (And.intro q3 (And.intro q5 (And.intro q4 q6))) ?_ | refine SWcall.no (And.intro q3 (And.intro q5 (And.intro q4 q6))) ?_) | (apply SW.toG; first | refine SWop.yes (And.intro q3 (And.intro q5 (And.intro q4 q6))) ?_ | refine SWop.no (And.intro q3 (And.intro q5 (And.intro q4 q6))) ?_)
      refine W.condZ G (And.intro q3 (And.intro q5 (And.intro q4 q6))) ?_ ?_
      all_goals intro hcc
      · exact absurd hcc (by decide)
      clear hcc
      repeat' first
        | refine W.seq ?_ | (refine W.regS G ?_; dsimp only) | refine SW.nil ?_ | refine thenQ_normal ?_ | refine W.skip ?_ | refine W.exit ?_ | refine thenQ_exit ?_ | refine inBlockQ_exit ?_ | refine inBlockQ_normal ?_ | refine W.block ?_
        | (apply SW.toC; refine SWcall.go (And.intro q3 (And.intro q5 (And.intro q4 q6))) ?_) | (apply SW.toOp; refine SWop.go (And.intro q3 (And.intro q5 (And.intro q4 q6))) ?_) | (apply SW.toCG; first | refine SWcall.yes (And.intro q3 (And.intro q5 (And.intro q4 q6))) ?_ | refine SWcall.no (And.intro q3 (And.intro q5 (And.intro q4 q6))) ?_) | (apply SW.toG; first | refine SWop.yes (And.intro q3 (And.intro q5 (And.intro q4 q6))) ?_ | refine SWop.no (And.intro q3 (And.intro q5 (And.intro q4 q6))) ?_)
      refine W.condZ G (And.intro q3 (And.intro q5 (And.intro q4 q6))) ?_ ?_
      all_goals intro hcc
      rotate_left
      · exact absurd hcc (by decide)
      clear hcc
      repeat' first
        | refine W.seq ?_ | (refine W.regS G ?_; dsimp only) | refine SW.nil ?_ | refine thenQ_normal ?_ | refine W.skip ?_ | refine W.exit ?_ | refine thenQ_exit ?_ | refine inBlockQ_exit ?_ | refine inBlockQ_normal ?_ | refine W.block ?_
        | (apply SW.toC; refine SWcall.go (And.intro q3 (And.intro q5 (And.intro q4 q6))) ?_) | (apply SW.toOp; refine SWop.go (And.intro q3 (And.intro q5 (And.intro q4 q6))) ?_) | (apply SW.toCG; first | refine SWcall.yes (And.intro q3 (And.intro q5 (And.intro q4 q6))) ?_ | refine SWcall.no (And.intro q3 (And.intro q5 (And.intro q4 q6))) ?_) | (apply SW.toG; first | refine SWop.yes (And.intro q3 (And.intro q5 (And.intro q4 q6))) ?_ | refine SWop.no (And.intro q3 (And.intro q5 (And.intro q4 q6))) ?_)
      refine W.ret ?_
      repeat' first
        | refine thenQ_ret ?_
        | refine inBlockQ_ret ?_
      refine fin2Z (And.intro q3 (And.intro q5 (And.intro q4 q6))) ?_ ?_
      · exact leV_refl
      · exact leV_refl
    have q6 := eq_false h6
    rw [decide_eq_false h6]
    repeat' first
      | refine W.seq ?_ | (refine W.regS G ?_; dsimp only) | refine SW.nil ?_ | refine thenQ_normal ?_ | refine W.skip ?_ | refine W.exit ?_ | refine thenQ_exit ?_ | refine inBlockQ_exit ?_ | refine inBlockQ_normal ?_ | refine W.block ?_
      | (apply SW.toC; refine SWcall.go (And.intro q3 (And.intro q5 (And.intro q4 q6))) ?_) | (apply SW.toOp; refine SWop.go (And.intro q3 (And.intro q5 (And.intro q4 q6))) ?_) | (apply SW.toCG; first | refine SWcall.yes (And.intro q3 (And.intro q5 (And.intro q4 q6))) ?_ | refine SWcall.no (And.intro q3 (And.intro q5 (And.intro q4 q6))) ?_) | (apply SW.toG; first | refine SWop.yes (And.intro q3 (And.intro q5 (And.intro q4 q6))) ?_ | refine SWop.no (And.intro q3 (And.intro q5 (And.intro q4 q6))) ?_)
    refine W.condZ G (And.intro q3 (And.intro q5 (And.intro q4 q6))) ?_ ?_
    all_goals intro hcc
    rotate_left
    · exact absurd hcc (by decide)
    clear hcc
    repeat' first
      | refine W.seq ?_ | (refine W.regS G ?_; dsimp only) | refine SW.nil ?_ | refine thenQ_normal ?_ | refine W.skip ?_ | refine W.exit ?_ | refine thenQ_exit ?_ | refine inBlockQ_exit ?_ | refine inBlockQ_normal ?_ | refine W.block ?_
      | (apply SW.toC; refine SWcall.go (And.intro q3 (And.intro q5 (And.intro q4 q6))) ?_) | (apply SW.toOp; refine SWop.go (And.intro q3 (And.intro q5 (And.intro q4 q6))) ?_) | (apply SW.toCG; first | refine SWcall.yes (And.intro q3 (And.intro q5 (And.intro q4 q6))) ?_ | refine SWcall.no (And.intro q3 (And.intro q5 (And.intro q4 q6))) ?_) | (apply SW.toG; first | refine SWop.yes (And.intro q3 (And.intro q5 (And.intro q4 q6))) ?_ | refine SWop.no (And.intro q3 (And.intro q5 (And.intro q4 q6))) ?_)
    refine W.condZ G (And.intro q3 (And.intro q5 (And.intro q4 q6))) ?_ ?_
    all_goals intro hcc
    · exact absurd hcc (by decide)
    clear hcc
    repeat' first
      | refine W.seq ?_ | (refine W.regS G ?_; dsimp only) | refine SW.nil ?_ | refine thenQ_normal ?_ | refine W.skip ?_ | refine W.exit ?_ | refine thenQ_exit ?_ | refine inBlockQ_exit ?_ | refine inBlockQ_normal ?_ | refine W.block ?_
      | (apply SW.toC; refine SWcall.go (And.intro q3 (And.intro q5 (And.intro q4 q6))) ?_) | (apply SW.toOp; refine SWop.go (And.intro q3 (And.intro q5 (And.intro q4 q6))) ?_) | (apply SW.toCG; first | refine SWcall.yes (And.intro q3 (And.intro q5 (And.intro q4 q6))) ?_ | refine SWcall.no (And.intro q3 (And.intro q5 (And.intro q4 q6))) ?_) | (apply SW.toG; first | refine SWop.yes (And.intro q3 (And.intro q5 (And.intro q4 q6))) ?_ | refine SWop.no (And.intro q3 (And.intro q5 (And.intro q4 q6))) ?_)
    refine W.condZ G (And.intro q3 (And.intro q5 (And.intro q4 q6))) ?_ ?_
    all_goals intro hcc
    · exact absurd hcc (by decide)
    clear hcc
    repeat' first
      | refine W.seq ?_ | (refine W.regS G ?_; dsimp only) | refine SW.nil ?_ | refine thenQ_normal ?_ | refine W.skip ?_ | refine W.exit ?_ | refine thenQ_exit ?_ | refine inBlockQ_exit ?_ | refine inBlockQ_normal ?_ | refine W.block ?_
      | (apply SW.toC; refine SWcall.go (And.intro q3 (And.intro q5 (And.intro q4 q6))) ?_) | (apply SW.toOp; refine SWop.go (And.intro q3 (And.intro q5 (And.intro q4 q6))) ?_) | (apply SW.toCG; first | refine SWcall.yes (And.intro q3 (And.intro q5 (And.intro q4 q6))) ?_ | refine SWcall.no (And.intro q3 (And.intro q5 (And.intro q4 q6))) ?_) | (apply SW.toG; first | refine SWop.yes (And.intro q3 (And.intro q5 (And.intro q4 q6))) ?_ | refine SWop.no (And.intro q3 (And.intro q5 (And.intro q4 q6))) ?_)
    refine W.condZ G (And.intro q3 (And.intro q5 (And.intro q4 q6))) ?_ ?_
    all_goals intro hcc
    · exact absurd hcc (by decide)
    clear hcc
    repeat' first
      | refine W.seq ?_ | (refine W.regS G ?_; dsimp only) | refine SW.nil ?_ | refine thenQ_normal ?_ | refine W.skip ?_ | refine W.exit ?_ | refine thenQ_exit ?_ | refine inBlockQ_exit ?_ | refine inBlockQ_normal ?_ | refine W.block ?_
      | (apply SW.toC; refine SWcall.go (And.intro q3 (And.intro q5 (And.intro q4 q6))) ?_) | (apply SW.toOp; refine SWop.go (And.intro q3 (And.intro q5 (And.intro q4 q6))) ?_) | (apply SW.toCG; first | refine SWcall.yes (And.intro q3 (And.intro q5 (And.intro q4 q6))) ?_ | refine SWcall.no (And.intro q3 (And.intro q5 (And.intro q4 q6))) ?_) | (apply SW.toG; first | refine SWop.yes (And.intro q3 (And.intro q5 (And.intro q4 q6))) ?_ | refine SWop.no (And.intro q3 (And.intro q5 (And.intro q4 q6))) ?_)
    refine W.ret ?_
    repeat' first
      | refine thenQ_ret ?_
      | refine inBlockQ_ret ?_
    refine fin2Z (And.intro q3 (And.intro q5 (And.intro q4 q6))) ?_ ?_
    · exact leV_refl
    · exact leV_refl
  have q5 := eq_false h5
  rw [decide_eq_false h5]
  by_cases h4 : c = z
  · have q4 := eq_true h4
    rw [decide_eq_true h4]
    by_cases h6 : c = a
    · have q6 := eq_true h6
      rw [decide_eq_true h6]
      repeat' first
        | refine W.seq ?_ | (refine W.regS G ?_; dsimp only) | refine SW.nil ?_ | refine thenQ_normal ?_ | refine W.skip ?_ | refine W.exit ?_ | refine thenQ_exit ?_ | refine inBlockQ_exit ?_ | refine inBlockQ_normal ?_ | refine W.block ?_
        | (apply SW.toC; refine SWcall.go (And.intro q3 (And.intro q5 (And.intro q4 q6))) ?_) | (apply SW.toOp; refine SWop.go (And.intro q3 (And.intro q5 (And.intro q4 q6))) ?_) | (apply SW.toCG; first | refine SWcall.yes (And.intro q3 (And.intro q5 (And.intro q4 q6))) ?_ | refine SWcall.no (And.intro q3 (And.intro q5 (And.intro q4 q6))) ?_) | (apply SW.toG; first | refine SWop.yes (And.intro q3 (And.intro q5 (And.intro q4 q6))) ?_ | refine SWop.no (And.intro q3 (And.intro q5 (And.intro q4 q6))) ?_)
      refine W.condZ G (And.intro q3 (And.intro q5 (And.intro q4 q6))) ?_ ?_
      all_goals intro hcc
      · exact absurd hcc (by decide)
      clear hcc
      repeat' first
        | refine W.seq ?_ | (refine W.regS G ?_; dsimp only) | refine SW.nil ?_ | refine thenQ_normal ?_ | refine W.skip ?_ | refine W.exit ?_ | refine thenQ_exit ?_ | refine inBlockQ_exit ?_ | refine inBlockQ_normal ?_ | refine W.block ?_
        | (apply SW.toC; refine SWcall.go (And.intro q3 (And.intro q5 (And.intro q4 q6))) ?_) | (apply SW.toOp; refine SWop.go (And.intro q3 (And.intro q5 (And.intro q4 q6))) ?_) | (apply SW.toCG; first | refine SWcall.yes (And.intro q3 (And.intro q5 (And.intro q4 q6))) ?_ | refine SWcall.no (And.intro q3 (And.intro q5 (And.intro q4 q6))) ?_) | (apply SW.toG; first | refine SWop.yes (And.intro q3 (And.intro q5 (And.intro q4 q6))) ?_ | refine SWop.no (And.intro q3 (And.intro q5 (And.intro q4 q6))) ?_)
      refine W.condZ G (And.intro q3 (And.intro q5 (And.intro q4 q6))) ?_ ?_
      all_goals intro hcc
      rotate_left
      · exact absurd hcc (by decide)
      clear hcc
      repeat' first
        | refine W.seq ?_ | (refine W.regS G ?_; dsimp only) | refine SW.nil ?_ | refine thenQ_normal ?_ | refine W.skip ?_ | refine W.exit ?_ | refine thenQ_exit ?_ | refine inBlockQ_exit ?_ | refine inBlockQ_normal ?_ | refine W.block ?_
        | (apply SW.toC; refine SWcall.go (And.intro q3 (And.intro q5 (And.intro q4 q6))) ?_) | (apply SW.toOp; refine SWop.go (And.intro q3 (And.intro q5 (And.intro q4 q6))) ?_) | (apply SW.toCG; first | refine SWcall.yes (And.intro q3 (And.intro q5 (And.intro q4 q6))) ?_ | refine SWcall.no (And.intro q3 (And.intro q5 (And.intro q4 q6))) ?_) | (apply SW.toG; first | refine SWop.yes (And.intro q3 (And.intro q5 (And.intro q4 q6))) ?_ | refine SWop.no (And.intro q3 (And.intro q5 (And.intro q4 q6))) ?_)
      refine W.condZ G (And.intro q3 (And.intro q5 (And.intro q4 q6))) ?_ ?_
      all_goals intro hcc
      · exact absurd hcc (by decide)
      clear hcc
      repeat' first
        | refine W.seq ?_ | (refine W.regS G ?_; dsimp only) | refine SW.nil ?_ | refine thenQ_normal ?_ | refine W.skip ?_ | refine W.exit ?_ | refine thenQ_exit ?_ | refine inBlockQ_exit ?_ | refine inBlockQ_normal ?_ | refine W.block ?_
        | (apply SW.toC; refine SWcall.go (And.intro q3 (And.intro q5 (And.intro q4 q6))) ?_) | (apply SW.toOp; refine SWop.go (And.intro q3 (And.intro q5 (And.intro q4 q6))) ?_) | (apply SW.toCG; first | refine SWcall.yes (And.intro q3 (And.intro q5 (And.intro q4 q6))) ?_ | refine SWcall.no (And.intro q3 (And.intro q5 (And.intro q4 q6))) ?_) | (apply SW.toG; first | refine SWop.yes (And.intro q3 (And.intro q5 (And.intro q4 q6))) ?_ | refine SWop.no (And.intro q3 (And.intro q5 (And.intro q4 q6))) ?_)
      refine W.condZ G (And.intro q3 (And.intro q5 (And.intro q4 q6))) ?_ ?_
      all_goals intro hcc
      rotate_left
      · exact absurd hcc (by decide)
      clear hcc
      repeat' first
        | refine W.seq ?_ | (refine W.regS G ?_; dsimp only) | refine SW.nil ?_ | refine thenQ_normal ?_ | refine W.skip ?_ | refine W.exit ?_ | refine thenQ_exit ?_ | refine inBlockQ_exit ?_ | refine inBlockQ_normal ?_ | refine W.block ?_
        | (apply SW.toC; refine SWcall.go (And.intro q3 (And.intro q5 (And.intro q4 q6))) ?_) | (apply SW.toOp; refine SWop.go (And.intro q3 (And.intro q5 (And.intro q4 q6))) ?_) | (apply SW.toCG; first | refine SWcall.yes (And.intro q3 (And.intro q5 (And.intro q4 q6))) ?_ | refine SWcall.no (And.intro q3 (And.intro q5 (And.intro q4 q6))) ?_) | (apply SW.toG; first | refine SWop.yes (And.intro q3 (And.intro q5 (And.intro q4 q6))) ?_ | refine SWop.no (And.intro q3 (And.intro q5 (And.intro q4 q6))) ?_)
      refine W.ret ?_
      repeat' first
        | refine thenQ_ret ?_
        | refine inBlockQ_ret ?_
      refine fin2Z (And.intro q3 (And.intro q5 (And.intro q4 q6))) ?_ ?_
      · exact leV_refl
      · exact leV_refl
    have q6 := eq_false h6
    rw [decide_eq_false h6]
    repeat' first
      | refine W.seq ?_ | (refine W.regS G ?_; dsimp only) | refine SW.nil ?_ | refine thenQ_normal ?_ | refine W.skip ?_ | refine W.exit ?_ | refine thenQ_exit ?_ | refine inBlockQ_exit ?_ | refine inBlockQ_normal ?_ | refine W.block ?_
      | (apply SW.toC; refine SWcall.go (And.intro q3 (And.intro q5 (And.intro q4 q6))) ?_) | (apply SW.toOp; refine SWop.go (And.intro q3 (And.intro q5 (And.intro q4 q6))) ?_) | (apply SW.toCG; first | refine SWcall.yes (And.intro q3 (And.intro q5 (And.intro q4 q6))) ?_ | refine SWcall.no (And.intro q3 (And.intro q5 (And.intro q4 q6))) ?_) | (apply SW.toG; first | refine SWop.yes (And.intro q3 (And.intro q5 (And.intro q4 q6))) ?_ | refine SWop.no (And.intro q3 (And.intro q5 (And.intro q4 q6))) ?_)
    refine W.condZ G (And.intro q3 (And.intro q5 (And.intro q4 q6))) ?_ ?_
    all_goals intro hcc
    · exact absurd hcc (by decide)
    clear hcc
    repeat' first
      | refine W.seq ?_ | (refine W.regS G ?_; dsimp only) | refine SW.nil ?_ | refine thenQ_normal ?_ | refine W.skip ?_ | refine W.exit ?_ | refine thenQ_exit ?_ | refine inBlockQ_exit ?_ | refine inBlockQ_normal ?_ | refine W.block ?_
      | (apply SW.toC; refine SWcall.go (And.intro q3 (And.intro q5 (And.intro q4 q6))) ?_) | (apply SW.toOp; refine SWop.go (And.intro q3 (And.intro q5 (And.intro q4 q6))) ?_) | (apply SW.toCG; first | refine SWcall.yes (And.intro q3 (And.intro q5 (And.intro q4 q6))) ?_ | refine SWcall.no (And.intro q3 (And.intro q5 (And.intro q4 q6))) ?_) | (apply SW.toG; first | refine SWop.yes (And.intro q3 (And.intro q5 (And.intro q4 q6))) ?_ | refine SWop.no (And.intro q3 (And.intro q5 (And.intro q4 q6))) ?_)
    refine W.condZ G (And.intro q3 (And.intro q5 (And.intro q4 q6))) ?_ ?_
    all_goals intro hcc
    rotate_left
    · exact absurd hcc (by decide)
    clear hcc
    repeat' first
      | refine W.seq ?_ | (refine W.regS G ?_; dsimp only) | refine SW.nil ?_ | refine thenQ_normal ?_ | refine W.skip ?_ | refine W.exit ?_ | refine thenQ_exit ?_ | refine inBlockQ_exit ?_ | refine inBlockQ_normal ?_ | refine W.block ?_
      | (apply SW.toC; refine SWcall.go (And.intro q3 (And.intro q5 (And.intro q4 q6))) ?_) | (apply SW.toOp; refine SWop.go (And.intro q3 (And.intro q5 (And.intro q4 q6))) ?_) | (apply SW.toCG; first | refine SWcall.yes (And.intro q3 (And.intro q5 (And.intro q4 q6))) ?_ | refine SWcall.no (And.intro q3 (And.intro q5 (And.intro q4 q6))) ?_) | (apply SW.toG; first | refine SWop.yes (And.intro q3 (And.intro q5 (And.intro q4 q6))) ?_ | refine SWop.no (And.intro q3 (And.intro q5 (And.intro q4 q6))) ?_)
    refine W.condZ G (And.intro q3 (And.intro q5 (And.intro q4 q6))) ?_ ?_
    all_goals intro hcc
    · exact absurd hcc (by decide)
    clear hcc
    repeat' first
      | refine W.seq ?_ | (refine W.regS G ?_; dsimp only) | refine SW.nil ?_ | refine thenQ_normal ?_ | refine W.skip ?_ | refine W.exit ?_ | refine thenQ_exit ?_ | refine inBlockQ_exit ?_ | refine inBlockQ_normal ?_ | refine W.block ?_
      | (apply SW.toC; refine SWcall.go (And.intro q3 (And.intro q5 (And.intro q4 q6))) ?_) | (apply SW.toOp; refine SWop.go (And.intro q3 (And.intro q5 (And.intro q4 q6))) ?_) | (apply SW.toCG; first | refine SWcall.yes (And.intro q3 (And.intro q5 (And.intro q4 q6))) ?_ | refine SWcall.no (And.intro q3 (And.intro q5 (And.intro q4 q6))) ?_) | (apply SW.toG; first | refine SWop.yes (And.intro q3 (And.intro q5 (And.intro q4 q6))) ?_ | refine SWop.no (And.intro q3 (And.intro q5 (And.intro q4 q6))) ?_)
    refine W.condZ G (And.intro q3 (And.intro q5 (And.intro q4 q6))) ?_ ?_
    all_goals intro hcc
    · exact absurd hcc (by decide)
    clear hcc
    repeat' first
      | refine W.seq ?_ | (refine W.regS G ?_; dsimp only) | refine SW.nil ?_ | refine thenQ_normal ?_ | refine W.skip ?_ | refine W.exit ?_ | refine thenQ_exit ?_ | refine inBlockQ_exit ?_ | refine inBlockQ_normal ?_ | refine W.block ?_
      | (apply SW.toC; refine SWcall.go (And.intro q3 (And.intro q5 (And.intro q4 q6))) ?_) | (apply SW.toOp; refine SWop.go (And.intro q3 (And.intro q5 (And.intro q4 q6))) ?_) | (apply SW.toCG; first | refine SWcall.yes (And.intro q3 (And.intro q5 (And.intro q4 q6))) ?_ | refine SWcall.no (And.intro q3 (And.intro q5 (And.intro q4 q6))) ?_) | (apply SW.toG; first | refine SWop.yes (And.intro q3 (And.intro q5 (And.intro q4 q6))) ?_ | refine SWop.no (And.intro q3 (And.intro q5 (And.intro q4 q6))) ?_)
    refine W.ret ?_
    repeat' first
      | refine thenQ_ret ?_
      | refine inBlockQ_ret ?_
    refine fin2Z (And.intro q3 (And.intro q5 (And.intro q4 q6))) ?_ ?_
    · exact leV_refl
    · exact leV_refl
  have q4 := eq_false h4
  rw [decide_eq_false h4]
  by_cases h6 : c = a
  · have q6 := eq_true h6
    rw [decide_eq_true h6]
    repeat' first
      | refine W.seq ?_ | (refine W.regS G ?_; dsimp only) | refine SW.nil ?_ | refine thenQ_normal ?_ | refine W.skip ?_ | refine W.exit ?_ | refine thenQ_exit ?_ | refine inBlockQ_exit ?_ | refine inBlockQ_normal ?_ | refine W.block ?_
      | (apply SW.toC; refine SWcall.go (And.intro q3 (And.intro q5 (And.intro q4 q6))) ?_) | (apply SW.toOp; refine SWop.go (And.intro q3 (And.intro q5 (And.intro q4 q6))) ?_) | (apply SW.toCG; first | refine SWcall.yes (And.intro q3 (And.intro q5 (And.intro q4 q6))) ?_ | refine SWcall.no (And.intro q3 (And.intro q5 (And.intro q4 q6))) ?_) | (apply SW.toG; first | refine SWop.yes (And.intro q3 (And.intro q5 (And.intro q4 q6))) ?_ | refine SWop.no (And.intro q3 (And.intro q5 (And.intro q4 q6))) ?_)
    refine W.condZ G (And.intro q3 (And.intro q5 (And.intro q4 q6))) ?_ ?_
    all_goals intro hcc
    · exact absurd hcc (by decide)
    clear hcc
    repeat' first
      | refine W.seq ?_ | (refine W.regS G ?_; dsimp only) | refine SW.nil ?_ | refine thenQ_normal ?_ | refine W.skip ?_ | refine W.exit ?_ | refine thenQ_exit ?_ | refine inBlockQ_exit ?_ | refine inBlockQ_normal ?_ | refine W.block ?_
      | (apply SW.toC; refine SWcall.go (And.intro q3 (And.intro q5 (And.intro q4 q6))) ?_) | (apply SW.toOp; refine SWop.go (And.intro q3 (And.intro q5 (And.intro q4 q6))) ?_) | (apply SW.toCG; first | refine SWcall.yes (And.intro q3 (And.intro q5 (And.intro q4 q6))) ?_ | refine SWcall.no (And.intro q3 (And.intro q5 (And.intro q4 q6))) ?_) | (apply SW.toG; first | refine SWop.yes (And.intro q3 (And.intro q5 (And.intro q4 q6))) ?_ | refine SWop.no (And.intro q3 (And.intro q5 (And.intro q4 q6))) ?_)
    refine W.condZ G (And.intro q3 (And.intro q5 (And.intro q4 q6))) ?_ ?_
    all_goals intro hcc
    · exact absurd hcc (by decide)
    clear hcc
    repeat' first
      | refine W.seq ?_ | (refine W.regS G ?_; dsimp only) | refine SW.nil ?_ | refine thenQ_normal ?_ | refine W.skip ?_ | refine W.exit ?_ | refine thenQ_exit ?_ | refine inBlockQ_exit ?_ | refine inBlockQ_normal ?_ | refine W.block ?_
      | (apply SW.toC; refine SWcall.go (And.intro q3 (And.intro q5 (And.intro q4 q6))) ?_) | (apply SW.toOp; refine SWop.go (And.intro q3 (And.intro q5 (And.intro q4 q6))) ?_) | (apply SW.toCG; first | refine SWcall.yes (And.intro q3 (And.intro q5 (And.intro q4 q6))) ?_ | refine SWcall.no (And.intro q3 (And.intro q5 (And.intro q4 q6))) ?_) | (apply SW.toG; first | refine SWop.yes (And.intro q3 (And.intro q5 (And.intro q4 q6))) ?_ | refine SWop.no (And.intro q3 (And.intro q5 (And.intro q4 q6))) ?_)
    refine W.condZ G (And.intro q3 (And.intro q5 (And.intro q4 q6))) ?_ ?_
    all_goals intro hcc
    · exact absurd hcc (by decide)
    clear hcc
    repeat' first
      | refine W.seq ?_ | (refine W.regS G ?_; dsimp only) | refine SW.nil ?_ | refine thenQ_normal ?_ | refine W.skip ?_ | refine W.exit ?_ | refine thenQ_exit ?_ | refine inBlockQ_exit ?_ | refine inBlockQ_normal ?_ | refine W.block ?_
      | (apply SW.toC; refine SWcall.go (And.intro q3 (And.intro q5 (And.intro q4 q6))) ?_) | (apply SW.toOp; refine SWop.go (And.intro q3 (And.intro q5 (And.intro q4 q6))) ?_) | (apply SW.toCG; first | refine SWcall.yes (And.intro q3 (And.intro q5 (And.intro q4 q6))) ?_ | refine SWcall.no (And.intro q3 (And.intro q5 (And.intro q4 q6))) ?_) | (apply SW.toG; first | refine SWop.yes (And.intro q3 (And.intro q5 (And.intro q4 q6))) ?_ | refine SWop.no (And.intro q3 (And.intro q5 (And.intro q4 q6))) ?_)
    refine W.condZ G (And.intro q3 (And.intro q5 (And.intro q4 q6))) ?_ ?_
    all_goals intro hcc
    rotate_left
    · exact absurd hcc (by decide)
    clear hcc
    repeat' first
      | refine W.seq ?_ | (refine W.regS G ?_; dsimp only) | refine SW.nil ?_ | refine thenQ_normal ?_ | refine W.skip ?_ | refine W.exit ?_ | refine thenQ_exit ?_ | refine inBlockQ_exit ?_ | refine inBlockQ_normal ?_ | refine W.block ?_
      | (apply SW.toC; refine SWcall.go (And.intro q3 (And.intro q5 (And.intro q4 q6))) ?_) | (apply SW.toOp; refine SWop.go (And.intro q3 (And.intro q5 (And.intro q4 q6))) ?_) | (apply SW.toCG; first | refine SWcall.yes (And.intro q3 (And.intro q5 (And.intro q4 q6))) ?_ | refine SWcall.no (And.intro q3 (And.intro q5 (And.intro q4 q6))) ?_) | (apply SW.toG; first | refine SWop.yes (And.intro q3 (And.intro q5 (And.intro q4 q6))) ?_ | refine SWop.no (And.intro q3 (And.intro q5 (And.intro q4 q6))) ?_)
    refine W.ret ?_
    repeat' first
      | refine thenQ_ret ?_
      | refine inBlockQ_ret ?_
    refine fin2Z (And.intro q3 (And.intro q5 (And.intro q4 q6))) ?_ ?_
    · exact leV_refl
    · exact leV_refl
  have q6 := eq_false h6
  rw [decide_eq_false h6]
  repeat' first
    | refine W.seq ?_ | (refine W.regS G ?_; dsimp only) | refine SW.nil ?_ | refine thenQ_normal ?_ | refine W.skip ?_ | refine W.exit ?_ | refine thenQ_exit ?_ | refine inBlockQ_exit ?_ | refine inBlockQ_normal ?_ | refine W.block ?_
    | (apply SW.toC; refine SWcall.go (And.intro q3 (And.intro q5 (And.intro q4 q6))) ?_) | (apply SW.toOp; refine SWop.go (And.intro q3 (And.intro q5 (And.intro q4 q6))) ?_) | (apply SW.toCG; first | refine SWcall.yes (And.intro q3 (And.intro q5 (And.intro q4 q6))) ?_ | refine SWcall.no (And.intro q3 (And.intro q5 (And.intro q4 q6))) ?_) | (apply SW.toG; first | refine SWop.yes (And.intro q3 (And.intro q5 (And.intro q4 q6))) ?_ | refine SWop.no (And.intro q3 (And.intro q5 (And.intro q4 q6))) ?_)
  refine W.condZ G (And.intro q3 (And.intro q5 (And.intro q4 q6))) ?_ ?_
  all_goals intro hcc
  · exact absurd hcc (by decide)
  clear hcc
  repeat' first
    | refine W.seq ?_ | (refine W.regS G ?_; dsimp only) | refine SW.nil ?_ | refine thenQ_normal ?_ | refine W.skip ?_ | refine W.exit ?_ | refine thenQ_exit ?_ | refine inBlockQ_exit ?_ | refine inBlockQ_normal ?_ | refine W.block ?_
    | (apply SW.toC; refine SWcall.go (And.intro q3 (And.intro q5 (And.intro q4 q6))) ?_) | (apply SW.toOp; refine SWop.go (And.intro q3 (And.intro q5 (And.intro q4 q6))) ?_) | (apply SW.toCG; first | refine SWcall.yes (And.intro q3 (And.intro q5 (And.intro q4 q6))) ?_ | refine SWcall.no (And.intro q3 (And.intro q5 (And.intro q4 q6))) ?_) | (apply SW.toG; first | refine SWop.yes (And.intro q3 (And.intro q5 (And.intro q4 q6))) ?_ | refine SWop.no (And.intro q3 (And.intro q5 (And.intro q4 q6))) ?_)
  refine W.condZ G (And.intro q3 (And.intro q5 (And.intro q4 q6))) ?_ ?_
  all_goals intro hcc
  · exact absurd hcc (by decide)
  clear hcc
  repeat' first
    | refine W.seq ?_ | (refine W.regS G ?_; dsimp only) | refine SW.nil ?_ | refine thenQ_normal ?_ | refine W.skip ?_ | refine W.exit ?_ | refine thenQ_exit ?_ | refine inBlockQ_exit ?_ | refine inBlockQ_normal ?_ | refine W.block ?_
    | (apply SW.toC; refine SWcall.go (And.intro q3 (And.intro q5 (And.intro q4 q6))) ?_) | (apply SW.toOp; refine SWop.go (And.intro q3 (And.intro q5 (And.intro q4 q6))) ?_) | (apply SW.toCG; first | refine SWcall.yes (And.intro q3 (And.intro q5 (And.intro q4 q6))) ?_ | refine SWcall.no (And.intro q3 (And.intro q5 (And.intro q4 q6))) ?_) | (apply SW.toG; first | refine SWop.yes (And.intro q3 (And.intro q5 (And.intro q4 q6))) ?_ | refine SWop.no (And.intro q3 (And.intro q5 (And.intro q4 q6))) ?_)
  refine W.condZ G (And.intro q3 (And.intro q5 (And.intro q4 q6))) ?_ ?_
  all_goals intro hcc
  · exact absurd hcc (by decide)
  clear hcc
  repeat' first
    | refine W.seq ?_ | (refine W.regS G ?_; dsimp only) | refine SW.nil ?_ | refine thenQ_normal ?_ | refine W.skip ?_ | refine W.exit ?_ | refine thenQ_exit ?_ | refine inBlockQ_exit ?_ | refine inBlockQ_normal ?_ | refine W.block ?_
    | (apply SW.toC; refine SWcall.go (And.intro q3 (And.intro q5 (And.intro q4 q6))) ?_) | (apply SW.toOp; refine SWop.go (And.intro q3 (And.intro q5 (And.intro q4 q6))) ?_) | (apply SW.toCG; first | refine SWcall.yes (And.intro q3 (And.intro q5 (And.intro q4 q6))) ?_ | refine SWcall.no (And.intro q3 (And.intro q5 (And.intro q4 q6))) ?_) | (apply SW.toG; first | refine SWop.yes (And.intro q3 (And.intro q5 (And.intro q4 q6))) ?_ | refine SWop.no (And.intro q3 (And.intro q5 (And.intro q4 q6))) ?_)
  refine W.condZ G (And.intro q3 (And.intro q5 (And.intro q4 q6))) ?_ ?_
  all_goals intro hcc
  · exact absurd hcc (by decide)
  clear hcc
  repeat' first
    | refine W.seq ?_ | (refine W.regS G ?_; dsimp only) | refine SW.nil ?_ | refine thenQ_normal ?_ | refine W.skip ?_ | refine W.exit ?_ | refine thenQ_exit ?_ | refine inBlockQ_exit ?_ | refine inBlockQ_normal ?_ | refine W.block ?_
    | (apply SW.toC; refine SWcall.go (And.intro q3 (And.intro q5 (And.intro q4 q6))) ?_) | (apply SW.toOp; refine SWop.go (And.intro q3 (And.intro q5 (And.intro q4 q6))) ?_) | (apply SW.toCG; first | refine SWcall.yes (And.intro q3 (And.intro q5 (And.intro q4 q6))) ?_ | refine SWcall.no (And.intro q3 (And.intro q5 (And.intro q4 q6))) ?_) | (apply SW.toG; first | refine SWop.yes (And.intro q3 (And.intro q5 (And.intro q4 q6))) ?_ | refine SWop.no (And.intro q3 (And.intro q5 (And.intro q4 q6))) ?_)
  refine W.ret ?_
  repeat' first
    | refine thenQ_ret ?_
    | refine inBlockQ_ret ?_
  refine fin2Z (And.intro q3 (And.intro q5 (And.intro q4 q6))) ?_ ?_
  · exact leV_refl
  · exact leV_refl
end Go.Vm.C19
