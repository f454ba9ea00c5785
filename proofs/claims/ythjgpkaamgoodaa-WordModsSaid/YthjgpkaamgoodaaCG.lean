/- What some functions of the program compute, walked through once. -/
import Derived.Test.YthjgpkaamgoodaaCF
namespace Go.Vm.C01
open Go Go.Proofs
set_option linter.unusedVariables false
set_option linter.unusedSimpArgs false
set_option maxRecDepth 100000
set_option maxHeartbeats 8000000

/-! ### quotients of small words -/
noncomputable def smallS : FSpec := { run := fun ins => match ins with
  | [.agg 4 (.u 64 a)] => some (if a.getD 1 0 ||| a.getD 2 0 ||| a.getD 3 0 = 0 then .tup [.u 64 (a.getD 0 0), .b true] else .tup [.u 64 0, .b false], [])
  | _ => none }
theorem small_sound : SoundFn Try.prog glB 47 smallS.run := by
  have G := good_of (P := Try.prog) glB_ro (l := []) (by simp)
  refine soundFn_of_W G Try.func47 (by decide) rfl (by decide) ?_
  intro ins ret outs h
  unfold smallS at h
  dsimp only at h
  split at h
  rotate_left
  · cases h
  rename_i a
  cases h
  refine ⟨by show 1 ≤ 15; decide, fun w0 ext av => ?_⟩
  rw [Try.ntmps47, st0_eq]
  repeat' first
    | refine W.seq ?_ | (refine W.regS G ?_; dsimp only) | refine SW.nil ?_ | refine thenQ_normal ?_ | refine W.skip ?_ | refine W.exit ?_ | refine thenQ_exit ?_ | refine inBlockQ_exit ?_ | refine inBlockQ_normal ?_ | refine W.block ?_
    | (apply SW.toC; refine SWcall.go True.intro ?_) | (apply SW.toOp; refine SWop.go True.intro ?_) | (apply SW.toCG; first | refine SWcall.yes True.intro ?_ | refine SWcall.no True.intro ?_) | (apply SW.toG; first | refine SWop.yes True.intro ?_ | refine SWop.no True.intro ?_)
  refine W.condZ G True.intro ?_ ?_
  all_goals intro hc
  · have hne : ¬ a.getD 1 0 ||| a.getD 2 0 ||| a.getD 3 0 = 0 := ne_of_nd hc
    rw [if_neg hne]
    repeat' first
      | refine W.seq ?_ | (refine W.regS G ?_; dsimp only) | refine SW.nil ?_ | refine thenQ_normal ?_ | refine W.skip ?_ | refine W.exit ?_ | refine thenQ_exit ?_ | refine inBlockQ_exit ?_ | refine inBlockQ_normal ?_ | refine W.block ?_
      | (apply SW.toC; refine SWcall.go True.intro ?_) | (apply SW.toOp; refine SWop.go True.intro ?_) | (apply SW.toCG; first | refine SWcall.yes True.intro ?_ | refine SWcall.no True.intro ?_) | (apply SW.toG; first | refine SWop.yes True.intro ?_ | refine SWop.no True.intro ?_)
    refine W.ret ?_
    repeat' first
      | refine thenQ_ret ?_
      | refine inBlockQ_ret ?_
    refine fin2Z True.intro ?_ ?_
    · exact leV_refl
    · exact leV_refl
  have he : a.getD 1 0 ||| a.getD 2 0 ||| a.getD 3 0 = 0 := eq_of_nd hc
  rw [if_pos he]
  repeat' first
    | refine W.seq ?_ | (refine W.regS G ?_; dsimp only) | refine SW.nil ?_ | refine thenQ_normal ?_ | refine W.skip ?_ | refine W.exit ?_ | refine thenQ_exit ?_ | refine inBlockQ_exit ?_ | refine inBlockQ_normal ?_ | refine W.block ?_
    | (apply SW.toC; refine SWcall.go True.intro ?_) | (apply SW.toOp; refine SWop.go True.intro ?_) | (apply SW.toCG; first | refine SWcall.yes True.intro ?_ | refine SWcall.no True.intro ?_) | (apply SW.toG; first | refine SWop.yes True.intro ?_ | refine SWop.no True.intro ?_)
  refine W.ret ?_
  repeat' first
    | refine thenQ_ret ?_
    | refine inBlockQ_ret ?_
  refine fin2Z True.intro ?_ ?_
  · exact leV_refl
  · exact leV_refl
noncomputable def div64zS : FSpec := { run := fun ins => match ins with
  | [.u 64 h, .u 64 x, .u 64 y] => chk (h = 0 ∧ y ≠ 0) (some (.tup [.u 64 (x / y), .u 64 (x % y)], []))
  | _ => none }
theorem div64Z_sound : SoundFn Try.prog glB 93 div64zS.run := by
  have G := good_of (P := Try.prog) glB_ro (l := []) (by simp)
  refine soundFn_of_W G Try.func93 (by decide) rfl (by decide) ?_
  intro ins ret outs h
  unfold div64zS at h
  dsimp only at h
  split at h
  rotate_left
  · cases h
  rename_i hh x y
  obtain ⟨hl, h'⟩ := chk_some h
  clear h
  cases h'
  obtain ⟨rfl, hy⟩ := hl
  refine ⟨by show 3 ≤ 135; decide, fun w0 ext av => ?_⟩
  rw [Try.ntmps93, st0_eq]
  repeat' first
    | refine W.seq ?_ | (refine W.regS G ?_; dsimp only) | refine SW.nil ?_ | refine thenQ_normal ?_ | refine W.skip ?_ | refine W.exit ?_ | refine thenQ_exit ?_ | refine inBlockQ_exit ?_ | refine inBlockQ_normal ?_ | refine W.block ?_
    | (apply SW.toC; refine SWcall.go True.intro ?_) | (apply SW.toOp; refine SWop.go True.intro ?_) | (apply SW.toCG; first | refine SWcall.yes True.intro ?_ | refine SWcall.no True.intro ?_) | (apply SW.toG; first | refine SWop.yes True.intro ?_ | refine SWop.no True.intro ?_)
  refine W.condZ G True.intro ?_ ?_
  all_goals intro h1
  · exact absurd (yes_of h1) hy
  repeat' first
    | refine W.seq ?_ | (refine W.regS G ?_; dsimp only) | refine SW.nil ?_ | refine thenQ_normal ?_ | refine W.skip ?_ | refine W.exit ?_ | refine thenQ_exit ?_ | refine inBlockQ_exit ?_ | refine inBlockQ_normal ?_ | refine W.block ?_
    | (apply SW.toC; refine SWcall.go True.intro ?_) | (apply SW.toOp; refine SWop.go True.intro ?_) | (apply SW.toCG; first | refine SWcall.yes True.intro ?_ | refine SWcall.no True.intro ?_) | (apply SW.toG; first | refine SWop.yes True.intro ?_ | refine SWop.no True.intro ?_)
  refine W.condZ G True.intro ?_ ?_
  all_goals intro h2
  · refine absurd (yes_of h2) fun (c : y.toNat ≤ (0 : BitVec 64).toNat) => hy (BitVec.eq_of_toNat_eq (by simpa using c))
  repeat' first
    | refine W.seq ?_ | (refine W.regS G ?_; dsimp only) | refine SW.nil ?_ | refine thenQ_normal ?_ | refine W.skip ?_ | refine W.exit ?_ | refine thenQ_exit ?_ | refine inBlockQ_exit ?_ | refine inBlockQ_normal ?_ | refine W.block ?_
    | (apply SW.toC; refine SWcall.go True.intro ?_) | (apply SW.toOp; refine SWop.go True.intro ?_) | (apply SW.toCG; first | refine SWcall.yes True.intro ?_ | refine SWcall.no True.intro ?_) | (apply SW.toG; first | refine SWop.yes True.intro ?_ | refine SWop.no True.intro ?_)
  refine W.condZ G True.intro ?_ ?_
  all_goals intro h3
  · repeat' first
      | refine W.seq ?_ | (refine W.regS G ?_; dsimp only) | refine SW.nil ?_ | refine thenQ_normal ?_ | refine W.skip ?_ | refine W.exit ?_ | refine thenQ_exit ?_ | refine inBlockQ_exit ?_ | refine inBlockQ_normal ?_
      | (apply SW.toC; refine SWcall.go True.intro ?_) | (apply SW.toOp; refine SWop.go True.intro ?_) | (apply SW.toCG; first | refine SWcall.yes True.intro ?_ | refine SWcall.no True.intro ?_) | (apply SW.toG; first | refine SWop.yes True.intro ?_ | refine SWop.no True.intro ?_)
    refine W.drawS G [[], [], [0, 1], [], [], [3, 4], [2, 0, 1], [5, 3, 4, 6, 2, 0, 1]] hmix ?_
    dsimp only
    repeat' first
      | (apply DW.nil; (focus (decide +kernel)))
      | (apply DW.toC; refine DWcall.go hy ?_) | (apply DW.toOp; refine DWop.go hy ?_) | (apply DW.toCG; first | refine DWcall.yes hy ?_ | refine DWcall.no hy ?_) | (apply DW.toG; first | refine DWop.yes hy ?_ | refine DWop.no hy ?_)
    repeat' first
      | refine W.seq ?_ | (refine W.regS G ?_; dsimp only) | refine SW.nil ?_ | refine thenQ_normal ?_ | refine W.skip ?_ | refine W.exit ?_ | refine thenQ_exit ?_ | refine inBlockQ_exit ?_ | refine inBlockQ_normal ?_ | refine W.block ?_
      | (apply SW.toC; refine SWcall.go True.intro ?_) | (apply SW.toOp; refine SWop.go True.intro ?_) | (apply SW.toCG; first | refine SWcall.yes True.intro ?_ | refine SWcall.no True.intro ?_) | (apply SW.toG; first | refine SWop.yes True.intro ?_ | refine SWop.no True.intro ?_)
    refine W.ret ?_
    repeat' first
      | refine thenQ_ret ?_
      | refine inBlockQ_ret ?_
    refine fin2Z True.intro ?_ ?_
    · exact leV_refl
    · exact leV_refl
  exact absurd h3 (by decide)
end Go.Vm.C01
