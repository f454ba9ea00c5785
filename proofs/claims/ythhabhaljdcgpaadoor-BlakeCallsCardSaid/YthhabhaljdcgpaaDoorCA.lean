/- What some functions of the program compute, walked through once. -/
import Derived.Test.YthhabhaljdcgpaaDoorVc
import Derived.Test.YthhabhaljdcgpaaDoorProg
import Derived.Test.YthhabhaljdcgpaaDoorCTy
namespace Go.Vm.C06
open Go Go.Proofs
set_option linter.unusedVariables false
set_option linter.unusedSimpArgs false
set_option maxRecDepth 100000
set_option maxHeartbeats 8000000

def rotF (x : BitVec 64) (k : Int) : BitVec 64 := (x <<< ((BitVec.ofInt 64 k &&& 63#64).toNat)) ||| (x >>> ((64#64 - (BitVec.ofInt 64 k &&& 63#64)).toNat))
def downF (x : BitVec 64) (n : Int) : BitVec 64 := x >>> (BitVec.ofInt 64 n).toNat ||| x <<< (BitVec.ofInt 64 (64 - n)).toNat

noncomputable def rotS : FSpec := { run := fun ins => match ins with
  | [.u 64 x, .i k] => some (.u 64 (rotF x k), [])
  | _ => none }
noncomputable def downS : FSpec := { run := fun ins => match ins with
  | [.u 64 x, .i k] => chk (0 ≤ k ∧ k ≤ 64) (some (.u 64 (rotF x (-k)), []))
  | _ => none }
noncomputable def downRS : FSpec := { run := fun ins => match ins with
  | [.u 64 x, .i k] => chk (0 ≤ k ∧ k ≤ 64) (some (.u 64 (downF x k), []))
  | _ => none }

variable {gl : Nat → Option Row}

theorem rot_sound (hro : ∀ g r, gl g = some r → r.ro = r) : SoundFn Tryd.prog gl 23 rotS.run := by
  have G := good_of (P := Tryd.prog) hro (l := []) (by simp)
  refine soundFn_of_W G Tryd.func23 (by decide) rfl (by decide) ?_
  intro ins ret outs h
  unfold rotS at h
  dsimp only at h
  split at h
  rotate_left
  · cases h
  rename_i x k
  cases h
  refine ⟨by show 2 ≤ 17; decide, fun w0 ext av => ?_⟩
  rw [Tryd.ntmps23, st0_eq]
  repeat' first
    | refine W.seq ?_ | (refine W.regS G ?_; dsimp only) | refine SW.nil ?_ | refine thenQ_normal ?_ | refine W.skip ?_ | refine W.exit ?_ | refine thenQ_exit ?_ | refine inBlockQ_exit ?_ | refine inBlockQ_normal ?_ | refine W.block ?_
    | (apply SW.toC; refine SWcall.go True.intro ?_) | (apply SW.toOp; refine SWop.go True.intro ?_) | (apply SW.toCG; first | refine SWcall.yes True.intro ?_ | refine SWcall.no True.intro ?_) | (apply SW.toG; first | refine SWop.yes True.intro ?_ | refine SWop.no True.intro ?_)
  refine W.ret ?_
  repeat' first
    | refine thenQ_ret ?_
    | refine inBlockQ_ret ?_
  refine fin1Z True.intro ?_
  exact leV_refl

theorem down_sound (hro : ∀ g r, gl g = some r → r.ro = r) : SoundFn Tryd.prog gl 22 downS.run := by
  have G := good_of (P := Tryd.prog) hro (l := [(23, rotS)]) (by simp only [List.forall_mem_cons]; exact ⟨rot_sound hro, by simp⟩)
  refine soundFn_of_W G Tryd.func22 (by decide) rfl (by decide) ?_
  intro ins ret outs h
  unfold downS at h
  dsimp only at h
  split at h
  rotate_left
  · cases h
  rename_i x k
  obtain ⟨hk, h⟩ := chk_some h
  cases h
  refine ⟨by show 2 ≤ 9; decide, fun w0 ext av => ?_⟩
  rw [Tryd.ntmps22, st0_eq]
  repeat' first
    | refine W.seq ?_ | (refine W.regS G ?_; dsimp only) | refine SW.nil ?_ | refine thenQ_normal ?_ | refine W.skip ?_ | refine W.exit ?_ | refine thenQ_exit ?_ | refine inBlockQ_exit ?_ | refine inBlockQ_normal ?_ | refine W.block ?_
    | (apply SW.toC; refine SWcall.go True.intro ?_) | (apply SW.toOp; refine SWop.go True.intro ?_) | (apply SW.toCG; first | refine SWcall.yes True.intro ?_ | refine SWcall.no True.intro ?_) | (apply SW.toG; first | refine SWop.yes True.intro ?_ | refine SWop.no True.intro ?_)
  refine W.ret ?_
  repeat' first
    | refine thenQ_ret ?_
    | refine inBlockQ_ret ?_
  refine fin1Z True.intro ?_
  exact leV_refl

theorem downR_sound (hro : ∀ g r, gl g = some r → r.ro = r) : SoundFn Tryd.prog gl 21 downRS.run := by
  have G := good_of (P := Tryd.prog) hro (l := []) (by simp)
  refine soundFn_of_W G Tryd.func21 (by decide) rfl (by decide) ?_
  intro ins ret outs h
  unfold downRS at h
  dsimp only at h
  split at h
  rotate_left
  · cases h
  rename_i x k
  obtain ⟨hk, h⟩ := chk_some h
  cases h
  refine ⟨by show 2 ≤ 15; decide, fun w0 ext av => ?_⟩
  rw [Tryd.ntmps21, st0_eq]
  repeat' first
    | refine W.seq ?_ | (refine W.regS G ?_; dsimp only) | refine SW.nil ?_ | refine thenQ_normal ?_ | refine W.skip ?_ | refine W.exit ?_ | refine thenQ_exit ?_ | refine inBlockQ_exit ?_ | refine inBlockQ_normal ?_ | refine W.block ?_
    | (apply SW.toC; refine SWcall.go True.intro ?_) | (apply SW.toOp; refine SWop.go True.intro ?_) | (apply SW.toCG; first | refine SWcall.yes True.intro ?_ | refine SWcall.no True.intro ?_) | (apply SW.toG; first | refine SWop.yes True.intro ?_ | refine SWop.no True.intro ?_)
  refine W.ret ?_
  repeat' first
    | refine thenQ_ret ?_
    | refine inBlockQ_ret ?_
  refine fin1Z True.intro ?_
  exact leV_refl

end Go.Vm.C06
