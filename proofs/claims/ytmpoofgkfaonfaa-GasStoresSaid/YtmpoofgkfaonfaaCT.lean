/- What some functions of the program compute, walked through once. -/
import Derived.Test.YtmpoofgkfaonfaaCS
import Derived.Test.YtmpoofgkfaonfaaCQ0
import Derived.Test.YtmpoofgkfaonfaaCP
namespace Go.Vm.C19
open Go Go.Proofs
set_option linter.unusedVariables false
set_option linter.unusedSimpArgs false
set_option maxRecDepth 100000
set_option maxHeartbeats 8000000

noncomputable def bitS : FSpec := { run := fun ins => match ins with
  | [.agg 4 (.u 64 a), .i n] => chk (0 ≤ n ∧ n < 256) (some (.u 64 ((a.getD (n.toNat / 64) 0 >>> (n.toNat % 64)) &&& 1#64), []))
  | _ => none }
theorem bit_sound : SoundFn Try.prog glB 81 bitS.run := by
  have G := good_of (P := Try.prog) glB_ro (l := []) (by simp)
  refine soundFn_of_W G Try.func81 (by decide) rfl (by decide) ?_
  intro ins ret outs h
  unfold bitS at h
  dsimp only at h
  split at h
  rotate_left
  · cases h
  rename_i a n
  obtain ⟨hn, h'⟩ := chk_some h
  clear h
  cases h'
  obtain ⟨k, rfl⟩ := Int.eq_ofNat_of_zero_le hn.1
  have hk : k < 256 := by omega
  refine ⟨by show 2 ≤ 14; decide, fun w0 ext av => ?_⟩
  rw [Try.ntmps81, st0_eq]
  have e1 : ((k : Int) / 64) = ((k / 64 : Nat) : Int) := by omega
  have e2 : ((k : Int) % 64) = ((k % 64 : Nat) : Int) := by omega
  have e3 : (BitVec.ofInt 64 ((k % 64 : Nat) : Int)).toNat = k % 64 := by rw [BitVec.toNat_ofInt]; omega
  repeat' first
    | refine W.seq ?_ | (refine W.regS G ?_; dsimp only) | refine SW.nil ?_ | refine thenQ_normal ?_ | refine W.skip ?_ | refine W.exit ?_ | refine thenQ_exit ?_ | refine inBlockQ_exit ?_ | refine inBlockQ_normal ?_ | refine W.block ?_
    | (apply SW.toC; refine SWcall.go (And.intro e1 (And.intro e2 e3)) ?_) | (apply SW.toOp; refine SWop.go (And.intro e1 (And.intro e2 e3)) ?_) | (apply SW.toCG; first | refine SWcall.yes (And.intro e1 (And.intro e2 e3)) ?_ | refine SWcall.no (And.intro e1 (And.intro e2 e3)) ?_) | (apply SW.toG; first | refine SWop.yes (And.intro e1 (And.intro e2 e3)) ?_ | refine SWop.no (And.intro e1 (And.intro e2 e3)) ?_)
  refine W.ret ?_
  repeat' first
    | refine thenQ_ret ?_
    | refine inBlockQ_ret ?_
  refine fin1Z (And.intro e1 (And.intro e2 e3)) ?_
  exact leV_refl
noncomputable def rExpS : FSpec := { run := fun ins => match ins with
  | [.agg 4 (.u 64 a), .agg 4 (.u 64 b)] => some (.agg 4 (.u 64 (wOf (wv a ^ wv b))), [])
  | _ => none }
noncomputable def powersS : FSpec := { run := fun ins => match ins with
  | [.agg 4 (.u 64 a), .agg 4 (.u 64 b), .agg 4 (.u 64 c)] => chk (a.length = 4 ∧ b.length = 4 ∧ c.length = 4) (some (.b true, []))
  | _ => none }
theorem cmpI_lt (x y : Nat) : decide (cmpI x y < 0) = decide (x < y) := decide_eq_decide.2 (by unfold cmpI; split <;> (try split) <;> omega)
end Go.Vm.C19
