/- What some functions of the program compute, walked through once. -/
import Derived.Test.YtioffpklmlmhcaaDoorCE
namespace Go.Vm.C03
open Go Go.Proofs
set_option linter.unusedVariables false
set_option linter.unusedSimpArgs false
set_option maxRecDepth 100000
set_option maxHeartbeats 8000000

theorem permF_len (s : List (BitVec 64)) : (permF s).length = s.length := perm_to_len s 24
noncomputable def permuteS : FSpec := { run := fun ins => match ins with
  | [.agg 25 (.u 64 s)] => chk (s.length = 25) (some (.agg 25 (.u 64 (permF s)), []))
  | _ => none }
theorem permute_sound : SoundFn Tryd.prog glB 12 permuteS.run := by
  have G := good_of (P := Tryd.prog) glB_ro (l := [(16, permS)]) (by simp only [List.forall_mem_cons]; exact ⟨perm_sound, by simp⟩)
  refine soundFn_of_W G Tryd.func12 (by decide) rfl (by decide) ?_
  intro ins ret outs h
  unfold permuteS at h
  dsimp only at h
  split at h
  rotate_left
  · cases h
  rename_i s
  obtain ⟨hl, h'⟩ := chk_some h
  clear h
  cases h'
  refine ⟨by show 1 ≤ 5; decide, fun w0 ext av => ?_⟩
  rw [Tryd.ntmps12, st0_eq]
  repeat' first
    | refine W.seq ?_ | (refine W.regS G ?_; dsimp only) | refine SW.nil ?_ | refine thenQ_normal ?_ | refine W.skip ?_ | refine W.exit ?_ | refine thenQ_exit ?_ | refine inBlockQ_exit ?_ | refine inBlockQ_normal ?_ | refine W.block ?_
    | (apply SW.toC; refine SWcall.go (And.intro permS.eq_1 hl) ?_) | (apply SW.toOp; refine SWop.go (And.intro permS.eq_1 hl) ?_) | (apply SW.toCG; first | refine SWcall.yes (And.intro permS.eq_1 hl) ?_ | refine SWcall.no (And.intro permS.eq_1 hl) ?_) | (apply SW.toG; first | refine SWop.yes (And.intro permS.eq_1 hl) ?_ | refine SWop.no (And.intro permS.eq_1 hl) ?_)
  refine W.ret ?_
  repeat' first
    | refine thenQ_ret ?_
    | refine inBlockQ_ret ?_
  refine fin1Z (And.intro permS.eq_1 hl) ?_
  exact leV_refl

/-! ### the sponge -/
def putF (s : List (BitVec 64)) (at' : Nat) (x : BitVec 8) : List (BitVec 64) := s.set (at' / 8) (s.getD (at' / 8) 0 ^^^ BitVec.setWidth 64 x <<< (8 * (at' % 8)))
noncomputable def putS : FSpec := { run := fun ins => match ins with
  | [.ref 0 0 (.st [.agg 25 (.u 64 s), .i n]), .i m, .u 8 x] => chk (0 ≤ m ∧ m < 200) (some (.tup [], [.st [.agg 25 (.u 64 (putF s m.toNat x)), .i n]]))
  | _ => none }
theorem put_sound : SoundFn Tryd.prog glB 19 putS.run := by
  have G := good_of (P := Tryd.prog) glB_ro (l := []) (by simp)
  refine soundFn_of_W G Tryd.func19 (by decide) rfl (by decide) ?_
  intro ins ret outs h
  unfold putS at h
  dsimp only at h
  split at h
  rotate_left
  · cases h
  rename_i s n m x
  obtain ⟨hm, h'⟩ := chk_some h
  clear h
  obtain ⟨k, rfl⟩ : ∃ k : Nat, m = k := ⟨m.toNat, by omega⟩
  cases h'
  simp only [Int.toNat_natCast]
  refine ⟨by show 3 ≤ 23; decide, fun w0 ext av => ?_⟩
  rw [Tryd.ntmps19, st0_eq]
  have e1 : ((k : Int) / 8) = ((k / 8 : Nat) : Int) := by omega
  have e2 : ((k : Int) % 8) = ((k % 8 : Nat) : Int) := by omega
  have e3 : (8 * ((k % 8 : Nat) : Int)) = ((8 * (k % 8) : Nat) : Int) := by omega
  repeat' first
    | refine W.seq ?_ | (refine W.regS G ?_; dsimp only) | refine SW.nil ?_ | refine thenQ_normal ?_ | refine W.skip ?_ | refine W.exit ?_ | refine thenQ_exit ?_ | refine inBlockQ_exit ?_ | refine inBlockQ_normal ?_ | refine W.block ?_
    | (apply SW.toC; refine SWcall.go (And.intro e1 (And.intro e2 e3)) ?_) | (apply SW.toOp; refine SWop.go (And.intro e1 (And.intro e2 e3)) ?_) | (apply SW.toCG; first | refine SWcall.yes (And.intro e1 (And.intro e2 e3)) ?_ | refine SWcall.no (And.intro e1 (And.intro e2 e3)) ?_) | (apply SW.toG; first | refine SWop.yes (And.intro e1 (And.intro e2 e3)) ?_ | refine SWop.no (And.intro e1 (And.intro e2 e3)) ?_)
  refine W.drawS G [[], [], [1], [0], [3, 0], [4, 3, 0, 2, 1], [5, 4, 3, 0, 2, 1], [], [7], [], [9], [10, 9], [8, 7, 11, 10, 9], [6, 5, 4, 3, 0, 2, 1, 12, 8, 7, 11, 10, 9], [0], [14, 0], [15, 14, 0, 2, 1, 3, 4, 5, 6, 7, 8, 9, 10, 11, 12, 13], [16, 15, 14, 0, 2, 1, 3, 4, 5, 6, 7, 8, 9, 10, 11, 12, 13]] hmix ?_
  dsimp only
  repeat' first
    | (apply DW.nil; (focus (decide +kernel)))
    | (apply DW.toC; refine DWcall.go (And.intro e1 (And.intro e2 e3)) ?_) | (apply DW.toOp; refine DWop.go (And.intro e1 (And.intro e2 e3)) ?_) | (apply DW.toCG; first | refine DWcall.yes (And.intro e1 (And.intro e2 e3)) ?_ | refine DWcall.no (And.intro e1 (And.intro e2 e3)) ?_) | (apply DW.toG; first | refine DWop.yes (And.intro e1 (And.intro e2 e3)) ?_ | refine DWop.no (And.intro e1 (And.intro e2 e3)) ?_)
  exact fin0Z (And.intro e1 (And.intro e2 e3))
end Go.Vm.C03
