/- What some functions of the program compute, walked through once. -/
import Derived.Test.YtioffpklmlmhcaaDoorCK
import Derived.Test.YtioffpklmlmhcaaDoorCM
namespace Go.Vm.C03
open Go Go.Proofs
set_option linter.unusedVariables false
set_option linter.unusedSimpArgs false
set_option maxRecDepth 100000
set_option maxHeartbeats 8000000

noncomputable def permutesS : FSpec := { run := fun ins => match ins with
  | [.agg 25 (.u 64 s), .u 8 a, .u 64 y] => chk (s.length = 25) (some (.b true, []))
  | _ => none }
theorem same_iff (s : List (BitVec 64)) (k : Nat) (y : BitVec 64) (hs : s.length = 25) (hk : k < 25) : permF (s.set k (s.getD k 0 ^^^ y)) = permF s ↔ y = 0#64 := by
  constructor
  · intro h
    have e := perm_inj _ _ (by rw [List.length_set, hs]) hs h
    have e2 : (s.set k (s.getD k 0 ^^^ y)).getD k 0 = s.getD k 0 := by rw [e]
    rw [getD_set_self _ _ _ _ (by omega)] at e2
    have e3 : s.getD k 0 ^^^ (s.getD k 0 ^^^ y) = s.getD k 0 ^^^ s.getD k 0 := congrArg (fun x => s.getD k 0 ^^^ x) e2
    rw [← BitVec.xor_assoc, BitVec.xor_self, BitVec.zero_xor] at e3
    exact e3
  · rintro rfl
    rw [BitVec.xor_zero, set_getD_self]
theorem permutes_sound : SoundFn Tryd.prog glB 4 permutesS.run := by
  have G := good_of (P := Tryd.prog) glB_ro (l := [(12, permuteS), (13, refPermS), (11, liveS)]) (by simp only [List.forall_mem_cons]; exact ⟨permute_sound, refPerm_sound glB_ro, lives_sound, by simp⟩)
  refine soundFn_of_W G Tryd.func4 (by decide) rfl (by decide) ?_
  intro ins ret outs h
  unfold permutesS at h
  dsimp only at h
  split at h
  rotate_left
  · cases h
  rename_i s a y
  obtain ⟨hs, h'⟩ := chk_some h
  clear h
  cases h'
  refine ⟨by show 3 ≤ 37; decide, fun w0 ext av => ?_⟩
  rw [Tryd.ntmps4, st0_eq]
  obtain ⟨k, hk⟩ : ∃ k : Nat, ((a.toNat : Int) % 25) = (k : Int) := ⟨a.toNat % 25, by omega⟩
  have hk2 : k < 25 := by omega
  have hh := same_iff s k y hs hk2
  have ep := perm_eq s hs
  have lt : (s.set k (s.getD k 0 ^^^ y)).length = 25 := by rw [List.length_set, hs]
  repeat' first
    | refine W.seq ?_ | (refine W.regS G ?_; dsimp only) | refine SW.nil ?_ | refine thenQ_normal ?_ | refine W.skip ?_ | refine W.exit ?_ | refine thenQ_exit ?_ | refine inBlockQ_exit ?_ | refine inBlockQ_normal ?_ | refine W.block ?_
    | (apply SW.toC; refine SWcall.go (And.intro permuteS.eq_1 (And.intro refPermS.eq_1 (And.intro hs ep))) ?_) | (apply SW.toOp; refine SWop.go (And.intro permuteS.eq_1 (And.intro refPermS.eq_1 (And.intro hs ep))) ?_) | (apply SW.toCG; first | refine SWcall.yes (And.intro permuteS.eq_1 (And.intro refPermS.eq_1 (And.intro hs ep))) ?_ | refine SWcall.no (And.intro permuteS.eq_1 (And.intro refPermS.eq_1 (And.intro hs ep))) ?_) | (apply SW.toG; first | refine SWop.yes (And.intro permuteS.eq_1 (And.intro refPermS.eq_1 (And.intro hs ep))) ?_ | refine SWop.no (And.intro permuteS.eq_1 (And.intro refPermS.eq_1 (And.intro hs ep))) ?_)
  refine W.drawS G [[], [], [1], [0, 2, 1]] hmix ?_
  dsimp only
  repeat' first
    | (apply DW.nil; (focus (decide +kernel)))
    | (apply DW.toC; refine DWcall.go (And.intro permuteS.eq_1 (And.intro refPermS.eq_1 (And.intro hs ep))) ?_) | (apply DW.toOp; refine DWop.go (And.intro permuteS.eq_1 (And.intro refPermS.eq_1 (And.intro hs ep))) ?_) | (apply DW.toCG; first | refine DWcall.yes (And.intro permuteS.eq_1 (And.intro refPermS.eq_1 (And.intro hs ep))) ?_ | refine DWcall.no (And.intro permuteS.eq_1 (And.intro refPermS.eq_1 (And.intro hs ep))) ?_) | (apply DW.toG; first | refine DWop.yes (And.intro permuteS.eq_1 (And.intro refPermS.eq_1 (And.intro hs ep))) ?_ | refine DWop.no (And.intro permuteS.eq_1 (And.intro refPermS.eq_1 (And.intro hs ep))) ?_)
  repeat' first
    | refine W.seq ?_ | (refine W.regS G ?_; dsimp only) | refine SW.nil ?_ | refine thenQ_normal ?_ | refine W.skip ?_ | refine W.exit ?_ | refine thenQ_exit ?_ | refine inBlockQ_exit ?_ | refine inBlockQ_normal ?_ | refine W.block ?_
    | (apply SW.toC; refine SWcall.go (And.intro permuteS.eq_1 (And.intro refPermS.eq_1 (And.intro hs ep))) ?_) | (apply SW.toOp; refine SWop.go (And.intro permuteS.eq_1 (And.intro refPermS.eq_1 (And.intro hs ep))) ?_) | (apply SW.toCG; first | refine SWcall.yes (And.intro permuteS.eq_1 (And.intro refPermS.eq_1 (And.intro hs ep))) ?_ | refine SWcall.no (And.intro permuteS.eq_1 (And.intro refPermS.eq_1 (And.intro hs ep))) ?_) | (apply SW.toG; first | refine SWop.yes (And.intro permuteS.eq_1 (And.intro refPermS.eq_1 (And.intro hs ep))) ?_ | refine SWop.no (And.intro permuteS.eq_1 (And.intro refPermS.eq_1 (And.intro hs ep))) ?_)
  refine W.condZ G (And.intro permuteS.eq_1 (And.intro refPermS.eq_1 (And.intro hs ep))) ?_ ?_
  all_goals intro hc
  · simp at hc
  repeat' first
    | refine W.seq ?_ | (refine W.regS G ?_; dsimp only) | refine SW.nil ?_ | refine thenQ_normal ?_ | refine W.skip ?_ | refine W.exit ?_ | refine thenQ_exit ?_ | refine inBlockQ_exit ?_ | refine inBlockQ_normal ?_ | refine W.block ?_
    | (apply SW.toC; refine SWcall.go (And.intro permuteS.eq_1 (And.intro hs hk)) ?_) | (apply SW.toOp; refine SWop.go (And.intro permuteS.eq_1 (And.intro hs hk)) ?_) | (apply SW.toCG; first | refine SWcall.yes (And.intro permuteS.eq_1 (And.intro hs hk)) ?_ | refine SWcall.no (And.intro permuteS.eq_1 (And.intro hs hk)) ?_) | (apply SW.toG; first | refine SWop.yes (And.intro permuteS.eq_1 (And.intro hs hk)) ?_ | refine SWop.no (And.intro permuteS.eq_1 (And.intro hs hk)) ?_)
  generalize hT : s.set k (s.getD k 0 ^^^ y) = T at hh lt
  generalize permF s = p at hh
  generalize hq : permF T = q at hh
  by_cases hy : y = 0#64
  · have h1 : (y = 0#64) = True := eq_true hy
    have h2 : (q = p) = True := eq_true (hh.2 hy)
    refine W.drawS G [[], [0], [], [1, 0, 2], [], [4], [3, 1, 0, 2, 5, 4], [6, 3, 1, 0, 2, 5, 4], [7, 6, 3, 1, 0, 2, 5, 4], [7, 6, 3, 1, 0, 2, 5, 4, 8], [9, 7, 6, 3, 1, 0, 2, 5, 4, 8]] hmix ?_
    dsimp only
    repeat' first
      | (apply DW.nil; (focus (decide +kernel)))
      | (apply DW.toC; refine DWcall.go (And.intro permuteS.eq_1 (And.intro hs (And.intro hk (And.intro lt (And.intro hT (And.intro hq (And.intro h1 (And.intro h2 liveS.eq_1)))))))) ?_) | (apply DW.toOp; refine DWop.go (And.intro permuteS.eq_1 (And.intro hs (And.intro hk (And.intro lt (And.intro hT (And.intro hq (And.intro h1 (And.intro h2 liveS.eq_1)))))))) ?_) | (apply DW.toCG; first | refine DWcall.yes (And.intro permuteS.eq_1 (And.intro hs (And.intro hk (And.intro lt (And.intro hT (And.intro hq (And.intro h1 (And.intro h2 liveS.eq_1)))))))) ?_ | refine DWcall.no (And.intro permuteS.eq_1 (And.intro hs (And.intro hk (And.intro lt (And.intro hT (And.intro hq (And.intro h1 (And.intro h2 liveS.eq_1)))))))) ?_) | (apply DW.toG; first | refine DWop.yes (And.intro permuteS.eq_1 (And.intro hs (And.intro hk (And.intro lt (And.intro hT (And.intro hq (And.intro h1 (And.intro h2 liveS.eq_1)))))))) ?_ | refine DWop.no (And.intro permuteS.eq_1 (And.intro hs (And.intro hk (And.intro lt (And.intro hT (And.intro hq (And.intro h1 (And.intro h2 liveS.eq_1)))))))) ?_)
    repeat' first
      | refine W.seq ?_ | (refine W.regS G ?_; dsimp only) | refine SW.nil ?_ | refine thenQ_normal ?_ | refine W.skip ?_ | refine W.exit ?_ | refine thenQ_exit ?_ | refine inBlockQ_exit ?_ | refine inBlockQ_normal ?_ | refine W.block ?_
      | (apply SW.toC; refine SWcall.go (And.intro permuteS.eq_1 (And.intro hs hk)) ?_) | (apply SW.toOp; refine SWop.go (And.intro permuteS.eq_1 (And.intro hs hk)) ?_) | (apply SW.toCG; first | refine SWcall.yes (And.intro permuteS.eq_1 (And.intro hs hk)) ?_ | refine SWcall.no (And.intro permuteS.eq_1 (And.intro hs hk)) ?_) | (apply SW.toG; first | refine SWop.yes (And.intro permuteS.eq_1 (And.intro hs hk)) ?_ | refine SWop.no (And.intro permuteS.eq_1 (And.intro hs hk)) ?_)
    refine W.ret ?_
    repeat' first
      | refine thenQ_ret ?_
      | refine inBlockQ_ret ?_
    refine fin1Z (And.intro permuteS.eq_1 (And.intro hs hk)) ?_
    exact leV_refl
  · have h1 : (y = 0#64) = False := eq_false hy
    have h2 : (q = p) = False := eq_false (fun e => hy (hh.1 e))
    refine W.drawS G [[], [0], [], [1, 0, 2], [], [4], [3, 1, 0, 2, 5, 4], [6, 3, 1, 0, 2, 5, 4], [7, 6, 3, 1, 0, 2, 5, 4], [7, 6, 3, 1, 0, 2, 5, 4, 8], [9, 7, 6, 3, 1, 0, 2, 5, 4, 8]] hmix ?_
    dsimp only
    repeat' first
      | (apply DW.nil; (focus (decide +kernel)))
      | (apply DW.toC; refine DWcall.go (And.intro permuteS.eq_1 (And.intro hs (And.intro hk (And.intro lt (And.intro hT (And.intro hq (And.intro h1 (And.intro h2 liveS.eq_1)))))))) ?_) | (apply DW.toOp; refine DWop.go (And.intro permuteS.eq_1 (And.intro hs (And.intro hk (And.intro lt (And.intro hT (And.intro hq (And.intro h1 (And.intro h2 liveS.eq_1)))))))) ?_) | (apply DW.toCG; first | refine DWcall.yes (And.intro permuteS.eq_1 (And.intro hs (And.intro hk (And.intro lt (And.intro hT (And.intro hq (And.intro h1 (And.intro h2 liveS.eq_1)))))))) ?_ | refine DWcall.no (And.intro permuteS.eq_1 (And.intro hs (And.intro hk (And.intro lt (And.intro hT (And.intro hq (And.intro h1 (And.intro h2 liveS.eq_1)))))))) ?_) | (apply DW.toG; first | refine DWop.yes (And.intro permuteS.eq_1 (And.intro hs (And.intro hk (And.intro lt (And.intro hT (And.intro hq (And.intro h1 (And.intro h2 liveS.eq_1)))))))) ?_ | refine DWop.no (And.intro permuteS.eq_1 (And.intro hs (And.intro hk (And.intro lt (And.intro hT (And.intro hq (And.intro h1 (And.intro h2 liveS.eq_1)))))))) ?_)
    repeat' first
      | refine W.seq ?_ | (refine W.regS G ?_; dsimp only) | refine SW.nil ?_ | refine thenQ_normal ?_ | refine W.skip ?_ | refine W.exit ?_ | refine thenQ_exit ?_ | refine inBlockQ_exit ?_ | refine inBlockQ_normal ?_ | refine W.block ?_
      | (apply SW.toC; refine SWcall.go (And.intro permuteS.eq_1 (And.intro hs hk)) ?_) | (apply SW.toOp; refine SWop.go (And.intro permuteS.eq_1 (And.intro hs hk)) ?_) | (apply SW.toCG; first | refine SWcall.yes (And.intro permuteS.eq_1 (And.intro hs hk)) ?_ | refine SWcall.no (And.intro permuteS.eq_1 (And.intro hs hk)) ?_) | (apply SW.toG; first | refine SWop.yes (And.intro permuteS.eq_1 (And.intro hs hk)) ?_ | refine SWop.no (And.intro permuteS.eq_1 (And.intro hs hk)) ?_)
    refine W.ret ?_
    repeat' first
      | refine thenQ_ret ?_
      | refine inBlockQ_ret ?_
    refine fin1Z (And.intro permuteS.eq_1 (And.intro hs hk)) ?_
    exact leV_refl
end Go.Vm.C03
