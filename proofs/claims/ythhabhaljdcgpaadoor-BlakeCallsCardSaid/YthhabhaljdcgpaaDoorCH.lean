/- What some functions of the program compute, walked through once. -/
import Derived.Test.YthhabhaljdcgpaaDoorCP
namespace Go.Vm.C06
open Go Go.Proofs
set_option linter.unusedVariables false
set_option linter.unusedSimpArgs false
set_option maxRecDepth 100000
set_option maxHeartbeats 8000000

theorem F_sound : SoundFn Tryd.prog glB 6 blakeFS.run := by
  have G := good_of (P := Tryd.prog) glB_ro (l := [(11, blakeFS)]) (by simp only [List.forall_mem_cons]; exact ⟨mixed_sound, by simp⟩)
  refine soundFn_of_W G Tryd.func6 (by decide) rfl (by decide) ?_
  intro ins ret outs h
  unfold blakeFS at h
  dsimp only at h
  split at h
  rotate_left
  · cases h
  rename_i r h0 m t last
  obtain ⟨hh, h'⟩ := chk_some h
  clear h
  cases h'
  refine ⟨by show 5 ≤ 17; decide, fun w0 ext av => ?_⟩
  rw [Tryd.ntmps6, st0_eq]
  repeat' first
    | refine W.seq ?_ | (refine W.regS G ?_; dsimp only) | refine SW.nil ?_ | refine thenQ_normal ?_ | refine W.skip ?_ | refine W.exit ?_ | refine thenQ_exit ?_ | refine inBlockQ_exit ?_ | refine inBlockQ_normal ?_ | refine W.block ?_
    | (apply SW.toC; refine SWcall.go (And.intro hh blakeFS.eq_1) ?_) | (apply SW.toOp; refine SWop.go (And.intro hh blakeFS.eq_1) ?_) | (apply SW.toCG; first | refine SWcall.yes (And.intro hh blakeFS.eq_1) ?_ | refine SWcall.no (And.intro hh blakeFS.eq_1) ?_) | (apply SW.toG; first | refine SWop.yes (And.intro hh blakeFS.eq_1) ?_ | refine SWop.no (And.intro hh blakeFS.eq_1) ?_)
  refine W.ret ?_
  repeat' first
    | refine thenQ_ret ?_
    | refine inBlockQ_ret ?_
  refine fin1Z (And.intro hh blakeFS.eq_1) ?_
  exact leV_refl

/-! ### does it live -/
noncomputable def liveS : FSpec := { run := fun ins => match ins with
  | [] => some (.b true, [])
  | _ => none }
theorem live_ne : ¬ blakeF 12#32 (zeros 64 8) (zeros 64 16) ((zeros 64 2).set 0 3#64) true = zeros 64 8 := by decide +kernel
theorem lives_sound : SoundFn Tryd.prog glB 8 liveS.run := by
  have G := good_of (P := Tryd.prog) glB_ro (l := [(6, blakeFS), (7, refFS)]) (by simp only [List.forall_mem_cons]; exact ⟨F_sound, refF_sound glB_ro, by simp⟩)
  refine soundFn_of_W G Tryd.func8 (by decide) rfl (by decide) ?_
  intro ins ret outs h
  unfold liveS at h
  dsimp only at h
  split at h
  rotate_left
  · cases h
  cases h
  refine ⟨by show 0 ≤ 34; decide, fun w0 ext av => ?_⟩
  rw [Tryd.ntmps8, st0_eq]
  have hz : (zeros 64 8).length = 8 := rfl
  repeat' first
    | refine W.seq ?_ | (refine W.regS G ?_; dsimp only) | refine SW.nil ?_ | refine thenQ_normal ?_ | refine W.skip ?_ | refine W.exit ?_ | refine thenQ_exit ?_ | refine inBlockQ_exit ?_ | refine inBlockQ_normal ?_ | refine W.block ?_
    | (apply SW.toC; refine SWcall.go (And.intro blakeFS.eq_1 (And.intro refFS.eq_1 hz)) ?_) | (apply SW.toOp; refine SWop.go (And.intro blakeFS.eq_1 (And.intro refFS.eq_1 hz)) ?_) | (apply SW.toCG; first | refine SWcall.yes (And.intro blakeFS.eq_1 (And.intro refFS.eq_1 hz)) ?_ | refine SWcall.no (And.intro blakeFS.eq_1 (And.intro refFS.eq_1 hz)) ?_) | (apply SW.toG; first | refine SWop.yes (And.intro blakeFS.eq_1 (And.intro refFS.eq_1 hz)) ?_ | refine SWop.no (And.intro blakeFS.eq_1 (And.intro refFS.eq_1 hz)) ?_)
  generalize hm : zeros 64 16 = m
  generalize ht : (zeros 64 2).set 0 3#64 = t
  have hB : blakeF 12#32 (zeros 64 8) m t true = refF 12#32 (zeros 64 8) m t true := F_eq _ _ _ _ hz
  have hne : ¬ refF 12#32 (zeros 64 8) m t true = zeros 64 8 := by rw [← hm, ← ht, ← F_eq _ _ _ _ hz]; exact live_ne
  refine W.drawS G [[], [], [1], [], [3], [], [5], [], [7], [], [9], [2, 1, 4, 3, 6, 5, 8, 7, 10, 9], [0, 11, 2, 1, 4, 3, 6, 5, 8, 7, 10, 9], [12, 0, 11, 2, 1, 4, 3, 6, 5, 8, 7, 10, 9], [13, 12, 0, 11, 2, 1, 4, 3, 6, 5, 8, 7, 10, 9], [13, 12, 0, 11, 2, 1, 4, 3, 6, 5, 8, 7, 10, 9], [14, 13, 12, 0, 11, 2, 1, 4, 3, 6, 5, 8, 7, 10, 9, 15], [13, 12, 0, 11, 2, 1, 4, 3, 6, 5, 8, 7, 10, 9, 16, 14, 15], [17, 13, 12, 0, 11, 2, 1, 4, 3, 6, 5, 8, 7, 10, 9, 16, 14, 15]] hmix ?_
  dsimp only
  repeat' first
    | (apply DW.nil; (focus (decide +kernel)))
    | (apply DW.toC; refine DWcall.go (And.intro blakeFS.eq_1 (And.intro refFS.eq_1 (And.intro hz (And.intro hB hne)))) ?_) | (apply DW.toOp; refine DWop.go (And.intro blakeFS.eq_1 (And.intro refFS.eq_1 (And.intro hz (And.intro hB hne)))) ?_) | (apply DW.toCG; first | refine DWcall.yes (And.intro blakeFS.eq_1 (And.intro refFS.eq_1 (And.intro hz (And.intro hB hne)))) ?_ | refine DWcall.no (And.intro blakeFS.eq_1 (And.intro refFS.eq_1 (And.intro hz (And.intro hB hne)))) ?_) | (apply DW.toG; first | refine DWop.yes (And.intro blakeFS.eq_1 (And.intro refFS.eq_1 (And.intro hz (And.intro hB hne)))) ?_ | refine DWop.no (And.intro blakeFS.eq_1 (And.intro refFS.eq_1 (And.intro hz (And.intro hB hne)))) ?_)
  repeat' first
    | refine W.seq ?_ | (refine W.regS G ?_; dsimp only) | refine SW.nil ?_ | refine thenQ_normal ?_ | refine W.skip ?_ | refine W.exit ?_ | refine thenQ_exit ?_ | refine inBlockQ_exit ?_ | refine inBlockQ_normal ?_ | refine W.block ?_
    | (apply SW.toC; refine SWcall.go (And.intro blakeFS.eq_1 (And.intro refFS.eq_1 (And.intro hz (And.intro hB hne)))) ?_) | (apply SW.toOp; refine SWop.go (And.intro blakeFS.eq_1 (And.intro refFS.eq_1 (And.intro hz (And.intro hB hne)))) ?_) | (apply SW.toCG; first | refine SWcall.yes (And.intro blakeFS.eq_1 (And.intro refFS.eq_1 (And.intro hz (And.intro hB hne)))) ?_ | refine SWcall.no (And.intro blakeFS.eq_1 (And.intro refFS.eq_1 (And.intro hz (And.intro hB hne)))) ?_) | (apply SW.toG; first | refine SWop.yes (And.intro blakeFS.eq_1 (And.intro refFS.eq_1 (And.intro hz (And.intro hB hne)))) ?_ | refine SWop.no (And.intro blakeFS.eq_1 (And.intro refFS.eq_1 (And.intro hz (And.intro hB hne)))) ?_)
  refine W.ret ?_
  repeat' first
    | refine thenQ_ret ?_
    | refine inBlockQ_ret ?_
  refine fin1Z (And.intro blakeFS.eq_1 (And.intro refFS.eq_1 (And.intro hz (And.intro hB hne)))) ?_
  exact leV_refl

/-- what F is given, changed at the number of rounds -/
noncomputable def mixesS : FSpec := { run := fun ins => match ins with
  | [.st [.u 32 r, .agg 8 (.u 64 h), .agg 16 (.u 64 m), .agg 2 (.u 64 t), .b last]] => chk (h.length = 8) (some (.b true, []))
  | _ => none }
theorem mixes_sound : SoundFn Tryd.prog glB 3 mixesS.run := by
  have G := good_of (P := Tryd.prog) glB_ro (l := [(6, blakeFS), (7, refFS), (8, liveS)]) (by simp only [List.forall_mem_cons]; exact ⟨F_sound, refF_sound glB_ro, lives_sound, by simp⟩)
  refine soundFn_of_W G Tryd.func3 (by decide) rfl (by decide) ?_
  intro ins ret outs h
  unfold mixesS at h
  dsimp only at h
  split at h
  rotate_left
  · cases h
  rename_i r h0 m t last
  obtain ⟨hh, h'⟩ := chk_some h
  clear h
  cases h'
  refine ⟨by show 1 ≤ 36; decide, fun w0 ext av => ?_⟩
  rw [Tryd.ntmps3, st0_eq]
  repeat' first
    | refine W.seq ?_ | (refine W.regS G ?_; dsimp only) | refine SW.nil ?_ | refine thenQ_normal ?_ | refine W.skip ?_ | refine W.exit ?_ | refine thenQ_exit ?_ | refine inBlockQ_exit ?_ | refine inBlockQ_normal ?_ | refine W.block ?_
    | (apply SW.toC; refine SWcall.go (And.intro blakeFS.eq_1 (And.intro refFS.eq_1 hh)) ?_) | (apply SW.toOp; refine SWop.go (And.intro blakeFS.eq_1 (And.intro refFS.eq_1 hh)) ?_) | (apply SW.toCG; first | refine SWcall.yes (And.intro blakeFS.eq_1 (And.intro refFS.eq_1 hh)) ?_ | refine SWcall.no (And.intro blakeFS.eq_1 (And.intro refFS.eq_1 hh)) ?_) | (apply SW.toG; first | refine SWop.yes (And.intro blakeFS.eq_1 (And.intro refFS.eq_1 hh)) ?_ | refine SWop.no (And.intro blakeFS.eq_1 (And.intro refFS.eq_1 hh)) ?_)
  refine W.midI (ι := BitVec 32) (fun r => sL [(1, .p 1 0 0 0), (2, .b false)] [(1, .st [.u 32 r, .agg 8 (.u 64 h0), .agg 16 (.u 64 m), .agg 2 (.u 64 t), .b last])] 36) ?_ ?_
  · refine W.condZ G (And.intro blakeFS.eq_1 (And.intro refFS.eq_1 hh)) ?_ ?_
    all_goals intro hl
    · repeat' first
        | refine W.seq ?_ | (refine W.regS G ?_; dsimp only) | refine SW.nil ?_ | refine thenQ_normal ?_ | refine W.skip ?_ | refine W.exit ?_ | refine thenQ_exit ?_ | refine inBlockQ_exit ?_ | refine inBlockQ_normal ?_ | refine W.block ?_
        | (apply SW.toC; refine SWcall.go (And.intro blakeFS.eq_1 (And.intro refFS.eq_1 hh)) ?_) | (apply SW.toOp; refine SWop.go (And.intro blakeFS.eq_1 (And.intro refFS.eq_1 hh)) ?_) | (apply SW.toCG; first | refine SWcall.yes (And.intro blakeFS.eq_1 (And.intro refFS.eq_1 hh)) ?_ | refine SWcall.no (And.intro blakeFS.eq_1 (And.intro refFS.eq_1 hh)) ?_) | (apply SW.toG; first | refine SWop.yes (And.intro blakeFS.eq_1 (And.intro refFS.eq_1 hh)) ?_ | refine SWop.no (And.intro blakeFS.eq_1 (And.intro refFS.eq_1 hh)) ?_)
      refine ⟨r % 3000#32, Imp.le ?_⟩
      exact sL_leZ (And.intro blakeFS.eq_1 (And.intro refFS.eq_1 hh))
    · repeat' first
        | refine W.seq ?_ | (refine W.regS G ?_; dsimp only) | refine SW.nil ?_ | refine thenQ_normal ?_ | refine W.skip ?_ | refine W.exit ?_ | refine thenQ_exit ?_ | refine inBlockQ_exit ?_ | refine inBlockQ_normal ?_ | refine W.block ?_
        | (apply SW.toC; refine SWcall.go (And.intro blakeFS.eq_1 (And.intro refFS.eq_1 hh)) ?_) | (apply SW.toOp; refine SWop.go (And.intro blakeFS.eq_1 (And.intro refFS.eq_1 hh)) ?_) | (apply SW.toCG; first | refine SWcall.yes (And.intro blakeFS.eq_1 (And.intro refFS.eq_1 hh)) ?_ | refine SWcall.no (And.intro blakeFS.eq_1 (And.intro refFS.eq_1 hh)) ?_) | (apply SW.toG; first | refine SWop.yes (And.intro blakeFS.eq_1 (And.intro refFS.eq_1 hh)) ?_ | refine SWop.no (And.intro blakeFS.eq_1 (And.intro refFS.eq_1 hh)) ?_)
      refine ⟨r, Imp.le ?_⟩
      exact sL_leZ (And.intro blakeFS.eq_1 (And.intro refFS.eq_1 hh))
  intro r'
  have hB := F_eq r' m t last hh
  repeat' first
    | refine W.seq ?_ | (refine W.regS G ?_; dsimp only) | refine SW.nil ?_ | refine thenQ_normal ?_ | refine W.skip ?_ | refine W.exit ?_ | refine thenQ_exit ?_ | refine inBlockQ_exit ?_ | refine inBlockQ_normal ?_ | refine W.block ?_
    | (apply SW.toC; refine SWcall.go (And.intro blakeFS.eq_1 (And.intro refFS.eq_1 (And.intro liveS.eq_1 (And.intro hh hB)))) ?_) | (apply SW.toOp; refine SWop.go (And.intro blakeFS.eq_1 (And.intro refFS.eq_1 (And.intro liveS.eq_1 (And.intro hh hB)))) ?_) | (apply SW.toCG; first | refine SWcall.yes (And.intro blakeFS.eq_1 (And.intro refFS.eq_1 (And.intro liveS.eq_1 (And.intro hh hB)))) ?_ | refine SWcall.no (And.intro blakeFS.eq_1 (And.intro refFS.eq_1 (And.intro liveS.eq_1 (And.intro hh hB)))) ?_) | (apply SW.toG; first | refine SWop.yes (And.intro blakeFS.eq_1 (And.intro refFS.eq_1 (And.intro liveS.eq_1 (And.intro hh hB)))) ?_ | refine SWop.no (And.intro blakeFS.eq_1 (And.intro refFS.eq_1 (And.intro liveS.eq_1 (And.intro hh hB)))) ?_)
  refine W.drawS G [[], [0], [], [2], [], [4], [], [6], [], [8], [1, 0, 3, 2, 5, 4, 7, 6, 9, 8], [], [11], [], [13], [], [15], [], [17], [], [19], [12, 11, 14, 13, 16, 15, 18, 17, 20, 19, 10, 1, 0, 3, 2, 5, 4, 7, 6, 9, 8], [10, 1, 0, 3, 2, 5, 4, 7, 6, 9, 8, 21, 12, 11, 14, 13, 16, 15, 18, 17, 20, 19], [22, 10, 1, 0, 3, 2, 5, 4, 7, 6, 9, 8, 21, 12, 11, 14, 13, 16, 15, 18, 17, 20, 19], [23, 22, 10, 1, 0, 3, 2, 5, 4, 7, 6, 9, 8, 21, 12, 11, 14, 13, 16, 15, 18, 17, 20, 19], [23, 22, 10, 1, 0, 3, 2, 5, 4, 7, 6, 9, 8, 21, 12, 11, 14, 13, 16, 15, 18, 17, 20, 19, 24], [25, 23, 22, 10, 1, 0, 3, 2, 5, 4, 7, 6, 9, 8, 21, 12, 11, 14, 13, 16, 15, 18, 17, 20, 19, 24]] hmix ?_
  dsimp only
  repeat' first
    | (apply DW.nil; (focus (decide +kernel)))
    | (apply DW.toC; refine DWcall.go (And.intro blakeFS.eq_1 (And.intro refFS.eq_1 (And.intro liveS.eq_1 (And.intro hh hB)))) ?_) | (apply DW.toOp; refine DWop.go (And.intro blakeFS.eq_1 (And.intro refFS.eq_1 (And.intro liveS.eq_1 (And.intro hh hB)))) ?_) | (apply DW.toCG; first | refine DWcall.yes (And.intro blakeFS.eq_1 (And.intro refFS.eq_1 (And.intro liveS.eq_1 (And.intro hh hB)))) ?_ | refine DWcall.no (And.intro blakeFS.eq_1 (And.intro refFS.eq_1 (And.intro liveS.eq_1 (And.intro hh hB)))) ?_) | (apply DW.toG; first | refine DWop.yes (And.intro blakeFS.eq_1 (And.intro refFS.eq_1 (And.intro liveS.eq_1 (And.intro hh hB)))) ?_ | refine DWop.no (And.intro blakeFS.eq_1 (And.intro refFS.eq_1 (And.intro liveS.eq_1 (And.intro hh hB)))) ?_)
  repeat' first
    | refine W.seq ?_ | (refine W.regS G ?_; dsimp only) | refine SW.nil ?_ | refine thenQ_normal ?_ | refine W.skip ?_ | refine W.exit ?_ | refine thenQ_exit ?_ | refine inBlockQ_exit ?_ | refine inBlockQ_normal ?_ | refine W.block ?_
    | (apply SW.toC; refine SWcall.go (And.intro blakeFS.eq_1 (And.intro refFS.eq_1 (And.intro liveS.eq_1 (And.intro hh hB)))) ?_) | (apply SW.toOp; refine SWop.go (And.intro blakeFS.eq_1 (And.intro refFS.eq_1 (And.intro liveS.eq_1 (And.intro hh hB)))) ?_) | (apply SW.toCG; first | refine SWcall.yes (And.intro blakeFS.eq_1 (And.intro refFS.eq_1 (And.intro liveS.eq_1 (And.intro hh hB)))) ?_ | refine SWcall.no (And.intro blakeFS.eq_1 (And.intro refFS.eq_1 (And.intro liveS.eq_1 (And.intro hh hB)))) ?_) | (apply SW.toG; first | refine SWop.yes (And.intro blakeFS.eq_1 (And.intro refFS.eq_1 (And.intro liveS.eq_1 (And.intro hh hB)))) ?_ | refine SWop.no (And.intro blakeFS.eq_1 (And.intro refFS.eq_1 (And.intro liveS.eq_1 (And.intro hh hB)))) ?_)
  refine W.ret ?_
  repeat' first
    | refine thenQ_ret ?_
    | refine inBlockQ_ret ?_
  refine fin1Z (And.intro blakeFS.eq_1 (And.intro refFS.eq_1 (And.intro liveS.eq_1 (And.intro hh hB)))) ?_
  exact leV_refl

end Go.Vm.C06
