/- What some functions of the program compute, walked through once. -/
import Derived.Test.YthhabhaljdcgpaaDoorCH
namespace Go.Vm.C06
open Go Go.Proofs
set_option linter.unusedVariables false
set_option linter.unusedSimpArgs false
set_option maxRecDepth 100000
set_option maxHeartbeats 8000000

/-! ### without rounds, and with one -/
theorem F_zero (h m m' t : List (BitVec 64)) (last : Bool) : blakeF 0#32 h m t last = blakeF 0#32 h m' t last := by
  have e : min (0#32).toNat 65536 = 0 := by decide
  simp only [blakeF, e, itN]
theorem set_getD_self (m : List (BitVec 64)) (k : Nat) : m.set k (m.getD k 0 ^^^ 0#64) = m := by
  apply List.ext_getElem?
  intro i
  rw [BitVec.xor_zero]
  by_cases hk : k = i
  · subst hk
    by_cases hl : k < m.length <;> simp [List.getElem?_set, hl]
  · simp [List.getElem?_set, hk]
noncomputable def hangsS : FSpec := { run := fun ins => match ins with
  | [.st [.u 32 r, .agg 8 (.u 64 h), .agg 16 (.u 64 m), .agg 2 (.u 64 t), .b last], .u 8 at', .u 64 by'] => chk (h.length = 8) (some (.b true, []))
  | _ => none }
theorem hangs_sound : SoundFn Tryd.prog glB 4 hangsS.run := by
  have G := good_of (P := Tryd.prog) glB_ro (l := [(6, blakeFS), (7, refFS), (8, liveS)]) (by simp only [List.forall_mem_cons]; exact ⟨F_sound, refF_sound glB_ro, lives_sound, by simp⟩)
  refine soundFn_of_W G Tryd.func4 (by decide) rfl (by decide) ?_
  intro ins ret outs h
  unfold hangsS at h
  dsimp only at h
  split at h
  rotate_left
  · cases h
  rename_i r h0 m t last at' by'
  obtain ⟨hh, h'⟩ := chk_some h
  clear h
  cases h'
  refine ⟨by show 3 ≤ 95; decide, fun w0 ext av => ?_⟩
  rw [Tryd.ntmps4, st0_eq]
  have hK : (at' % 16#8).toNat < 16 := by rw [BitVec.toNat_umod]; exact Nat.mod_lt _ (by decide)
  generalize hKK : at' % 16#8 = kk at hK
  repeat' first
    | refine W.seq ?_ | (refine W.regS G ?_; dsimp only) | refine SW.nil ?_ | refine thenQ_normal ?_ | refine W.skip ?_ | refine W.exit ?_ | refine thenQ_exit ?_ | refine inBlockQ_exit ?_ | refine inBlockQ_normal ?_ | refine W.block ?_
    | (apply SW.toC; refine SWcall.go (And.intro blakeFS.eq_1 (And.intro refFS.eq_1 (And.intro hh hKK))) ?_) | (apply SW.toOp; refine SWop.go (And.intro blakeFS.eq_1 (And.intro refFS.eq_1 (And.intro hh hKK))) ?_) | (apply SW.toCG; first | refine SWcall.yes (And.intro blakeFS.eq_1 (And.intro refFS.eq_1 (And.intro hh hKK))) ?_ | refine SWcall.no (And.intro blakeFS.eq_1 (And.intro refFS.eq_1 (And.intro hh hKK))) ?_) | (apply SW.toG; first | refine SWop.yes (And.intro blakeFS.eq_1 (And.intro refFS.eq_1 (And.intro hh hKK))) ?_ | refine SWop.no (And.intro blakeFS.eq_1 (And.intro refFS.eq_1 (And.intro hh hKK))) ?_)
  have hm2 : by' = 0#64 → m.set kk.toNat (m.getD kk.toNat 0 ^^^ by') = m := by rintro rfl; exact set_getD_self m _
  generalize m.set kk.toNat (m.getD kk.toNat 0 ^^^ by') = m2 at hm2 ⊢
  have hz : blakeF 0#32 h0 m2 t last = blakeF 0#32 h0 m t last := F_zero _ _ _ _ _
  refine W.imp (s := sL [(2, .u 64 by'), (3, .p 3 0 0 0), (6, .b false), (7, .p 7 0 0 0)] [(3, .st [.u 32 r, .agg 8 (.u 64 h0), .agg 16 (.u 64 m), .agg 2 (.u 64 t), .b last]), (7, .st [.u 32 r, .agg 8 (.u 64 h0), .agg 16 (.u 64 m2), .agg 2 (.u 64 t), .b last])] 95) ?_ (Imp.le ?_)
  rotate_left
  · exact sL_leZ (And.intro blakeFS.eq_1 (And.intro refFS.eq_1 (And.intro hh hKK)))
  refine W.drawS G [[], [0], [], [2], [], [4], [], [6], [1, 0, 3, 2, 5, 4, 7, 6], [], [9], [], [11], [], [13], [], [15], [10, 9, 12, 11, 14, 13, 16, 15, 8, 1, 0, 3, 2, 5, 4, 7, 6], [8, 1, 0, 3, 2, 5, 4, 7, 6, 17, 10, 9, 12, 11, 14, 13, 16, 15]] hmix ?_
  dsimp only
  repeat' first
    | (apply DW.nil; (focus (decide +kernel)))
    | (apply DW.toC; refine DWcall.go (And.intro blakeFS.eq_1 (And.intro refFS.eq_1 (And.intro hh hz))) ?_) | (apply DW.toOp; refine DWop.go (And.intro blakeFS.eq_1 (And.intro refFS.eq_1 (And.intro hh hz))) ?_) | (apply DW.toCG; first | refine DWcall.yes (And.intro blakeFS.eq_1 (And.intro refFS.eq_1 (And.intro hh hz))) ?_ | refine DWcall.no (And.intro blakeFS.eq_1 (And.intro refFS.eq_1 (And.intro hh hz))) ?_) | (apply DW.toG; first | refine DWop.yes (And.intro blakeFS.eq_1 (And.intro refFS.eq_1 (And.intro hh hz))) ?_ | refine DWop.no (And.intro blakeFS.eq_1 (And.intro refFS.eq_1 (And.intro hh hz))) ?_)
  repeat' first
    | refine W.seq ?_ | (refine W.regS G ?_; dsimp only) | refine SW.nil ?_ | refine thenQ_normal ?_ | refine W.skip ?_ | refine W.exit ?_ | refine thenQ_exit ?_ | refine inBlockQ_exit ?_ | refine inBlockQ_normal ?_ | refine W.block ?_
    | (apply SW.toC; refine SWcall.go (And.intro blakeFS.eq_1 (And.intro refFS.eq_1 (And.intro hh hz))) ?_) | (apply SW.toOp; refine SWop.go (And.intro blakeFS.eq_1 (And.intro refFS.eq_1 (And.intro hh hz))) ?_) | (apply SW.toCG; first | refine SWcall.yes (And.intro blakeFS.eq_1 (And.intro refFS.eq_1 (And.intro hh hz))) ?_ | refine SWcall.no (And.intro blakeFS.eq_1 (And.intro refFS.eq_1 (And.intro hh hz))) ?_) | (apply SW.toG; first | refine SWop.yes (And.intro blakeFS.eq_1 (And.intro refFS.eq_1 (And.intro hh hz))) ?_ | refine SWop.no (And.intro blakeFS.eq_1 (And.intro refFS.eq_1 (And.intro hh hz))) ?_)
  refine W.condZ G (And.intro blakeFS.eq_1 (And.intro refFS.eq_1 (And.intro hh hz))) ?_ ?_
  all_goals intro hc
  · cases hc
  repeat' first
    | refine W.seq ?_ | (refine W.regS G ?_; dsimp only) | refine SW.nil ?_ | refine thenQ_normal ?_ | refine W.skip ?_ | refine W.exit ?_ | refine thenQ_exit ?_ | refine inBlockQ_exit ?_ | refine inBlockQ_normal ?_ | refine W.block ?_
    | (apply SW.toC; refine SWcall.go (And.intro blakeFS.eq_1 (And.intro refFS.eq_1 hh)) ?_) | (apply SW.toOp; refine SWop.go (And.intro blakeFS.eq_1 (And.intro refFS.eq_1 hh)) ?_) | (apply SW.toCG; first | refine SWcall.yes (And.intro blakeFS.eq_1 (And.intro refFS.eq_1 hh)) ?_ | refine SWcall.no (And.intro blakeFS.eq_1 (And.intro refFS.eq_1 hh)) ?_) | (apply SW.toG; first | refine SWop.yes (And.intro blakeFS.eq_1 (And.intro refFS.eq_1 hh)) ?_ | refine SWop.no (And.intro blakeFS.eq_1 (And.intro refFS.eq_1 hh)) ?_)
  refine W.drawS G [[], [0], [], [2], [], [4], [], [6], [1, 0, 3, 2, 5, 4, 7, 6], [], [9], [], [11], [], [13], [], [15], [10, 9, 12, 11, 14, 13, 16, 15, 8, 1, 0, 3, 2, 5, 4, 7, 6], [], [], [18, 8, 1, 0, 3, 2, 5, 4, 7, 6, 17, 10, 9, 12, 11, 14, 13, 16, 15, 19], [19, 17, 10, 9, 12, 11, 14, 13, 16, 15, 8, 1, 0, 3, 2, 5, 4, 7, 6, 20, 18]] hmix ?_
  dsimp only
  repeat' first
    | (apply DW.nil; (focus (decide +kernel)))
    | (apply DW.toC; refine DWcall.go (And.intro blakeFS.eq_1 (And.intro refFS.eq_1 hh)) ?_) | (apply DW.toOp; refine DWop.go (And.intro blakeFS.eq_1 (And.intro refFS.eq_1 hh)) ?_) | (apply DW.toCG; first | refine DWcall.yes (And.intro blakeFS.eq_1 (And.intro refFS.eq_1 hh)) ?_ | refine DWcall.no (And.intro blakeFS.eq_1 (And.intro refFS.eq_1 hh)) ?_) | (apply DW.toG; first | refine DWop.yes (And.intro blakeFS.eq_1 (And.intro refFS.eq_1 hh)) ?_ | refine DWop.no (And.intro blakeFS.eq_1 (And.intro refFS.eq_1 hh)) ?_)
  have hB1 := F_eq 1#32 m t last hh
  have hB2 := F_eq 1#32 m2 t last hh
  repeat' first
    | refine W.seq ?_ | (refine W.regS G ?_; dsimp only) | refine SW.nil ?_ | refine thenQ_normal ?_ | refine W.skip ?_ | refine W.exit ?_ | refine thenQ_exit ?_ | refine inBlockQ_exit ?_ | refine inBlockQ_normal ?_ | refine W.block ?_
    | (apply SW.toC; refine SWcall.go (And.intro blakeFS.eq_1 (And.intro refFS.eq_1 hh)) ?_) | (apply SW.toOp; refine SWop.go (And.intro blakeFS.eq_1 (And.intro refFS.eq_1 hh)) ?_) | (apply SW.toCG; first | refine SWcall.yes (And.intro blakeFS.eq_1 (And.intro refFS.eq_1 hh)) ?_ | refine SWcall.no (And.intro blakeFS.eq_1 (And.intro refFS.eq_1 hh)) ?_) | (apply SW.toG; first | refine SWop.yes (And.intro blakeFS.eq_1 (And.intro refFS.eq_1 hh)) ?_ | refine SWop.no (And.intro blakeFS.eq_1 (And.intro refFS.eq_1 hh)) ?_)
  refine W.imp (s := sL [(2, .u 64 by'), (3, .p 3 0 0 0), (6, .b false), (7, .p 7 0 0 0), (8, .p 8 0 0 0), (9, .p 9 0 0 0)] [(3, .st [.u 32 r, .agg 8 (.u 64 h0), .agg 16 (.u 64 m), .agg 2 (.u 64 t), .b last]), (7, .st [.u 32 r, .agg 8 (.u 64 h0), .agg 16 (.u 64 m2), .agg 2 (.u 64 t), .b last]), (8, .agg 8 (.u 64 (blakeF 1#32 h0 m t last))), (9, .agg 8 (.u 64 (blakeF 1#32 h0 m2 t last)))] 95) ?_ (Imp.le ?_)
  rotate_left
  · exact sL_leZ (And.intro blakeFS.eq_1 (And.intro refFS.eq_1 hh))
  by_cases hby : by' = 0#64
  · obtain rfl := hm2 hby
    refine W.drawS G [[], [0], [1, 0], [2, 1, 0], [2, 1, 0], [3, 2, 1, 0, 4], [2, 1, 0, 5, 3, 4], [6, 2, 1, 0, 5, 3, 4], [7, 6, 2, 1, 0, 5, 3, 4], [7, 6, 2, 1, 0, 5, 3, 4], [9, 7, 6, 2, 1, 0, 5, 3, 4], [7, 6, 2, 1, 0, 5, 3, 4], [11, 7, 6, 2, 1, 0, 5, 3, 4], [7, 6, 2, 1, 0, 5, 3, 4], [13, 7, 6, 2, 1, 0, 5, 3, 4], [7, 6, 2, 1, 0, 5, 3, 4], [15, 7, 6, 2, 1, 0, 5, 3, 4], [10, 9, 7, 6, 2, 1, 0, 5, 3, 4, 12, 11, 14, 13, 16, 15], [8, 7, 6, 2, 1, 0, 5, 3, 4, 17, 10, 9, 12, 11, 14, 13, 16, 15], [7, 6, 2, 1, 0, 5, 3, 4, 18, 8, 17, 10, 9, 12, 11, 14, 13, 16, 15], [19, 7, 6, 2, 1, 0, 5, 3, 4, 18, 8, 17, 10, 9, 12, 11, 14, 13, 16, 15], [20, 19, 7, 6, 2, 1, 0, 5, 3, 4, 18, 8, 17, 10, 9, 12, 11, 14, 13, 16, 15], [20, 19, 7, 6, 2, 1, 0, 5, 3, 4, 18, 8, 17, 10, 9, 12, 11, 14, 13, 16, 15], [22, 20, 19, 7, 6, 2, 1, 0, 5, 3, 4, 18, 8, 17, 10, 9, 12, 11, 14, 13, 16, 15], [20, 19, 7, 6, 2, 1, 0, 5, 3, 4, 18, 8, 17, 10, 9, 12, 11, 14, 13, 16, 15], [24, 20, 19, 7, 6, 2, 1, 0, 5, 3, 4, 18, 8, 17, 10, 9, 12, 11, 14, 13, 16, 15], [20, 19, 7, 6, 2, 1, 0, 5, 3, 4, 18, 8, 17, 10, 9, 12, 11, 14, 13, 16, 15], [26, 20, 19, 7, 6, 2, 1, 0, 5, 3, 4, 18, 8, 17, 10, 9, 12, 11, 14, 13, 16, 15], [20, 19, 7, 6, 2, 1, 0, 5, 3, 4, 18, 8, 17, 10, 9, 12, 11, 14, 13, 16, 15], [28, 20, 19, 7, 6, 2, 1, 0, 5, 3, 4, 18, 8, 17, 10, 9, 12, 11, 14, 13, 16, 15], [23, 22, 20, 19, 7, 6, 2, 1, 0, 5, 3, 4, 18, 8, 17, 10, 9, 12, 11, 14, 13, 16, 15, 25, 24, 27, 26, 29, 28], [21, 20, 19, 7, 6, 2, 1, 0, 5, 3, 4, 18, 8, 17, 10, 9, 12, 11, 14, 13, 16, 15, 30, 23, 22, 25, 24, 27, 26, 29, 28], [20, 19, 7, 6, 2, 1, 0, 5, 3, 4, 18, 8, 17, 10, 9, 12, 11, 14, 13, 16, 15, 31, 21, 30, 23, 22, 25, 24, 27, 26, 29, 28], [32, 20, 19, 7, 6, 2, 1, 0, 5, 3, 4, 18, 8, 17, 10, 9, 12, 11, 14, 13, 16, 15, 31, 21, 30, 23, 22, 25, 24, 27, 26, 29, 28], [33, 32, 20, 19, 7, 6, 2, 1, 0, 5, 3, 4, 18, 8, 17, 10, 9, 12, 11, 14, 13, 16, 15, 31, 21, 30, 23, 22, 25, 24, 27, 26, 29, 28], [33, 32, 20, 19, 7, 6, 2, 1, 0, 5, 3, 4, 18, 8, 17, 10, 9, 12, 11, 14, 13, 16, 15, 31, 21, 30, 23, 22, 25, 24, 27, 26, 29, 28, 34], [35, 33, 32, 20, 19, 7, 6, 2, 1, 0, 5, 3, 4, 18, 8, 17, 10, 9, 12, 11, 14, 13, 16, 15, 31, 21, 30, 23, 22, 25, 24, 27, 26, 29, 28, 34]] hmix ?_
    dsimp only
    repeat' first
      | (apply DW.nil; (focus (decide +kernel)))
      | (apply DW.toC; refine DWcall.go (And.intro refFS.eq_1 (And.intro liveS.eq_1 (And.intro hby hB1))) ?_) | (apply DW.toOp; refine DWop.go (And.intro refFS.eq_1 (And.intro liveS.eq_1 (And.intro hby hB1))) ?_) | (apply DW.toCG; first | refine DWcall.yes (And.intro refFS.eq_1 (And.intro liveS.eq_1 (And.intro hby hB1))) ?_ | refine DWcall.no (And.intro refFS.eq_1 (And.intro liveS.eq_1 (And.intro hby hB1))) ?_) | (apply DW.toG; first | refine DWop.yes (And.intro refFS.eq_1 (And.intro liveS.eq_1 (And.intro hby hB1))) ?_ | refine DWop.no (And.intro refFS.eq_1 (And.intro liveS.eq_1 (And.intro hby hB1))) ?_)
    repeat' first
      | refine W.seq ?_ | (refine W.regS G ?_; dsimp only) | refine SW.nil ?_ | refine thenQ_normal ?_ | refine W.skip ?_ | refine W.exit ?_ | refine thenQ_exit ?_ | refine inBlockQ_exit ?_ | refine inBlockQ_normal ?_ | refine W.block ?_
      | (apply SW.toC; refine SWcall.go (And.intro refFS.eq_1 (And.intro liveS.eq_1 (And.intro hby hB1))) ?_) | (apply SW.toOp; refine SWop.go (And.intro refFS.eq_1 (And.intro liveS.eq_1 (And.intro hby hB1))) ?_) | (apply SW.toCG; first | refine SWcall.yes (And.intro refFS.eq_1 (And.intro liveS.eq_1 (And.intro hby hB1))) ?_ | refine SWcall.no (And.intro refFS.eq_1 (And.intro liveS.eq_1 (And.intro hby hB1))) ?_) | (apply SW.toG; first | refine SWop.yes (And.intro refFS.eq_1 (And.intro liveS.eq_1 (And.intro hby hB1))) ?_ | refine SWop.no (And.intro refFS.eq_1 (And.intro liveS.eq_1 (And.intro hby hB1))) ?_)
    refine W.ret ?_
    repeat' first
      | refine thenQ_ret ?_
      | refine inBlockQ_ret ?_
    refine fin1Z (And.intro refFS.eq_1 (And.intro liveS.eq_1 (And.intro hby hB1))) ?_
    exact leV_refl
  · have hby' : decide (by' = 0#64) = false := decide_eq_false hby
    refine W.drawS G [[], [0], [1, 0], [2, 1, 0], [2, 1, 0], [3, 2, 1, 0, 4], [2, 1, 0, 5, 3, 4], [6, 2, 1, 0, 5, 3, 4], [7, 6, 2, 1, 0, 5, 3, 4], [7, 6, 2, 1, 0, 5, 3, 4], [9, 7, 6, 2, 1, 0, 5, 3, 4], [7, 6, 2, 1, 0, 5, 3, 4], [11, 7, 6, 2, 1, 0, 5, 3, 4], [7, 6, 2, 1, 0, 5, 3, 4], [13, 7, 6, 2, 1, 0, 5, 3, 4], [7, 6, 2, 1, 0, 5, 3, 4], [15, 7, 6, 2, 1, 0, 5, 3, 4], [10, 9, 7, 6, 2, 1, 0, 5, 3, 4, 12, 11, 14, 13, 16, 15], [8, 7, 6, 2, 1, 0, 5, 3, 4, 17, 10, 9, 12, 11, 14, 13, 16, 15], [7, 6, 2, 1, 0, 5, 3, 4, 18, 8, 17, 10, 9, 12, 11, 14, 13, 16, 15], [19, 7, 6, 2, 1, 0, 5, 3, 4, 18, 8, 17, 10, 9, 12, 11, 14, 13, 16, 15], [20, 19, 7, 6, 2, 1, 0, 5, 3, 4, 18, 8, 17, 10, 9, 12, 11, 14, 13, 16, 15], [20, 19, 7, 6, 2, 1, 0, 5, 3, 4, 18, 8, 17, 10, 9, 12, 11, 14, 13, 16, 15], [22, 20, 19, 7, 6, 2, 1, 0, 5, 3, 4, 18, 8, 17, 10, 9, 12, 11, 14, 13, 16, 15], [20, 19, 7, 6, 2, 1, 0, 5, 3, 4, 18, 8, 17, 10, 9, 12, 11, 14, 13, 16, 15], [24, 20, 19, 7, 6, 2, 1, 0, 5, 3, 4, 18, 8, 17, 10, 9, 12, 11, 14, 13, 16, 15], [20, 19, 7, 6, 2, 1, 0, 5, 3, 4, 18, 8, 17, 10, 9, 12, 11, 14, 13, 16, 15], [26, 20, 19, 7, 6, 2, 1, 0, 5, 3, 4, 18, 8, 17, 10, 9, 12, 11, 14, 13, 16, 15], [20, 19, 7, 6, 2, 1, 0, 5, 3, 4, 18, 8, 17, 10, 9, 12, 11, 14, 13, 16, 15], [28, 20, 19, 7, 6, 2, 1, 0, 5, 3, 4, 18, 8, 17, 10, 9, 12, 11, 14, 13, 16, 15], [23, 22, 20, 19, 7, 6, 2, 1, 0, 5, 3, 4, 18, 8, 17, 10, 9, 12, 11, 14, 13, 16, 15, 25, 24, 27, 26, 29, 28], [21, 20, 19, 7, 6, 2, 1, 0, 5, 3, 4, 18, 8, 17, 10, 9, 12, 11, 14, 13, 16, 15, 30, 23, 22, 25, 24, 27, 26, 29, 28], [20, 19, 7, 6, 2, 1, 0, 5, 3, 4, 18, 8, 17, 10, 9, 12, 11, 14, 13, 16, 15, 31, 21, 30, 23, 22, 25, 24, 27, 26, 29, 28], [32, 20, 19, 7, 6, 2, 1, 0, 5, 3, 4, 18, 8, 17, 10, 9, 12, 11, 14, 13, 16, 15, 31, 21, 30, 23, 22, 25, 24, 27, 26, 29, 28], [33, 32, 20, 19, 7, 6, 2, 1, 0, 5, 3, 4, 18, 8, 17, 10, 9, 12, 11, 14, 13, 16, 15, 31, 21, 30, 23, 22, 25, 24, 27, 26, 29, 28], [33, 32, 20, 19, 7, 6, 2, 1, 0, 5, 3, 4, 18, 8, 17, 10, 9, 12, 11, 14, 13, 16, 15, 31, 21, 30, 23, 22, 25, 24, 27, 26, 29, 28, 34], [35, 33, 32, 20, 19, 7, 6, 2, 1, 0, 5, 3, 4, 18, 8, 17, 10, 9, 12, 11, 14, 13, 16, 15, 31, 21, 30, 23, 22, 25, 24, 27, 26, 29, 28, 34]] hmix ?_
    dsimp only
    repeat' first
      | (apply DW.nil; (focus (decide +kernel)))
      | (apply DW.toC; refine DWcall.go (And.intro refFS.eq_1 (And.intro liveS.eq_1 (And.intro hby (And.intro hB1 hB2)))) ?_) | (apply DW.toOp; refine DWop.go (And.intro refFS.eq_1 (And.intro liveS.eq_1 (And.intro hby (And.intro hB1 hB2)))) ?_) | (apply DW.toCG; first | refine DWcall.yes (And.intro refFS.eq_1 (And.intro liveS.eq_1 (And.intro hby (And.intro hB1 hB2)))) ?_ | refine DWcall.no (And.intro refFS.eq_1 (And.intro liveS.eq_1 (And.intro hby (And.intro hB1 hB2)))) ?_) | (apply DW.toG; first | refine DWop.yes (And.intro refFS.eq_1 (And.intro liveS.eq_1 (And.intro hby (And.intro hB1 hB2)))) ?_ | refine DWop.no (And.intro refFS.eq_1 (And.intro liveS.eq_1 (And.intro hby (And.intro hB1 hB2)))) ?_)
    repeat' first
      | refine W.seq ?_ | (refine W.regS G ?_; dsimp only) | refine SW.nil ?_ | refine thenQ_normal ?_ | refine W.skip ?_ | refine W.exit ?_ | refine thenQ_exit ?_ | refine inBlockQ_exit ?_ | refine inBlockQ_normal ?_ | refine W.block ?_
      | (apply SW.toC; refine SWcall.go (And.intro refFS.eq_1 (And.intro liveS.eq_1 (And.intro hby (And.intro hB1 hB2)))) ?_) | (apply SW.toOp; refine SWop.go (And.intro refFS.eq_1 (And.intro liveS.eq_1 (And.intro hby (And.intro hB1 hB2)))) ?_) | (apply SW.toCG; first | refine SWcall.yes (And.intro refFS.eq_1 (And.intro liveS.eq_1 (And.intro hby (And.intro hB1 hB2)))) ?_ | refine SWcall.no (And.intro refFS.eq_1 (And.intro liveS.eq_1 (And.intro hby (And.intro hB1 hB2)))) ?_) | (apply SW.toG; first | refine SWop.yes (And.intro refFS.eq_1 (And.intro liveS.eq_1 (And.intro hby (And.intro hB1 hB2)))) ?_ | refine SWop.no (And.intro refFS.eq_1 (And.intro liveS.eq_1 (And.intro hby (And.intro hB1 hB2)))) ?_)
    refine W.ret ?_
    repeat' first
      | refine thenQ_ret ?_
      | refine inBlockQ_ret ?_
    refine fin1Z (And.intro refFS.eq_1 (And.intro liveS.eq_1 (And.intro hby (And.intro hB1 hB2)))) ?_
    exact leV_refl
end Go.Vm.C06
