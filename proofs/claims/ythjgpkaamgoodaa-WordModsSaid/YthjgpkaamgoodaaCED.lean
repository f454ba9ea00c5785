/- What some functions of the program compute, walked through once. -/
import Derived.Test.YthjgpkaamgoodaaCEC
namespace Go.Vm.C01
open Go Go.Proofs
set_option linter.unusedVariables false
set_option linter.unusedSimpArgs false
set_option maxRecDepth 100000
set_option maxHeartbeats 8000000

/-! ### WordMods -/
theorem mod_below {v m : Nat} (hm : ¬ m = 0) (hm2 : m < B256) : decide (cmpI (wv (wOf (wmod v m))) m < 0) = true := by
  have hM : wmod v m = v % m := if_neg hm
  have h1 := Nat.mod_lt v (Nat.pos_of_ne_zero hm)
  rw [cmpI_lt, hM, wv_wOf, Nat.mod_eq_of_lt (by omega)]
  exact decide_eq_true h1
noncomputable def modsS : FSpec := { run := fun ins => match ins with
  | [.agg 4 (.u 64 a), .agg 4 (.u 64 b), .agg 4 (.u 64 m)] => chk (a.length = 4 ∧ b.length = 4 ∧ m.length = 4) (some (.b true, []))
  | _ => none }
theorem mods_sound : SoundFn Try.prog glB 8 modsS.run := by
  have G := good_of (P := Try.prog) glB_ro (l := [(39, amS), (40, mmS), (41, amS), (42, mmS), (31, CmpS), (19, livesS)]) (by simp only [List.forall_mem_cons]; exact ⟨AddMod_sound, MulMod_sound, rAddMod_sound, rMulMod_sound, Cmp_sound, lives_sound, by simp⟩)
  refine soundFn_of_W G Try.func8 (by decide) rfl (by decide) ?_
  intro ins ret outs h
  unfold modsS at h
  dsimp only at h
  split at h
  rotate_left
  · cases h
  rename_i a b m
  obtain ⟨hl, h'⟩ := chk_some h
  clear h
  cases h'
  obtain ⟨la, lb, lm⟩ := hl
  refine ⟨by show 3 ≤ 59; decide, fun w0 ext av => ?_⟩
  rw [Try.ntmps8, st0_eq]
  have hm2 := wv_lt m
  have f1 := fun h => mod_below (v := wv a + wv b) (m := wv m) h hm2
  have f2 := fun h => mod_below (v := wv a * wv b) (m := wv m) h hm2
  have z1 : wv m = 0 → wOf (wmod (wv a + wv b) (wv m)) = zeros 64 4 := fun h => by rw [h, zeros_wOf]; rfl
  have z2 : wv m = 0 → wOf (wmod (wv a * wv b) (wv m)) = zeros 64 4 := fun h => by rw [h, zeros_wOf]; rfl
  obtain ⟨x, hx⟩ : ∃ x, wOf (wmod (wv a + wv b) (wv m)) = x := ⟨_, rfl⟩
  obtain ⟨y, hy⟩ : ∃ y, wOf (wmod (wv a * wv b) (wv m)) = y := ⟨_, rfl⟩
  rw [hx] at f1 z1
  rw [hy] at f2 z2
  have r1 := cmpI_range (wv x) (wv m)
  have r2 := cmpI_range (wv y) (wv m)
  repeat' first
    | refine W.seq ?_ | (refine W.regS G ?_; dsimp only) | refine SW.nil ?_ | refine thenQ_normal ?_ | refine W.skip ?_ | refine W.exit ?_ | refine thenQ_exit ?_ | refine inBlockQ_exit ?_ | refine inBlockQ_normal ?_
    | (apply SW.toC; refine SWcall.go (And.intro amS.eq_1 (And.intro mmS.eq_1 (And.intro la (And.intro lb (And.intro lm (And.intro hx hy)))))) ?_) | (apply SW.toOp; refine SWop.go (And.intro amS.eq_1 (And.intro mmS.eq_1 (And.intro la (And.intro lb (And.intro lm (And.intro hx hy)))))) ?_) | (apply SW.toCG; first | refine SWcall.yes (And.intro amS.eq_1 (And.intro mmS.eq_1 (And.intro la (And.intro lb (And.intro lm (And.intro hx hy)))))) ?_ | refine SWcall.no (And.intro amS.eq_1 (And.intro mmS.eq_1 (And.intro la (And.intro lb (And.intro lm (And.intro hx hy)))))) ?_) | (apply SW.toG; first | refine SWop.yes (And.intro amS.eq_1 (And.intro mmS.eq_1 (And.intro la (And.intro lb (And.intro lm (And.intro hx hy)))))) ?_ | refine SWop.no (And.intro amS.eq_1 (And.intro mmS.eq_1 (And.intro la (And.intro lb (And.intro lm (And.intro hx hy)))))) ?_)
  refine W.drawS G [[], [], [], [0, 1, 2], [], [], [], [4, 5, 6, 3, 0, 1, 2], [], [], [8, 3, 0, 1, 2, 7, 4, 5, 6, 9], [9, 7, 4, 5, 6, 3, 0, 1, 2, 10, 8]] hmix ?_
  dsimp only
  repeat' first
    | (apply DW.nil; (focus (decide +kernel)))
    | (apply DW.toC; refine DWcall.go (And.intro amS.eq_1 (And.intro mmS.eq_1 (And.intro la (And.intro lb (And.intro lm (And.intro hx hy)))))) ?_) | (apply DW.toOp; refine DWop.go (And.intro amS.eq_1 (And.intro mmS.eq_1 (And.intro la (And.intro lb (And.intro lm (And.intro hx hy)))))) ?_) | (apply DW.toCG; first | refine DWcall.yes (And.intro amS.eq_1 (And.intro mmS.eq_1 (And.intro la (And.intro lb (And.intro lm (And.intro hx hy)))))) ?_ | refine DWcall.no (And.intro amS.eq_1 (And.intro mmS.eq_1 (And.intro la (And.intro lb (And.intro lm (And.intro hx hy)))))) ?_) | (apply DW.toG; first | refine DWop.yes (And.intro amS.eq_1 (And.intro mmS.eq_1 (And.intro la (And.intro lb (And.intro lm (And.intro hx hy)))))) ?_ | refine DWop.no (And.intro amS.eq_1 (And.intro mmS.eq_1 (And.intro la (And.intro lb (And.intro lm (And.intro hx hy)))))) ?_)
  repeat' first
    | refine W.seq ?_ | (refine W.regS G ?_; dsimp only) | refine SW.nil ?_ | refine thenQ_normal ?_ | refine W.skip ?_ | refine W.exit ?_ | refine thenQ_exit ?_ | refine inBlockQ_exit ?_ | refine inBlockQ_normal ?_
    | (apply SW.toC; refine SWcall.go (And.intro amS.eq_1 (And.intro mmS.eq_1 (And.intro la (And.intro lb (And.intro lm (And.intro hx hy)))))) ?_) | (apply SW.toOp; refine SWop.go (And.intro amS.eq_1 (And.intro mmS.eq_1 (And.intro la (And.intro lb (And.intro lm (And.intro hx hy)))))) ?_) | (apply SW.toCG; first | refine SWcall.yes (And.intro amS.eq_1 (And.intro mmS.eq_1 (And.intro la (And.intro lb (And.intro lm (And.intro hx hy)))))) ?_ | refine SWcall.no (And.intro amS.eq_1 (And.intro mmS.eq_1 (And.intro la (And.intro lb (And.intro lm (And.intro hx hy)))))) ?_) | (apply SW.toG; first | refine SWop.yes (And.intro amS.eq_1 (And.intro mmS.eq_1 (And.intro la (And.intro lb (And.intro lm (And.intro hx hy)))))) ?_ | refine SWop.no (And.intro amS.eq_1 (And.intro mmS.eq_1 (And.intro la (And.intro lb (And.intro lm (And.intro hx hy)))))) ?_)
  refine W.drawS G [[], [], [], [], [1, 2, 3], [0, 4, 1, 2, 3], [5, 0, 4, 1, 2, 3], [6, 5, 0, 4, 1, 2, 3], [6, 5, 0, 4, 1, 2, 3], [6, 5, 0, 4, 1, 2, 3], [6, 5, 0, 4, 1, 2, 3], [8, 6, 5, 0, 4, 1, 2, 3, 9, 10], [7, 6, 5, 0, 4, 1, 2, 3, 11, 8, 9, 10], [6, 5, 0, 4, 1, 2, 3, 12, 7, 11, 8, 9, 10]] hmix ?_
  dsimp only
  repeat' first
    | (apply DW.nil; (focus (decide +kernel)))
    | (apply DW.toC; refine DWcall.go (And.intro amS.eq_1 (And.intro mmS.eq_1 (And.intro la (And.intro lb (And.intro lm (And.intro hx hy)))))) ?_) | (apply DW.toOp; refine DWop.go (And.intro amS.eq_1 (And.intro mmS.eq_1 (And.intro la (And.intro lb (And.intro lm (And.intro hx hy)))))) ?_) | (apply DW.toCG; first | refine DWcall.yes (And.intro amS.eq_1 (And.intro mmS.eq_1 (And.intro la (And.intro lb (And.intro lm (And.intro hx hy)))))) ?_ | refine DWcall.no (And.intro amS.eq_1 (And.intro mmS.eq_1 (And.intro la (And.intro lb (And.intro lm (And.intro hx hy)))))) ?_) | (apply DW.toG; first | refine DWop.yes (And.intro amS.eq_1 (And.intro mmS.eq_1 (And.intro la (And.intro lb (And.intro lm (And.intro hx hy)))))) ?_ | refine DWop.no (And.intro amS.eq_1 (And.intro mmS.eq_1 (And.intro la (And.intro lb (And.intro lm (And.intro hx hy)))))) ?_)
  repeat' first
    | refine W.seq ?_ | (refine W.regS G ?_; dsimp only) | refine SW.nil ?_ | refine thenQ_normal ?_ | refine W.skip ?_ | refine W.exit ?_ | refine thenQ_exit ?_ | refine inBlockQ_exit ?_ | refine inBlockQ_normal ?_ | refine W.block ?_
    | (apply SW.toC; refine SWcall.go (And.intro amS.eq_1 (And.intro mmS.eq_1 (And.intro la (And.intro lb (And.intro lm (And.intro hx hy)))))) ?_) | (apply SW.toOp; refine SWop.go (And.intro amS.eq_1 (And.intro mmS.eq_1 (And.intro la (And.intro lb (And.intro lm (And.intro hx hy)))))) ?_) | (apply SW.toCG; first | refine SWcall.yes (And.intro amS.eq_1 (And.intro mmS.eq_1 (And.intro la (And.intro lb (And.intro lm (And.intro hx hy)))))) ?_ | refine SWcall.no (And.intro amS.eq_1 (And.intro mmS.eq_1 (And.intro la (And.intro lb (And.intro lm (And.intro hx hy)))))) ?_) | (apply SW.toG; first | refine SWop.yes (And.intro amS.eq_1 (And.intro mmS.eq_1 (And.intro la (And.intro lb (And.intro lm (And.intro hx hy)))))) ?_ | refine SWop.no (And.intro amS.eq_1 (And.intro mmS.eq_1 (And.intro la (And.intro lb (And.intro lm (And.intro hx hy)))))) ?_)
  refine W.condZ G (And.intro amS.eq_1 (And.intro mmS.eq_1 (And.intro la (And.intro lb (And.intro lm (And.intro hx hy)))))) ?_ ?_
  all_goals intro hcc
  · exact absurd hcc (by decide)
  clear hcc
  by_cases hm : m = zeros 64 4
  · have h0 : wv m = 0 := by rw [hm]; exact wv_zero4
    have e1 := z1 h0
    have e2 := z2 h0
    clear hx hy f1 f2 z1 z2 r1 r2
    subst e1 e2 hm
    have d1 : (zeros 64 4 = zeros 64 4) = True := eq_true rfl
    repeat' first
      | refine W.seq ?_ | (refine W.regS G ?_; dsimp only) | refine SW.nil ?_ | refine thenQ_normal ?_ | refine W.skip ?_ | refine W.exit ?_ | refine thenQ_exit ?_ | refine inBlockQ_exit ?_ | refine inBlockQ_normal ?_ | refine W.block ?_
      | (apply SW.toC; refine SWcall.go (And.intro livesS.eq_1 d1) ?_) | (apply SW.toOp; refine SWop.go (And.intro livesS.eq_1 d1) ?_) | (apply SW.toCG; first | refine SWcall.yes (And.intro livesS.eq_1 d1) ?_ | refine SWcall.no (And.intro livesS.eq_1 d1) ?_) | (apply SW.toG; first | refine SWop.yes (And.intro livesS.eq_1 d1) ?_ | refine SWop.no (And.intro livesS.eq_1 d1) ?_)
    refine W.ret ?_
    repeat' first
      | refine thenQ_ret ?_
      | refine inBlockQ_ret ?_
    refine fin1Z (And.intro livesS.eq_1 d1) ?_
    exact leV_refl
  · have h0 : ¬ wv m = 0 := fun c => hm (by
      refine wv_inj lm rfl ?_
      rw [c]
      exact (wvk_zeros 4 4).symm)
    have e1 := f1 h0
    have e2 := f2 h0
    have d1 : (m = zeros 64 4) = False := eq_false hm
    clear f1 f2 z1 z2
    repeat' first
      | refine W.seq ?_ | (refine W.regS G ?_; dsimp only) | refine SW.nil ?_ | refine thenQ_normal ?_ | refine W.skip ?_ | refine W.exit ?_ | refine thenQ_exit ?_ | refine inBlockQ_exit ?_ | refine inBlockQ_normal ?_ | refine W.block ?_
      | (apply SW.toC; refine SWcall.go (And.intro CmpS.eq_1 (And.intro livesS.eq_1 (And.intro d1 (And.intro e1 e2)))) ?_) | (apply SW.toOp; refine SWop.go (And.intro CmpS.eq_1 (And.intro livesS.eq_1 (And.intro d1 (And.intro e1 e2)))) ?_) | (apply SW.toCG; first | refine SWcall.yes (And.intro CmpS.eq_1 (And.intro livesS.eq_1 (And.intro d1 (And.intro e1 e2)))) ?_ | refine SWcall.no (And.intro CmpS.eq_1 (And.intro livesS.eq_1 (And.intro d1 (And.intro e1 e2)))) ?_) | (apply SW.toG; first | refine SWop.yes (And.intro CmpS.eq_1 (And.intro livesS.eq_1 (And.intro d1 (And.intro e1 e2)))) ?_ | refine SWop.no (And.intro CmpS.eq_1 (And.intro livesS.eq_1 (And.intro d1 (And.intro e1 e2)))) ?_)
    refine W.ret ?_
    repeat' first
      | refine thenQ_ret ?_
      | refine inBlockQ_ret ?_
    refine fin1Z (And.intro CmpS.eq_1 (And.intro livesS.eq_1 (And.intro d1 (And.intro e1 e2)))) ?_
    exact leV_refl
end Go.Vm.C01
