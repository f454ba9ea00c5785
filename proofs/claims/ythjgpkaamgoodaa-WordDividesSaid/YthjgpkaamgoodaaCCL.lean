/- What some functions of the program compute, walked through once. -/
import Derived.Test.YthjgpkaamgoodaaCCK
namespace Go.Vm.C01
open Go Go.Proofs
set_option linter.unusedVariables false
set_option linter.unusedSimpArgs false
set_option maxRecDepth 100000
set_option maxHeartbeats 8000000

noncomputable def dividesS : FSpec := { run := fun ins => match ins with
  | [.agg 4 (.u 64 a), .agg 4 (.u 64 b)] => chk (a.length = 4 ∧ b.length = 4) (some (.b true, []))
  | _ => none }
theorem divides_sound : SoundFn Try.prog glB 11 dividesS.run := by
  have G := good_of (P := Try.prog) glB_ro (l := [(54, rDMS), (55, rSDMS), (56, DivS), (57, ModS), (58, SDivS), (59, SModS), (15, MulS), (14, AddS), (31, CmpS), (19, livesS)]) (by simp only [List.forall_mem_cons]; exact ⟨rDM_sound, rSDM_sound, Div_sound, Mod_sound, SDiv_sound, SMod_sound, Mul_sound, Add_sound, Cmp_sound, lives_sound, by simp⟩)
  refine soundFn_of_W G Try.func11 (by decide) rfl (by decide) ?_
  intro ins ret outs h
  unfold dividesS at h
  dsimp only at h
  split at h
  rotate_left
  · cases h
  rename_i a b
  obtain ⟨hl, h'⟩ := chk_some h
  clear h
  cases h'
  obtain ⟨la, lb⟩ := hl
  refine ⟨by show 2 ≤ 96; decide, fun w0 ext av => ?_⟩
  rw [Try.ntmps11, st0_eq]
  repeat' first
    | refine W.seq ?_ | (refine W.regS G ?_; dsimp only) | refine SW.nil ?_ | refine thenQ_normal ?_ | refine W.skip ?_ | refine W.exit ?_ | refine thenQ_exit ?_ | refine inBlockQ_exit ?_ | refine inBlockQ_normal ?_
    | (apply SW.toC; refine SWcall.go (And.intro rDMS.eq_1 (And.intro rSDMS.eq_1 (And.intro la lb))) ?_) | (apply SW.toOp; refine SWop.go (And.intro rDMS.eq_1 (And.intro rSDMS.eq_1 (And.intro la lb))) ?_) | (apply SW.toCG; first | refine SWcall.yes (And.intro rDMS.eq_1 (And.intro rSDMS.eq_1 (And.intro la lb))) ?_ | refine SWcall.no (And.intro rDMS.eq_1 (And.intro rSDMS.eq_1 (And.intro la lb))) ?_) | (apply SW.toG; first | refine SWop.yes (And.intro rDMS.eq_1 (And.intro rSDMS.eq_1 (And.intro la lb))) ?_ | refine SWop.no (And.intro rDMS.eq_1 (And.intro rSDMS.eq_1 (And.intro la lb))) ?_)
  refine W.drawS G [[], [], [0, 1], [], [2, 0, 1, 3], [4, 2, 0, 1, 3], [5, 4, 2, 0, 1, 3], [5, 4, 2, 0, 1, 3], [6, 5, 4, 2, 0, 1, 3, 7], [5, 4, 2, 0, 1, 3], [8, 6, 5, 4, 2, 0, 1, 3, 7, 9], [5, 4, 2, 0, 1, 3, 10, 8, 6, 7, 9], [11, 5, 4, 2, 0, 1, 3, 10, 8, 6, 7, 9], [12, 11, 5, 4, 2, 0, 1, 3, 10, 8, 6, 7, 9], [12, 11, 5, 4, 2, 0, 1, 3, 10, 8, 6, 7, 9], [13, 12, 11, 5, 4, 2, 0, 1, 3, 10, 8, 6, 7, 9, 14], [12, 11, 5, 4, 2, 0, 1, 3, 10, 8, 6, 7, 9], [15, 13, 12, 11, 5, 4, 2, 0, 1, 3, 10, 8, 6, 7, 9, 14, 16], [12, 11, 5, 4, 2, 0, 1, 3, 10, 8, 6, 7, 9, 17, 15, 13, 14, 16], [18, 12, 11, 5, 4, 2, 0, 1, 3, 10, 8, 6, 7, 9, 17, 15, 13, 14, 16], [19, 18, 12, 11, 5, 4, 2, 0, 1, 3, 10, 8, 6, 7, 9, 17, 15, 13, 14, 16], [19, 18, 12, 11, 5, 4, 2, 0, 1, 3, 10, 8, 6, 7, 9, 17, 15, 13, 14, 16], [20, 19, 18, 12, 11, 5, 4, 2, 0, 1, 3, 10, 8, 6, 7, 9, 17, 15, 13, 14, 16, 21], [19, 18, 12, 11, 5, 4, 2, 0, 1, 3, 10, 8, 6, 7, 9, 17, 15, 13, 14, 16], [22, 20, 19, 18, 12, 11, 5, 4, 2, 0, 1, 3, 10, 8, 6, 7, 9, 17, 15, 13, 14, 16, 21, 23], [19, 18, 12, 11, 5, 4, 2, 0, 1, 3, 10, 8, 6, 7, 9, 17, 15, 13, 14, 16, 24, 22, 20, 21, 23]] hmix ?_
  dsimp only
  repeat' first
    | (apply DW.nil; (focus (decide +kernel)))
    | (apply DW.toC; refine DWcall.go (And.intro DivS.eq_1 (And.intro ModS.eq_1 (And.intro SDivS.eq_1 (And.intro SModS.eq_1 (And.intro la lb))))) ?_) | (apply DW.toOp; refine DWop.go (And.intro DivS.eq_1 (And.intro ModS.eq_1 (And.intro SDivS.eq_1 (And.intro SModS.eq_1 (And.intro la lb))))) ?_) | (apply DW.toCG; first | refine DWcall.yes (And.intro DivS.eq_1 (And.intro ModS.eq_1 (And.intro SDivS.eq_1 (And.intro SModS.eq_1 (And.intro la lb))))) ?_ | refine DWcall.no (And.intro DivS.eq_1 (And.intro ModS.eq_1 (And.intro SDivS.eq_1 (And.intro SModS.eq_1 (And.intro la lb))))) ?_) | (apply DW.toG; first | refine DWop.yes (And.intro DivS.eq_1 (And.intro ModS.eq_1 (And.intro SDivS.eq_1 (And.intro SModS.eq_1 (And.intro la lb))))) ?_ | refine DWop.no (And.intro DivS.eq_1 (And.intro ModS.eq_1 (And.intro SDivS.eq_1 (And.intro SModS.eq_1 (And.intro la lb))))) ?_)
  repeat' first
    | refine W.seq ?_ | (refine W.regS G ?_; dsimp only) | refine SW.nil ?_ | refine thenQ_normal ?_ | refine W.skip ?_ | refine W.exit ?_ | refine thenQ_exit ?_ | refine inBlockQ_exit ?_ | refine inBlockQ_normal ?_ | refine W.block ?_
    | (apply SW.toC; refine SWcall.go (And.intro DivS.eq_1 (And.intro ModS.eq_1 (And.intro SDivS.eq_1 (And.intro SModS.eq_1 (And.intro la lb))))) ?_) | (apply SW.toOp; refine SWop.go (And.intro DivS.eq_1 (And.intro ModS.eq_1 (And.intro SDivS.eq_1 (And.intro SModS.eq_1 (And.intro la lb))))) ?_) | (apply SW.toCG; first | refine SWcall.yes (And.intro DivS.eq_1 (And.intro ModS.eq_1 (And.intro SDivS.eq_1 (And.intro SModS.eq_1 (And.intro la lb))))) ?_ | refine SWcall.no (And.intro DivS.eq_1 (And.intro ModS.eq_1 (And.intro SDivS.eq_1 (And.intro SModS.eq_1 (And.intro la lb))))) ?_) | (apply SW.toG; first | refine SWop.yes (And.intro DivS.eq_1 (And.intro ModS.eq_1 (And.intro SDivS.eq_1 (And.intro SModS.eq_1 (And.intro la lb))))) ?_ | refine SWop.no (And.intro DivS.eq_1 (And.intro ModS.eq_1 (And.intro SDivS.eq_1 (And.intro SModS.eq_1 (And.intro la lb))))) ?_)
  refine W.condZ G (And.intro DivS.eq_1 (And.intro ModS.eq_1 (And.intro SDivS.eq_1 (And.intro SModS.eq_1 (And.intro la lb))))) ?_ ?_
  all_goals intro k1
  · exact absurd k1 (by decide)
  repeat' first
    | refine W.seq ?_ | (refine W.regS G ?_; dsimp only) | refine SW.nil ?_ | refine thenQ_normal ?_ | refine W.skip ?_ | refine W.exit ?_ | refine thenQ_exit ?_ | refine inBlockQ_exit ?_ | refine inBlockQ_normal ?_ | refine W.block ?_
    | (apply SW.toC; refine SWcall.go True.intro ?_) | (apply SW.toOp; refine SWop.go True.intro ?_) | (apply SW.toCG; first | refine SWcall.yes True.intro ?_ | refine SWcall.no True.intro ?_) | (apply SW.toG; first | refine SWop.yes True.intro ?_ | refine SWop.no True.intro ?_)
  refine W.condZ G True.intro ?_ ?_
  all_goals intro k2
  · have hb : b = zeros 64 4 := yes_of k2
    subst hb
    clear k2 k1
    obtain ⟨e3, e4⟩ := sd_zero (a := a) (b := zeros 64 4) wv_zero4
    have e1 : wOf (wv a / wv (zeros 64 4)) = zeros 64 4 := by rw [wv_zero4, Nat.div_zero, zeros_wOf]
    have e2 : wOf (wmod (wv a) (wv (zeros 64 4))) = zeros 64 4 := by
      rw [wv_zero4]
      exact zeros_wOf.symm
    repeat' first
      | refine W.seq ?_ | (refine W.regS G ?_; dsimp only) | refine SW.nil ?_ | refine thenQ_normal ?_ | refine W.skip ?_ | refine W.exit ?_ | refine thenQ_exit ?_ | refine inBlockQ_exit ?_ | refine inBlockQ_normal ?_ | refine W.block ?_
      | (apply SW.toC; refine SWcall.go (And.intro e1 (And.intro e2 (And.intro e3 (And.intro e4 livesS.eq_1)))) ?_) | (apply SW.toOp; refine SWop.go (And.intro e1 (And.intro e2 (And.intro e3 (And.intro e4 livesS.eq_1)))) ?_) | (apply SW.toCG; first | refine SWcall.yes (And.intro e1 (And.intro e2 (And.intro e3 (And.intro e4 livesS.eq_1)))) ?_ | refine SWcall.no (And.intro e1 (And.intro e2 (And.intro e3 (And.intro e4 livesS.eq_1)))) ?_) | (apply SW.toG; first | refine SWop.yes (And.intro e1 (And.intro e2 (And.intro e3 (And.intro e4 livesS.eq_1)))) ?_ | refine SWop.no (And.intro e1 (And.intro e2 (And.intro e3 (And.intro e4 livesS.eq_1)))) ?_)
    refine W.ret ?_
    repeat' first
      | refine thenQ_ret ?_
      | refine inBlockQ_ret ?_
    refine fin1Z (And.intro e1 (And.intro e2 (And.intro e3 (And.intro e4 livesS.eq_1)))) ?_
    exact leV_refl
  have hb : ¬ wv b = 0 := fun c => no_of k2 (by
    refine wv_inj lb rfl ?_
    rw [c]
    exact (wvk_zeros 4 4).symm)
  have f1 := back_u a b la hb
  have f3 := back_s a b la hb
  have wr : wv (wOf (wmod (wv a) (wv b))) < wv b := by
    have hM : wmod (wv a) (wv b) = wv a % wv b := if_neg hb
    have h1 := Nat.mod_lt (wv a) (Nat.pos_of_ne_zero hb)
    have h2 := wv_lt b
    rw [hM, wv_wOf, Nat.mod_eq_of_lt (by omega)]
    exact h1
  have f2 : decide (cmpI (wv (wOf (wmod (wv a) (wv b)))) (wv b) < 0) = true := by
    rw [cmpI_lt]
    exact decide_eq_true wr
  have hg := cmpI_range (wv (wOf (wmod (wv a) (wv b)))) (wv b)
  repeat' first
    | refine W.seq ?_ | (refine W.regS G ?_; dsimp only) | refine SW.nil ?_ | refine thenQ_normal ?_ | refine W.skip ?_ | refine W.exit ?_ | refine thenQ_exit ?_ | refine inBlockQ_exit ?_ | refine inBlockQ_normal ?_
    | (apply SW.toC; refine SWcall.go (And.intro MulS.eq_1 (And.intro AddS.eq_1 (And.intro CmpS.eq_1 (And.intro livesS.eq_1 (And.intro la (And.intro lb (And.intro f1 (And.intro f2 f3)))))))) ?_) | (apply SW.toOp; refine SWop.go (And.intro MulS.eq_1 (And.intro AddS.eq_1 (And.intro CmpS.eq_1 (And.intro livesS.eq_1 (And.intro la (And.intro lb (And.intro f1 (And.intro f2 f3)))))))) ?_) | (apply SW.toCG; first | refine SWcall.yes (And.intro MulS.eq_1 (And.intro AddS.eq_1 (And.intro CmpS.eq_1 (And.intro livesS.eq_1 (And.intro la (And.intro lb (And.intro f1 (And.intro f2 f3)))))))) ?_ | refine SWcall.no (And.intro MulS.eq_1 (And.intro AddS.eq_1 (And.intro CmpS.eq_1 (And.intro livesS.eq_1 (And.intro la (And.intro lb (And.intro f1 (And.intro f2 f3)))))))) ?_) | (apply SW.toG; first | refine SWop.yes (And.intro MulS.eq_1 (And.intro AddS.eq_1 (And.intro CmpS.eq_1 (And.intro livesS.eq_1 (And.intro la (And.intro lb (And.intro f1 (And.intro f2 f3)))))))) ?_ | refine SWop.no (And.intro MulS.eq_1 (And.intro AddS.eq_1 (And.intro CmpS.eq_1 (And.intro livesS.eq_1 (And.intro la (And.intro lb (And.intro f1 (And.intro f2 f3)))))))) ?_)
  refine W.drawS G [[], [], [0, 1], [], [2, 0, 1, 3], [], [4, 2, 0, 1, 3, 5], [6, 4, 2, 0, 1, 3, 5], [7, 6, 4, 2, 0, 1, 3, 5], [7, 6, 4, 2, 0, 1, 3, 5], [8, 7, 6, 4, 2, 0, 1, 3, 5, 9], [10, 8, 7, 6, 4, 2, 0, 1, 3, 5, 9], [7, 6, 4, 2, 0, 1, 3, 5, 11, 10, 8, 9], [12, 7, 6, 4, 2, 0, 1, 3, 5, 11, 10, 8, 9], [13, 12, 7, 6, 4, 2, 0, 1, 3, 5, 11, 10, 8, 9], [13, 12, 7, 6, 4, 2, 0, 1, 3, 5, 11, 10, 8, 9], [14, 13, 12, 7, 6, 4, 2, 0, 1, 3, 5, 11, 10, 8, 9, 15], [13, 12, 7, 6, 4, 2, 0, 1, 3, 5, 11, 10, 8, 9], [16, 14, 13, 12, 7, 6, 4, 2, 0, 1, 3, 5, 11, 10, 8, 9, 15, 17], [13, 12, 7, 6, 4, 2, 0, 1, 3, 5, 11, 10, 8, 9], [18, 16, 14, 13, 12, 7, 6, 4, 2, 0, 1, 3, 5, 11, 10, 8, 9, 15, 17, 19], [13, 12, 7, 6, 4, 2, 0, 1, 3, 5, 11, 10, 8, 9, 20, 18, 16, 14, 15, 17, 19], [21, 13, 12, 7, 6, 4, 2, 0, 1, 3, 5, 11, 10, 8, 9, 20, 18, 16, 14, 15, 17, 19], [22, 21, 13, 12, 7, 6, 4, 2, 0, 1, 3, 5, 11, 10, 8, 9, 20, 18, 16, 14, 15, 17, 19], [22, 21, 13, 12, 7, 6, 4, 2, 0, 1, 3, 5, 11, 10, 8, 9, 20, 18, 16, 14, 15, 17, 19, 23], [24, 22, 21, 13, 12, 7, 6, 4, 2, 0, 1, 3, 5, 11, 10, 8, 9, 20, 18, 16, 14, 15, 17, 19, 23]] hmix ?_
  dsimp only
  repeat' first
    | (apply DW.nil; (focus (decide +kernel)))
    | (apply DW.toC; refine DWcall.go (And.intro MulS.eq_1 (And.intro AddS.eq_1 (And.intro CmpS.eq_1 (And.intro livesS.eq_1 (And.intro la (And.intro lb (And.intro f1 (And.intro f2 f3)))))))) ?_) | (apply DW.toOp; refine DWop.go (And.intro MulS.eq_1 (And.intro AddS.eq_1 (And.intro CmpS.eq_1 (And.intro livesS.eq_1 (And.intro la (And.intro lb (And.intro f1 (And.intro f2 f3)))))))) ?_) | (apply DW.toCG; first | refine DWcall.yes (And.intro MulS.eq_1 (And.intro AddS.eq_1 (And.intro CmpS.eq_1 (And.intro livesS.eq_1 (And.intro la (And.intro lb (And.intro f1 (And.intro f2 f3)))))))) ?_ | refine DWcall.no (And.intro MulS.eq_1 (And.intro AddS.eq_1 (And.intro CmpS.eq_1 (And.intro livesS.eq_1 (And.intro la (And.intro lb (And.intro f1 (And.intro f2 f3)))))))) ?_) | (apply DW.toG; first | refine DWop.yes (And.intro MulS.eq_1 (And.intro AddS.eq_1 (And.intro CmpS.eq_1 (And.intro livesS.eq_1 (And.intro la (And.intro lb (And.intro f1 (And.intro f2 f3)))))))) ?_ | refine DWop.no (And.intro MulS.eq_1 (And.intro AddS.eq_1 (And.intro CmpS.eq_1 (And.intro livesS.eq_1 (And.intro la (And.intro lb (And.intro f1 (And.intro f2 f3)))))))) ?_)
  repeat' first
    | refine W.seq ?_ | (refine W.regS G ?_; dsimp only) | refine SW.nil ?_ | refine thenQ_normal ?_ | refine W.skip ?_ | refine W.exit ?_ | refine thenQ_exit ?_ | refine inBlockQ_exit ?_ | refine inBlockQ_normal ?_ | refine W.block ?_
    | (apply SW.toC; refine SWcall.go (And.intro MulS.eq_1 (And.intro AddS.eq_1 (And.intro CmpS.eq_1 (And.intro livesS.eq_1 (And.intro la (And.intro lb (And.intro f1 (And.intro f2 f3)))))))) ?_) | (apply SW.toOp; refine SWop.go (And.intro MulS.eq_1 (And.intro AddS.eq_1 (And.intro CmpS.eq_1 (And.intro livesS.eq_1 (And.intro la (And.intro lb (And.intro f1 (And.intro f2 f3)))))))) ?_) | (apply SW.toCG; first | refine SWcall.yes (And.intro MulS.eq_1 (And.intro AddS.eq_1 (And.intro CmpS.eq_1 (And.intro livesS.eq_1 (And.intro la (And.intro lb (And.intro f1 (And.intro f2 f3)))))))) ?_ | refine SWcall.no (And.intro MulS.eq_1 (And.intro AddS.eq_1 (And.intro CmpS.eq_1 (And.intro livesS.eq_1 (And.intro la (And.intro lb (And.intro f1 (And.intro f2 f3)))))))) ?_) | (apply SW.toG; first | refine SWop.yes (And.intro MulS.eq_1 (And.intro AddS.eq_1 (And.intro CmpS.eq_1 (And.intro livesS.eq_1 (And.intro la (And.intro lb (And.intro f1 (And.intro f2 f3)))))))) ?_ | refine SWop.no (And.intro MulS.eq_1 (And.intro AddS.eq_1 (And.intro CmpS.eq_1 (And.intro livesS.eq_1 (And.intro la (And.intro lb (And.intro f1 (And.intro f2 f3)))))))) ?_)
  refine W.ret ?_
  repeat' first
    | refine thenQ_ret ?_
    | refine inBlockQ_ret ?_
  refine fin1Z (And.intro MulS.eq_1 (And.intro AddS.eq_1 (And.intro CmpS.eq_1 (And.intro livesS.eq_1 (And.intro la (And.intro lb (And.intro f1 (And.intro f2 f3)))))))) ?_
  exact leV_refl
end Go.Vm.C01
