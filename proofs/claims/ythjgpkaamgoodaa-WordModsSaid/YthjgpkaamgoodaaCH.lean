/- What some functions of the program compute, walked through once. -/
import Derived.Test.YthjgpkaamgoodaaCG
namespace Go.Vm.C01
open Go Go.Proofs
set_option linter.unusedVariables false
set_option linter.unusedSimpArgs false
set_option maxRecDepth 100000
set_option maxHeartbeats 8000000

def one1 (a : List (BitVec 64)) : Prop := a.length = 4 ∧ a.getD 1 0 = 0 ∧ a.getD 2 0 = 0 ∧ a.getD 3 0 = 0
theorem one1_eq {a : List (BitVec 64)} (h : one1 a) : a = [a.getD 0 0, 0#64, 0#64, 0#64] := by
  obtain ⟨x, y, z, t, rfl⟩ := len4 a h.1
  obtain ⟨_, h1, h2, h3⟩ := h
  have e1 : y = 0 := h1
  have e2 : z = 0 := h2
  have e3 : t = 0 := h3
  subst e1; subst e2; subst e3
  rfl
theorem one1_wv {a : List (BitVec 64)} (h : one1 a) : wv a = (a.getD 0 0).toNat := by
  rw [one1_eq h, wv_four]
  simp
noncomputable def divzS : FSpec := { run := fun ins => match ins with
  | [.agg 4 (.u 64 a), .agg 4 (.u 64 b)] => chk (one1 a ∧ one1 b ∧ b.getD 0 0 ≠ 0) (some (.tup [.agg 4 (.u 64 (wOf (wv a / wv b))), .agg 4 (.u 64 (wOf (wv a % wv b)))], []))
  | _ => none }
def dqF (x y : BitVec 64) (k : Nat) : List (BitVec 64) := if k = 0 then [x / y, 0#64, 0#64, 0#64] else zeros 64 4
def drF (x y : BitVec 64) (k : Nat) : BitVec 64 := if k = 0 then x % y else 0#64
theorem zdiv (y : BitVec 64) : (0 : BitVec 64) / y = 0 := BitVec.eq_of_toNat_eq (by rw [BitVec.toNat_udiv]; exact Nat.zero_div _)
theorem zmod (y : BitVec 64) : (0 : BitVec 64) % y = 0 := BitVec.eq_of_toNat_eq (by rw [BitVec.toNat_umod]; exact Nat.zero_mod _)
theorem dq_step (x y : BitVec 64) (j : Nat) (hj : j < 4) : (dqF x y (j + 1)).set j ([x, 0#64, 0#64, 0#64].getD j 0 / y) = dqF x y j ∧ [x, 0#64, 0#64, 0#64].getD j 0 % y = drF x y j := by
  have z1 := zdiv y
  have z2 := zmod y
  match j, hj with
  | 0, _ => exact ⟨rfl, rfl⟩
  | 1, _ => exact ⟨by show (zeros 64 4).set 1 (0 / y) = zeros 64 4; rw [z1]; rfl, z2⟩
  | 2, _ => exact ⟨by show (zeros 64 4).set 2 (0 / y) = zeros 64 4; rw [z1]; rfl, z2⟩
  | 3, _ => exact ⟨by show (zeros 64 4).set 3 (0 / y) = zeros 64 4; rw [z1]; rfl, z2⟩
theorem divZ_sound : SoundFn Try.prog glB 80 divzS.run := by
  have G := good_of (P := Try.prog) glB_ro (l := [(69, cmprS), (93, div64zS)]) (by simp only [List.forall_mem_cons]; exact ⟨cmpr_sound, div64Z_sound, by simp⟩)
  refine soundFn_of_W G Try.func80 (by decide) rfl (by decide) ?_
  intro ins ret outs h
  unfold divzS at h
  dsimp only at h
  split at h
  rotate_left
  · cases h
  rename_i a b
  obtain ⟨hl, h'⟩ := chk_some h
  clear h
  cases h'
  obtain ⟨ha, hb, hy⟩ := hl
  have wa := one1_wv ha
  have wb := one1_wv hb
  have ea := one1_eq ha
  have eb := one1_eq hb
  refine ⟨by show 2 ≤ 60; decide, fun w0 ext av => ?_⟩
  rw [Try.ntmps80, st0_eq]
  have hz : ¬ b = zeros 64 4 := fun c => hy (by rw [c]; rfl)
  have hr : -1 ≤ cmpI (wv a) (wv b) ∧ cmpI (wv a) (wv b) ≤ 1 := by unfold cmpI; split <;> (try split) <;> omega
  repeat' first
    | refine W.seq ?_ | (refine W.regS G ?_; dsimp only) | refine SW.nil ?_ | refine thenQ_normal ?_ | refine W.skip ?_ | refine W.exit ?_ | refine thenQ_exit ?_ | refine inBlockQ_exit ?_ | refine inBlockQ_normal ?_ | refine W.block ?_
    | (apply SW.toC; refine SWcall.go True.intro ?_) | (apply SW.toOp; refine SWop.go True.intro ?_) | (apply SW.toCG; first | refine SWcall.yes True.intro ?_ | refine SWcall.no True.intro ?_) | (apply SW.toG; first | refine SWop.yes True.intro ?_ | refine SWop.no True.intro ?_)
  refine W.condZ G True.intro ?_ ?_
  all_goals intro h1
  · exact absurd (yes_of h1) hz
  repeat' first
    | refine W.seq ?_ | (refine W.regS G ?_; dsimp only) | refine SW.nil ?_ | refine thenQ_normal ?_ | refine W.skip ?_ | refine W.exit ?_ | refine thenQ_exit ?_ | refine inBlockQ_exit ?_ | refine inBlockQ_normal ?_ | refine W.block ?_
    | (apply SW.toC; refine SWcall.go cmprS.eq_1 ?_) | (apply SW.toOp; refine SWop.go cmprS.eq_1 ?_) | (apply SW.toCG; first | refine SWcall.yes cmprS.eq_1 ?_ | refine SWcall.no cmprS.eq_1 ?_) | (apply SW.toG; first | refine SWop.yes cmprS.eq_1 ?_ | refine SWop.no cmprS.eq_1 ?_)
  refine W.condZ G cmprS.eq_1 ?_ ?_
  all_goals intro h2
  · have h2' := of_decide_eq_true h2
    have hlt : wv a < wv b := by
      unfold cmpI at h2'
      split at h2'
      · assumption
      · split at h2' <;> omega
    have q1 : wOf (wv a / wv b) = zeros 64 4 := by rw [Nat.div_eq_of_lt hlt]; rfl
    have q2 : wOf (wv a % wv b) = a := by rw [Nat.mod_eq_of_lt hlt]; exact wOf_wv a ha.1
    rw [q1, q2]
    repeat' first
      | refine W.seq ?_ | (refine W.regS G ?_; dsimp only) | refine SW.nil ?_ | refine thenQ_normal ?_ | refine W.skip ?_ | refine W.exit ?_ | refine thenQ_exit ?_ | refine inBlockQ_exit ?_ | refine inBlockQ_normal ?_
      | (apply SW.toC; refine SWcall.go True.intro ?_) | (apply SW.toOp; refine SWop.go True.intro ?_) | (apply SW.toCG; first | refine SWcall.yes True.intro ?_ | refine SWcall.no True.intro ?_) | (apply SW.toG; first | refine SWop.yes True.intro ?_ | refine SWop.no True.intro ?_)
    refine W.drawS G [[], [], [0], [1, 2, 0]] hmix ?_
    dsimp only
    repeat' first
      | (apply DW.nil; (focus (decide +kernel)))
      | (apply DW.toC; refine DWcall.go True.intro ?_) | (apply DW.toOp; refine DWop.go True.intro ?_) | (apply DW.toCG; first | refine DWcall.yes True.intro ?_ | refine DWcall.no True.intro ?_) | (apply DW.toG; first | refine DWop.yes True.intro ?_ | refine DWop.no True.intro ?_)
    repeat' first
      | refine W.seq ?_ | (refine W.regS G ?_; dsimp only) | refine SW.nil ?_ | refine thenQ_normal ?_ | refine W.skip ?_ | refine W.exit ?_ | refine thenQ_exit ?_ | refine inBlockQ_exit ?_ | refine inBlockQ_normal ?_ | refine W.block ?_
      | (apply SW.toC; refine SWcall.go True.intro ?_) | (apply SW.toOp; refine SWop.go True.intro ?_) | (apply SW.toCG; first | refine SWcall.yes True.intro ?_ | refine SWcall.no True.intro ?_) | (apply SW.toG; first | refine SWop.yes True.intro ?_ | refine SWop.no True.intro ?_)
    refine W.ret ?_
    repeat' first
      | refine thenQ_ret ?_
      | refine inBlockQ_ret ?_
    refine fin2Z True.intro ?_ ?_
    · exact leV_refl
    · exact leV_refl
  have q1 : wOf (wv a / wv b) = dqF (a.getD 0 0) (b.getD 0 0) 0 := by
    rw [wa, wb, ← BitVec.toNat_udiv]
    exact (wOf_small _).symm
  have q2 : wOf (wv a % wv b) = [drF (a.getD 0 0) (b.getD 0 0) 0, 0#64, 0#64, 0#64] := by
    rw [wa, wb, ← BitVec.toNat_umod]
    exact (wOf_small _).symm
  rw [q1, q2]
  have hb3 : b.getD 1 0 ||| b.getD 2 0 ||| b.getD 3 0 = 0 := by rw [hb.2.1, hb.2.2.1, hb.2.2.2]; rfl
  repeat' first
    | refine W.seq ?_ | (refine W.regS G ?_; dsimp only) | refine SW.nil ?_ | refine thenQ_normal ?_ | refine W.skip ?_ | refine W.exit ?_ | refine thenQ_exit ?_ | refine inBlockQ_exit ?_ | refine inBlockQ_normal ?_ | refine W.block ?_
    | (apply SW.toC; refine SWcall.go True.intro ?_) | (apply SW.toOp; refine SWop.go True.intro ?_) | (apply SW.toCG; first | refine SWcall.yes True.intro ?_ | refine SWcall.no True.intro ?_) | (apply SW.toG; first | refine SWop.yes True.intro ?_ | refine SWop.no True.intro ?_)
  refine W.condZ G True.intro ?_ ?_
  all_goals intro h3
  · generalize hx : a.getD 0 0 = x at ea
    generalize hyy : b.getD 0 0 = y at hy
    repeat' first
      | refine W.seq ?_ | (refine W.regS G ?_; dsimp only) | refine SW.nil ?_ | refine thenQ_normal ?_ | refine W.skip ?_ | refine W.exit ?_ | refine thenQ_exit ?_ | refine inBlockQ_exit ?_ | refine inBlockQ_normal ?_ | refine W.block ?_
      | (apply SW.toC; refine SWcall.go hyy ?_) | (apply SW.toOp; refine SWop.go hyy ?_) | (apply SW.toCG; first | refine SWcall.yes hyy ?_ | refine SWcall.no hyy ?_) | (apply SW.toG; first | refine SWop.yes hyy ?_ | refine SWop.no hyy ?_)
    refine W.loopI (ι := {k : Nat // k ≤ 4}) (fun k => sL [(2, .p 2 0 0 0), (3, .p 3 0 0 0), (4, .p 4 0 0 0), (5, .p 5 0 0 0), (6, .p 6 0 0 0), (7, .u 64 (drF x y k.1)), (8, .i ((k.1 : Int) - 1))] [(2, .agg 4 (.u 64 a)), (3, .agg 4 (.u 64 b)), (4, .agg 4 (.u 64 (zeros 64 4))), (5, .agg 4 (.u 64 (zeros 64 4))), (6, .agg 4 (.u 64 (dqF x y k.1)))] 60) (fun k => k.1) ⟨4, Nat.le_refl _⟩ (Imp.le ?_) ?_
    · have e0 : drF x y 4 = 0#64 := rfl
      have e1 : dqF x y 4 = zeros 64 4 := rfl
      exact sL_leZ (And.intro e0 (And.intro e1 hyy))
    rintro ⟨k, hk⟩
    have lq : (dqF x y k).length = 4 := by unfold dqF; split <;> rfl
    repeat' first
      | refine W.seq ?_ | (refine W.regS G ?_; dsimp only) | refine SW.nil ?_ | refine thenQ_normal ?_ | refine W.skip ?_ | refine W.exit ?_ | refine thenQ_exit ?_ | refine inBlockQ_exit ?_ | refine inBlockQ_normal ?_ | refine W.block ?_
      | (apply SW.toC; refine SWcall.go lq ?_) | (apply SW.toOp; refine SWop.go lq ?_) | (apply SW.toCG; first | refine SWcall.yes lq ?_ | refine SWcall.no lq ?_) | (apply SW.toG; first | refine SWop.yes lq ?_ | refine SWop.no lq ?_)
    refine W.condZ G lq ?_ ?_
    all_goals intro ht
    · have ht' := of_decide_eq_true ht
      obtain ⟨j, rfl⟩ : ∃ j, k = j + 1 := ⟨k - 1, by omega⟩
      have ej : (((j + 1 : Nat) : Int) - 1) = (j : Int) := by omega
      obtain ⟨s1, s2⟩ := dq_step x y j (by omega)
      rw [← ea] at s1 s2
      have z0 : drF x y (j + 1) = 0 := rfl
      generalize drF x y (j + 1) = r at z0
      generalize dqF x y (j + 1) = q at s1 lq
      subst z0
      repeat' first
        | refine W.seq ?_ | (refine W.regS G ?_; dsimp only) | refine SW.nil ?_ | refine thenQ_normal ?_ | refine W.skip ?_ | refine W.exit ?_ | refine thenQ_exit ?_ | refine inBlockQ_exit ?_ | refine inBlockQ_normal ?_
        | (apply SW.toC; refine SWcall.go (And.intro ej (And.intro lq (And.intro div64zS.eq_1 hyy))) ?_) | (apply SW.toOp; refine SWop.go (And.intro ej (And.intro lq (And.intro div64zS.eq_1 hyy))) ?_) | (apply SW.toCG; first | refine SWcall.yes (And.intro ej (And.intro lq (And.intro div64zS.eq_1 hyy))) ?_ | refine SWcall.no (And.intro ej (And.intro lq (And.intro div64zS.eq_1 hyy))) ?_) | (apply SW.toG; first | refine SWop.yes (And.intro ej (And.intro lq (And.intro div64zS.eq_1 hyy))) ?_ | refine SWop.no (And.intro ej (And.intro lq (And.intro div64zS.eq_1 hyy))) ?_)
      refine W.block ?_
      repeat' first
        | refine W.seq ?_ | (refine W.regS G ?_; dsimp only) | refine SW.nil ?_ | refine thenQ_normal ?_ | refine W.skip ?_ | refine W.exit ?_ | refine thenQ_exit ?_ | refine inBlockQ_exit ?_ | refine inBlockQ_normal ?_
        | (apply SW.toC; refine SWcall.go (And.intro ej (And.intro lq (And.intro div64zS.eq_1 hyy))) ?_) | (apply SW.toOp; refine SWop.go (And.intro ej (And.intro lq (And.intro div64zS.eq_1 hyy))) ?_) | (apply SW.toCG; first | refine SWcall.yes (And.intro ej (And.intro lq (And.intro div64zS.eq_1 hyy))) ?_ | refine SWcall.no (And.intro ej (And.intro lq (And.intro div64zS.eq_1 hyy))) ?_) | (apply SW.toG; first | refine SWop.yes (And.intro ej (And.intro lq (And.intro div64zS.eq_1 hyy))) ?_ | refine SWop.no (And.intro ej (And.intro lq (And.intro div64zS.eq_1 hyy))) ?_)
      refine W.drawS G [[], [], [], [2], [3, 2], [], [5], [1, 4, 3, 2, 6, 5], [7, 1, 4, 3, 2, 6, 5], [8, 7, 1, 4, 3, 2, 6, 5], [8, 7, 1, 4, 3, 2, 6, 5], [0, 1, 2, 3, 4, 5, 6, 7, 8, 9], [11, 0, 1, 2, 3, 4, 5, 6, 7, 8, 9], [10, 8, 7, 1, 4, 3, 2, 6, 5, 12, 11, 0, 9]] hmix ?_
      dsimp only
      repeat' first
        | (apply DW.nil; (focus (decide +kernel)))
        | (apply DW.toC; refine DWcall.go (And.intro ej (And.intro lq (And.intro div64zS.eq_1 (And.intro hyy hy)))) ?_) | (apply DW.toOp; refine DWop.go (And.intro ej (And.intro lq (And.intro div64zS.eq_1 (And.intro hyy hy)))) ?_) | (apply DW.toCG; first | refine DWcall.yes (And.intro ej (And.intro lq (And.intro div64zS.eq_1 (And.intro hyy hy)))) ?_ | refine DWcall.no (And.intro ej (And.intro lq (And.intro div64zS.eq_1 (And.intro hyy hy)))) ?_) | (apply DW.toG; first | refine DWop.yes (And.intro ej (And.intro lq (And.intro div64zS.eq_1 (And.intro hyy hy)))) ?_ | refine DWop.no (And.intro ej (And.intro lq (And.intro div64zS.eq_1 (And.intro hyy hy)))) ?_)
      repeat' first
        | refine W.seq ?_ | (refine W.regS G ?_; dsimp only) | refine SW.nil ?_ | refine thenQ_normal ?_ | refine W.skip ?_ | refine W.exit ?_ | refine thenQ_exit ?_ | refine inBlockQ_exit ?_ | refine inBlockQ_normal ?_ | refine W.block ?_
        | (apply SW.toC; refine SWcall.go (And.intro ej (And.intro lq (And.intro div64zS.eq_1 hyy))) ?_) | (apply SW.toOp; refine SWop.go (And.intro ej (And.intro lq (And.intro div64zS.eq_1 hyy))) ?_) | (apply SW.toCG; first | refine SWcall.yes (And.intro ej (And.intro lq (And.intro div64zS.eq_1 hyy))) ?_ | refine SWcall.no (And.intro ej (And.intro lq (And.intro div64zS.eq_1 hyy))) ?_) | (apply SW.toG; first | refine SWop.yes (And.intro ej (And.intro lq (And.intro div64zS.eq_1 hyy))) ?_ | refine SWop.no (And.intro ej (And.intro lq (And.intro div64zS.eq_1 hyy))) ?_)
      refine ⟨⟨j, by omega⟩, Imp.le ?_, by show j < j + 1; omega⟩
      exact sL_leZ (And.intro s1 (And.intro s2 (And.intro ej (And.intro lq (And.intro div64zS.eq_1 hyy)))))
    have ht' := of_decide_eq_false ht
    obtain rfl : k = 0 := by omega
    repeat' first
      | refine W.seq ?_ | (refine W.regS G ?_; dsimp only) | refine SW.nil ?_ | refine thenQ_normal ?_ | refine W.skip ?_ | refine W.exit ?_ | refine thenQ_exit ?_ | refine inBlockQ_exit ?_ | refine inBlockQ_normal ?_ | refine W.block ?_
      | (apply SW.toC; refine SWcall.go lq ?_) | (apply SW.toOp; refine SWop.go lq ?_) | (apply SW.toCG; first | refine SWcall.yes lq ?_ | refine SWcall.no lq ?_) | (apply SW.toG; first | refine SWop.yes lq ?_ | refine SWop.no lq ?_)
    refine W.ret ?_
    repeat' first
      | refine thenQ_ret ?_
      | refine inBlockQ_ret ?_
    refine fin2Z lq ?_ ?_
    · exact leV_refl
    · exact leV_refl
  exact absurd hb3 (no_of h3)
end Go.Vm.C01
