/- What some functions of the program compute, walked through once. -/
import Derived.Test.YtmanmhalbfbdmaaDoorVc
import Derived.Test.YtmanmhalbfbdmaaDoorProg
import Derived.Test.YtmanmhalbfbdmaaDoorCTy
namespace Go.Vm.C05
open Go Go.Proofs
set_option linter.unusedVariables false
set_option linter.unusedSimpArgs false
set_option maxRecDepth 100000
set_option maxHeartbeats 8000000
attribute [go_sem] bys?

/-! ### the program's variables -/
def begunB : List (BitVec 32) := [1732584193, 4023233417, 2562383102, 271733878, 3285377520]
def firstB : List (BitVec 32) := [0, 1518500249, 1859775393, 2400959708, 2840853838]
def secondB : List (BitVec 32) := [1352829926, 1548603684, 1836072691, 2053994217, 0]
def turnsB : List Int := [11, 14, 15, 12, 5, 8, 7, 9, 11, 13, 14, 15, 6, 7, 9, 8, 12, 13, 11, 15, 6, 9, 9, 7, 12, 15, 11, 13, 7, 8, 7, 7, 13, 15, 14, 11, 7, 7, 6, 8, 13, 14, 13, 12, 5, 5, 6, 9, 14, 11, 12, 14, 8, 6, 5, 5, 15, 12, 15, 14, 9, 9, 8, 6, 15, 12, 13, 13, 9, 5, 8, 6, 14, 11, 12, 11, 8, 6, 5, 5]
def rhoB : List Int := [7, 4, 13, 1, 10, 6, 15, 3, 12, 0, 9, 5, 2, 14, 11, 8]
def glB : Nat → Option Row := fun g => if g = 0 then some (.u 32 begunB) else if g = 1 then some (.u 32 firstB) else if g = 2 then some (.u 32 secondB) else if g = 3 then some (.i turnsB) else if g = 4 then some (.i rhoB) else none
theorem glB_ro : ∀ g r, glB g = some r → r.ro = r := by
  intro g r h
  unfold glB at h
  split at h
  · cases h; rfl
  split at h
  · cases h; rfl
  split at h
  · cases h; rfl
  split at h
  · cases h; rfl
  split at h
  · cases h; rfl
  cases h
theorem glB0 : glB 0 = some (.u 32 begunB) := rfl
theorem glB1 : glB 1 = some (.u 32 firstB) := rfl
theorem glB2 : glB 2 = some (.u 32 secondB) := rfl
theorem glB3 : glB 3 = some (.i turnsB) := rfl
theorem glB4 : glB 4 = some (.i rhoB) := rfl
theorem begunB_len : begunB.length = 5 := rfl
theorem firstB_len : firstB.length = 5 := rfl
theorem secondB_len : secondB.length = 5 := rfl
theorem turnsB_len : turnsB.length = 80 := rfl
theorem rhoB_len : rhoB.length = 16 := rfl
theorem rhoB_in : ∀ i, i < 16 → 0 ≤ rhoB.getD i 0 ∧ rhoB.getD i 0 < 16 := by decide
theorem turnsB_in : ∀ i, i < 80 → 5 ≤ turnsB.getD i 0 ∧ turnsB.getD i 0 ≤ 15 := by decide

/-! ### small functions -/
def fF (q : Int) (b c d : BitVec 32) : BitVec 32 := if q = 0 then b ^^^ c ^^^ d else if q = 1 then b &&& c ||| ~~~ b &&& d else if q = 2 then (b ||| ~~~ c) ^^^ d else if q = 3 then b &&& d ||| c &&& ~~~ d else b ^^^ (c ||| ~~~ d)
noncomputable def fS : FSpec := { run := fun ins => match ins with
  | [.i q, .u 32 b, .u 32 c, .u 32 d] => some (.u 32 (fF q b c d), [])
  | _ => none }
theorem f_sound : SoundFn Tryd.prog glB 17 fS.run := by
  have G := good_of (P := Tryd.prog) glB_ro (l := []) (by simp)
  refine soundFn_of_W G Tryd.func17 (by decide) rfl (by decide) ?_
  intro ins ret outs h
  unfold fS at h
  dsimp only at h
  split at h
  rotate_left
  · cases h
  rename_i q b c d
  cases h
  refine ⟨by show 4 ≤ 50; decide, fun w0 ext av => ?_⟩
  rw [Tryd.ntmps17, st0_eq]
  repeat' first
    | refine W.seq ?_ | (refine W.regS G ?_; dsimp only) | refine SW.nil ?_ | refine thenQ_normal ?_ | refine W.skip ?_ | refine W.exit ?_ | refine thenQ_exit ?_ | refine inBlockQ_exit ?_ | refine inBlockQ_normal ?_ | refine W.block ?_
    | (apply SW.toC; refine SWcall.go True.intro ?_) | (apply SW.toOp; refine SWop.go True.intro ?_) | (apply SW.toCG; first | refine SWcall.yes True.intro ?_ | refine SWcall.no True.intro ?_) | (apply SW.toG; first | refine SWop.yes True.intro ?_ | refine SWop.no True.intro ?_)
  refine W.condZ G True.intro ?_ ?_
  all_goals intro h0
  · have e : fF q b c d = b ^^^ c ^^^ d := by unfold fF; rw [if_pos (of_decide_eq_true h0)]
    rw [e]
    repeat' first
      | refine W.seq ?_ | (refine W.regS G ?_; dsimp only) | refine SW.nil ?_ | refine thenQ_normal ?_ | refine W.skip ?_ | refine W.exit ?_ | refine thenQ_exit ?_ | refine inBlockQ_exit ?_ | refine inBlockQ_normal ?_ | refine W.block ?_
      | (apply SW.toC; refine SWcall.go True.intro ?_) | (apply SW.toOp; refine SWop.go True.intro ?_) | (apply SW.toCG; first | refine SWcall.yes True.intro ?_ | refine SWcall.no True.intro ?_) | (apply SW.toG; first | refine SWop.yes True.intro ?_ | refine SWop.no True.intro ?_)
    refine W.ret ?_
    repeat' first
      | refine thenQ_ret ?_
      | refine inBlockQ_ret ?_
    refine fin1Z True.intro ?_
    exact leV_refl
  · repeat' first
      | refine W.seq ?_ | (refine W.regS G ?_; dsimp only) | refine SW.nil ?_ | refine thenQ_normal ?_ | refine W.skip ?_ | refine W.exit ?_ | refine thenQ_exit ?_ | refine inBlockQ_exit ?_ | refine inBlockQ_normal ?_ | refine W.block ?_
      | (apply SW.toC; refine SWcall.go True.intro ?_) | (apply SW.toOp; refine SWop.go True.intro ?_) | (apply SW.toCG; first | refine SWcall.yes True.intro ?_ | refine SWcall.no True.intro ?_) | (apply SW.toG; first | refine SWop.yes True.intro ?_ | refine SWop.no True.intro ?_)
    refine W.condZ G True.intro ?_ ?_
    all_goals intro h1
    · have e : fF q b c d = b &&& c ||| ~~~ b &&& d := by unfold fF; rw [if_neg (of_decide_eq_false h0)]; rw [if_pos (of_decide_eq_true h1)]
      rw [e]
      repeat' first
        | refine W.seq ?_ | (refine W.regS G ?_; dsimp only) | refine SW.nil ?_ | refine thenQ_normal ?_ | refine W.skip ?_ | refine W.exit ?_ | refine thenQ_exit ?_ | refine inBlockQ_exit ?_ | refine inBlockQ_normal ?_ | refine W.block ?_
        | (apply SW.toC; refine SWcall.go True.intro ?_) | (apply SW.toOp; refine SWop.go True.intro ?_) | (apply SW.toCG; first | refine SWcall.yes True.intro ?_ | refine SWcall.no True.intro ?_) | (apply SW.toG; first | refine SWop.yes True.intro ?_ | refine SWop.no True.intro ?_)
      refine W.ret ?_
      repeat' first
        | refine thenQ_ret ?_
        | refine inBlockQ_ret ?_
      refine fin1Z True.intro ?_
      exact leV_refl
    · repeat' first
        | refine W.seq ?_ | (refine W.regS G ?_; dsimp only) | refine SW.nil ?_ | refine thenQ_normal ?_ | refine W.skip ?_ | refine W.exit ?_ | refine thenQ_exit ?_ | refine inBlockQ_exit ?_ | refine inBlockQ_normal ?_ | refine W.block ?_
        | (apply SW.toC; refine SWcall.go True.intro ?_) | (apply SW.toOp; refine SWop.go True.intro ?_) | (apply SW.toCG; first | refine SWcall.yes True.intro ?_ | refine SWcall.no True.intro ?_) | (apply SW.toG; first | refine SWop.yes True.intro ?_ | refine SWop.no True.intro ?_)
      refine W.condZ G True.intro ?_ ?_
      all_goals intro h2
      · have e : fF q b c d = (b ||| ~~~ c) ^^^ d := by unfold fF; rw [if_neg (of_decide_eq_false h0)]; rw [if_neg (of_decide_eq_false h1)]; rw [if_pos (of_decide_eq_true h2)]
        rw [e]
        repeat' first
          | refine W.seq ?_ | (refine W.regS G ?_; dsimp only) | refine SW.nil ?_ | refine thenQ_normal ?_ | refine W.skip ?_ | refine W.exit ?_ | refine thenQ_exit ?_ | refine inBlockQ_exit ?_ | refine inBlockQ_normal ?_ | refine W.block ?_
          | (apply SW.toC; refine SWcall.go True.intro ?_) | (apply SW.toOp; refine SWop.go True.intro ?_) | (apply SW.toCG; first | refine SWcall.yes True.intro ?_ | refine SWcall.no True.intro ?_) | (apply SW.toG; first | refine SWop.yes True.intro ?_ | refine SWop.no True.intro ?_)
        refine W.ret ?_
        repeat' first
          | refine thenQ_ret ?_
          | refine inBlockQ_ret ?_
        refine fin1Z True.intro ?_
        exact leV_refl
      · repeat' first
          | refine W.seq ?_ | (refine W.regS G ?_; dsimp only) | refine SW.nil ?_ | refine thenQ_normal ?_ | refine W.skip ?_ | refine W.exit ?_ | refine thenQ_exit ?_ | refine inBlockQ_exit ?_ | refine inBlockQ_normal ?_ | refine W.block ?_
          | (apply SW.toC; refine SWcall.go True.intro ?_) | (apply SW.toOp; refine SWop.go True.intro ?_) | (apply SW.toCG; first | refine SWcall.yes True.intro ?_ | refine SWcall.no True.intro ?_) | (apply SW.toG; first | refine SWop.yes True.intro ?_ | refine SWop.no True.intro ?_)
        refine W.condZ G True.intro ?_ ?_
        all_goals intro h3
        · have e : fF q b c d = b &&& d ||| c &&& ~~~ d := by unfold fF; rw [if_neg (of_decide_eq_false h0)]; rw [if_neg (of_decide_eq_false h1)]; rw [if_neg (of_decide_eq_false h2)]; rw [if_pos (of_decide_eq_true h3)]
          rw [e]
          repeat' first
            | refine W.seq ?_ | (refine W.regS G ?_; dsimp only) | refine SW.nil ?_ | refine thenQ_normal ?_ | refine W.skip ?_ | refine W.exit ?_ | refine thenQ_exit ?_ | refine inBlockQ_exit ?_ | refine inBlockQ_normal ?_ | refine W.block ?_
            | (apply SW.toC; refine SWcall.go True.intro ?_) | (apply SW.toOp; refine SWop.go True.intro ?_) | (apply SW.toCG; first | refine SWcall.yes True.intro ?_ | refine SWcall.no True.intro ?_) | (apply SW.toG; first | refine SWop.yes True.intro ?_ | refine SWop.no True.intro ?_)
          refine W.ret ?_
          repeat' first
            | refine thenQ_ret ?_
            | refine inBlockQ_ret ?_
          refine fin1Z True.intro ?_
          exact leV_refl
        · have e : fF q b c d = b ^^^ (c ||| ~~~ d) := by unfold fF; rw [if_neg (of_decide_eq_false h0)]; rw [if_neg (of_decide_eq_false h1)]; rw [if_neg (of_decide_eq_false h2)]; rw [if_neg (of_decide_eq_false h3)]
          rw [e]
          repeat' first
            | refine W.seq ?_ | (refine W.regS G ?_; dsimp only) | refine SW.nil ?_ | refine thenQ_normal ?_ | refine W.skip ?_ | refine W.exit ?_ | refine thenQ_exit ?_ | refine inBlockQ_exit ?_ | refine inBlockQ_normal ?_ | refine W.block ?_
            | (apply SW.toC; refine SWcall.go True.intro ?_) | (apply SW.toOp; refine SWop.go True.intro ?_) | (apply SW.toCG; first | refine SWcall.yes True.intro ?_ | refine SWcall.no True.intro ?_) | (apply SW.toG; first | refine SWop.yes True.intro ?_ | refine SWop.no True.intro ?_)
          refine W.ret ?_
          repeat' first
            | refine thenQ_ret ?_
            | refine inBlockQ_ret ?_
          refine fin1Z True.intro ?_
          exact leV_refl
theorem rf_sound : SoundFn Tryd.prog glB 14 fS.run := by
  have G := good_of (P := Tryd.prog) glB_ro (l := []) (by simp)
  refine soundFn_of_W G Tryd.func14 (by decide) rfl (by decide) ?_
  intro ins ret outs h
  unfold fS at h
  dsimp only at h
  split at h
  rotate_left
  · cases h
  rename_i q b c d
  cases h
  refine ⟨by show 4 ≤ 50; decide, fun w0 ext av => ?_⟩
  rw [Tryd.ntmps14, st0_eq]
  repeat' first
    | refine W.seq ?_ | (refine W.regS G ?_; dsimp only) | refine SW.nil ?_ | refine thenQ_normal ?_ | refine W.skip ?_ | refine W.exit ?_ | refine thenQ_exit ?_ | refine inBlockQ_exit ?_ | refine inBlockQ_normal ?_ | refine W.block ?_
    | (apply SW.toC; refine SWcall.go True.intro ?_) | (apply SW.toOp; refine SWop.go True.intro ?_) | (apply SW.toCG; first | refine SWcall.yes True.intro ?_ | refine SWcall.no True.intro ?_) | (apply SW.toG; first | refine SWop.yes True.intro ?_ | refine SWop.no True.intro ?_)
  refine W.condZ G True.intro ?_ ?_
  all_goals intro h0
  · have e : fF q b c d = b ^^^ c ^^^ d := by unfold fF; rw [if_pos (of_decide_eq_true h0)]
    rw [e]
    repeat' first
      | refine W.seq ?_ | (refine W.regS G ?_; dsimp only) | refine SW.nil ?_ | refine thenQ_normal ?_ | refine W.skip ?_ | refine W.exit ?_ | refine thenQ_exit ?_ | refine inBlockQ_exit ?_ | refine inBlockQ_normal ?_ | refine W.block ?_
      | (apply SW.toC; refine SWcall.go True.intro ?_) | (apply SW.toOp; refine SWop.go True.intro ?_) | (apply SW.toCG; first | refine SWcall.yes True.intro ?_ | refine SWcall.no True.intro ?_) | (apply SW.toG; first | refine SWop.yes True.intro ?_ | refine SWop.no True.intro ?_)
    refine W.ret ?_
    repeat' first
      | refine thenQ_ret ?_
      | refine inBlockQ_ret ?_
    refine fin1Z True.intro ?_
    exact leV_refl
  · repeat' first
      | refine W.seq ?_ | (refine W.regS G ?_; dsimp only) | refine SW.nil ?_ | refine thenQ_normal ?_ | refine W.skip ?_ | refine W.exit ?_ | refine thenQ_exit ?_ | refine inBlockQ_exit ?_ | refine inBlockQ_normal ?_ | refine W.block ?_
      | (apply SW.toC; refine SWcall.go True.intro ?_) | (apply SW.toOp; refine SWop.go True.intro ?_) | (apply SW.toCG; first | refine SWcall.yes True.intro ?_ | refine SWcall.no True.intro ?_) | (apply SW.toG; first | refine SWop.yes True.intro ?_ | refine SWop.no True.intro ?_)
    refine W.condZ G True.intro ?_ ?_
    all_goals intro h1
    · have e : fF q b c d = b &&& c ||| ~~~ b &&& d := by unfold fF; rw [if_neg (of_decide_eq_false h0)]; rw [if_pos (of_decide_eq_true h1)]
      rw [e]
      repeat' first
        | refine W.seq ?_ | (refine W.regS G ?_; dsimp only) | refine SW.nil ?_ | refine thenQ_normal ?_ | refine W.skip ?_ | refine W.exit ?_ | refine thenQ_exit ?_ | refine inBlockQ_exit ?_ | refine inBlockQ_normal ?_ | refine W.block ?_
        | (apply SW.toC; refine SWcall.go True.intro ?_) | (apply SW.toOp; refine SWop.go True.intro ?_) | (apply SW.toCG; first | refine SWcall.yes True.intro ?_ | refine SWcall.no True.intro ?_) | (apply SW.toG; first | refine SWop.yes True.intro ?_ | refine SWop.no True.intro ?_)
      refine W.ret ?_
      repeat' first
        | refine thenQ_ret ?_
        | refine inBlockQ_ret ?_
      refine fin1Z True.intro ?_
      exact leV_refl
    · repeat' first
        | refine W.seq ?_ | (refine W.regS G ?_; dsimp only) | refine SW.nil ?_ | refine thenQ_normal ?_ | refine W.skip ?_ | refine W.exit ?_ | refine thenQ_exit ?_ | refine inBlockQ_exit ?_ | refine inBlockQ_normal ?_ | refine W.block ?_
        | (apply SW.toC; refine SWcall.go True.intro ?_) | (apply SW.toOp; refine SWop.go True.intro ?_) | (apply SW.toCG; first | refine SWcall.yes True.intro ?_ | refine SWcall.no True.intro ?_) | (apply SW.toG; first | refine SWop.yes True.intro ?_ | refine SWop.no True.intro ?_)
      refine W.condZ G True.intro ?_ ?_
      all_goals intro h2
      · have e : fF q b c d = (b ||| ~~~ c) ^^^ d := by unfold fF; rw [if_neg (of_decide_eq_false h0)]; rw [if_neg (of_decide_eq_false h1)]; rw [if_pos (of_decide_eq_true h2)]
        rw [e]
        repeat' first
          | refine W.seq ?_ | (refine W.regS G ?_; dsimp only) | refine SW.nil ?_ | refine thenQ_normal ?_ | refine W.skip ?_ | refine W.exit ?_ | refine thenQ_exit ?_ | refine inBlockQ_exit ?_ | refine inBlockQ_normal ?_ | refine W.block ?_
          | (apply SW.toC; refine SWcall.go True.intro ?_) | (apply SW.toOp; refine SWop.go True.intro ?_) | (apply SW.toCG; first | refine SWcall.yes True.intro ?_ | refine SWcall.no True.intro ?_) | (apply SW.toG; first | refine SWop.yes True.intro ?_ | refine SWop.no True.intro ?_)
        refine W.ret ?_
        repeat' first
          | refine thenQ_ret ?_
          | refine inBlockQ_ret ?_
        refine fin1Z True.intro ?_
        exact leV_refl
      · repeat' first
          | refine W.seq ?_ | (refine W.regS G ?_; dsimp only) | refine SW.nil ?_ | refine thenQ_normal ?_ | refine W.skip ?_ | refine W.exit ?_ | refine thenQ_exit ?_ | refine inBlockQ_exit ?_ | refine inBlockQ_normal ?_ | refine W.block ?_
          | (apply SW.toC; refine SWcall.go True.intro ?_) | (apply SW.toOp; refine SWop.go True.intro ?_) | (apply SW.toCG; first | refine SWcall.yes True.intro ?_ | refine SWcall.no True.intro ?_) | (apply SW.toG; first | refine SWop.yes True.intro ?_ | refine SWop.no True.intro ?_)
        refine W.condZ G True.intro ?_ ?_
        all_goals intro h3
        · have e : fF q b c d = b &&& d ||| c &&& ~~~ d := by unfold fF; rw [if_neg (of_decide_eq_false h0)]; rw [if_neg (of_decide_eq_false h1)]; rw [if_neg (of_decide_eq_false h2)]; rw [if_pos (of_decide_eq_true h3)]
          rw [e]
          repeat' first
            | refine W.seq ?_ | (refine W.regS G ?_; dsimp only) | refine SW.nil ?_ | refine thenQ_normal ?_ | refine W.skip ?_ | refine W.exit ?_ | refine thenQ_exit ?_ | refine inBlockQ_exit ?_ | refine inBlockQ_normal ?_ | refine W.block ?_
            | (apply SW.toC; refine SWcall.go True.intro ?_) | (apply SW.toOp; refine SWop.go True.intro ?_) | (apply SW.toCG; first | refine SWcall.yes True.intro ?_ | refine SWcall.no True.intro ?_) | (apply SW.toG; first | refine SWop.yes True.intro ?_ | refine SWop.no True.intro ?_)
          refine W.ret ?_
          repeat' first
            | refine thenQ_ret ?_
            | refine inBlockQ_ret ?_
          refine fin1Z True.intro ?_
          exact leV_refl
        · have e : fF q b c d = b ^^^ (c ||| ~~~ d) := by unfold fF; rw [if_neg (of_decide_eq_false h0)]; rw [if_neg (of_decide_eq_false h1)]; rw [if_neg (of_decide_eq_false h2)]; rw [if_neg (of_decide_eq_false h3)]
          rw [e]
          repeat' first
            | refine W.seq ?_ | (refine W.regS G ?_; dsimp only) | refine SW.nil ?_ | refine thenQ_normal ?_ | refine W.skip ?_ | refine W.exit ?_ | refine thenQ_exit ?_ | refine inBlockQ_exit ?_ | refine inBlockQ_normal ?_ | refine W.block ?_
            | (apply SW.toC; refine SWcall.go True.intro ?_) | (apply SW.toOp; refine SWop.go True.intro ?_) | (apply SW.toCG; first | refine SWcall.yes True.intro ?_ | refine SWcall.no True.intro ?_) | (apply SW.toG; first | refine SWop.yes True.intro ?_ | refine SWop.no True.intro ?_)
          refine W.ret ?_
          repeat' first
            | refine thenQ_ret ?_
            | refine inBlockQ_ret ?_
          refine fin1Z True.intro ?_
          exact leV_refl

def rotF (x : BitVec 32) (k : Int) : BitVec 32 := (x <<< ((BitVec.ofInt 64 k &&& 31#64).toNat)) ||| (x >>> ((32#64 - (BitVec.ofInt 64 k &&& 31#64)).toNat))
noncomputable def rotS : FSpec := { run := fun ins => match ins with
  | [.u 32 x, .i k] => some (.u 32 (rotF x k), [])
  | _ => none }
theorem rot_sound : SoundFn Tryd.prog glB 18 rotS.run := by
  have G := good_of (P := Tryd.prog) glB_ro (l := []) (by simp)
  refine soundFn_of_W G Tryd.func18 (by decide) rfl (by decide) ?_
  intro ins ret outs h
  unfold rotS at h
  dsimp only at h
  split at h
  rotate_left
  · cases h
  rename_i x k
  cases h
  refine ⟨by show 2 ≤ 17; decide, fun w0 ext av => ?_⟩
  rw [Tryd.ntmps18, st0_eq]
  repeat' first
    | refine W.seq ?_ | (refine W.regS G ?_; dsimp only) | refine SW.nil ?_ | refine thenQ_normal ?_ | refine W.skip ?_ | refine W.exit ?_ | refine thenQ_exit ?_ | refine inBlockQ_exit ?_ | refine inBlockQ_normal ?_ | refine W.block ?_
    | (apply SW.toC; refine SWcall.go True.intro ?_) | (apply SW.toOp; refine SWop.go True.intro ?_) | (apply SW.toCG; first | refine SWcall.yes True.intro ?_ | refine SWcall.no True.intro ?_) | (apply SW.toG; first | refine SWop.yes True.intro ?_ | refine SWop.no True.intro ?_)
  refine W.ret ?_
  repeat' first
    | refine thenQ_ret ?_
    | refine inBlockQ_ret ?_
  refine fin1Z True.intro ?_
  exact leV_refl
def upF (x : BitVec 32) (n : Int) : BitVec 32 := x <<< (BitVec.ofInt 64 n).toNat ||| x >>> (BitVec.ofInt 64 (32 - n)).toNat
noncomputable def upS : FSpec := { run := fun ins => match ins with
  | [.u 32 x, .i n] => chk (0 ≤ n ∧ n ≤ 31) (some (.u 32 (upF x n), []))
  | _ => none }
theorem up_sound : SoundFn Tryd.prog glB 13 upS.run := by
  have G := good_of (P := Tryd.prog) glB_ro (l := []) (by simp)
  refine soundFn_of_W G Tryd.func13 (by decide) rfl (by decide) ?_
  intro ins ret outs h
  unfold upS at h
  dsimp only at h
  split at h
  rotate_left
  · cases h
  rename_i x n
  obtain ⟨hn, h'⟩ := chk_some h
  clear h
  cases h'
  refine ⟨by show 2 ≤ 15; decide, fun w0 ext av => ?_⟩
  rw [Tryd.ntmps13, st0_eq]
  repeat' first
    | refine W.seq ?_ | (refine W.regS G ?_; dsimp only) | refine SW.nil ?_ | refine thenQ_normal ?_ | refine W.skip ?_ | refine W.exit ?_ | refine thenQ_exit ?_ | refine inBlockQ_exit ?_ | refine inBlockQ_normal ?_ | refine W.block ?_
    | (apply SW.toC; refine SWcall.go True.intro ?_) | (apply SW.toOp; refine SWop.go True.intro ?_) | (apply SW.toCG; first | refine SWcall.yes True.intro ?_ | refine SWcall.no True.intro ?_) | (apply SW.toG; first | refine SWop.yes True.intro ?_ | refine SWop.no True.intro ?_)
  refine W.ret ?_
  repeat' first
    | refine thenQ_ret ?_
    | refine inBlockQ_ret ?_
  refine fin1Z True.intro ?_
  exact leV_refl
/-- turned either way -/
theorem rot_up (x : BitVec 32) (n : Int) (h0 : 0 < n) (h : n < 32) : rotF x n = upF x n := by
  obtain ⟨k, rfl⟩ : ∃ k : Nat, n = k := ⟨n.toNat, by omega⟩
  have e1 : (BitVec.ofInt 64 (k : Int) &&& 31#64).toNat = k := by
    rw [BitVec.toNat_and, BitVec.toNat_ofInt]
    have : ((k : Int) % ((2 ^ 64 : Nat) : Int)).toNat = k := by omega
    rw [this]
    show k &&& 31 = k
    rw [show (31 : Nat) = 2 ^ 5 - 1 from rfl, Nat.and_two_pow_sub_one_eq_mod]
    omega
  have e2 : (32#64 - (BitVec.ofInt 64 (k : Int) &&& 31#64)).toNat = 32 - k := by
    rw [BitVec.toNat_sub, e1]
    show (2 ^ 64 - k + 32) % 2 ^ 64 = 32 - k
    omega
  have e3 : (BitVec.ofInt 64 (k : Int)).toNat = k := by rw [BitVec.toNat_ofInt]; omega
  have e4 : (BitVec.ofInt 64 (32 - (k : Int))).toNat = 32 - k := by rw [BitVec.toNat_ofInt]; omega
  unfold rotF upF
  rw [e1, e2, e3, e4]

/-! ### places -/
def plF (back : Bool) (k : Nat) : Int := if back = true then (9 * (k : Int) + 5) % 16 else k
def placeF (back : Bool) (k q : Nat) : Int := itN (fun _ p => rhoB.getD p.toNat 0) q (plF back k)
theorem plF_in (back : Bool) (k : Nat) (h : k < 16) : 0 ≤ plF back k ∧ plF back k < 16 := by unfold plF; split <;> omega
theorem placeF_in (back : Bool) (k q : Nat) (h : k < 16) : 0 ≤ placeF back k q ∧ placeF back k q < 16 :=
  itN_inv (p := fun (p : Int) => 0 ≤ p ∧ p < 16) (fun _ p hp => rhoB_in p.toNat (by omega)) q (plF_in back k h)
noncomputable def placeS : FSpec := { run := fun ins => match ins with
  | [.b back, .i q, .i k] => chk (0 ≤ q ∧ q ≤ 5 ∧ 0 ≤ k ∧ k < 16) (some (.i (placeF back k.toNat q.toNat), []))
  | _ => none }
theorem place_sound : SoundFn Tryd.prog glB 12 placeS.run := by
  have G := good_of (P := Tryd.prog) glB_ro (l := []) (by simp)
  refine soundFn_of_W G Tryd.func12 (by decide) rfl (by decide) ?_
  intro ins ret outs h
  unfold placeS at h
  dsimp only at h
  split at h
  rotate_left
  · cases h
  rename_i back q k
  obtain ⟨hl, h'⟩ := chk_some h
  clear h
  obtain ⟨Q, rfl⟩ : ∃ Q : Nat, q = Q := ⟨q.toNat, by omega⟩
  obtain ⟨K, rfl⟩ : ∃ K : Nat, k = K := ⟨k.toNat, by omega⟩
  cases h'
  simp only [Int.toNat_natCast]
  refine ⟨by show 3 ≤ 27; decide, fun w0 ext av => ?_⟩
  rw [Tryd.ntmps12, st0_eq]
  have hr : [(7 : Int), 4, 13, 1, 10, 6, 15, 3, 12, 0, 9, 5, 2, 14, 11, 8] = rhoB := rfl
  have lr := rhoB_len
  repeat' first
    | refine W.seq ?_ | (refine W.regS G ?_; dsimp only) | refine SW.nil ?_ | refine thenQ_normal ?_ | refine W.skip ?_ | refine W.exit ?_ | refine thenQ_exit ?_ | refine inBlockQ_exit ?_ | refine inBlockQ_normal ?_
    | (apply SW.toC; refine SWcall.go True.intro ?_) | (apply SW.toOp; refine SWop.go True.intro ?_) | (apply SW.toCG; first | refine SWcall.yes True.intro ?_ | refine SWcall.no True.intro ?_) | (apply SW.toG; first | refine SWop.yes True.intro ?_ | refine SWop.no True.intro ?_)
  refine W.mid (sL [(1, .i Q), (7, .i (plF back K))] [] 27) ?_ ?_
  · cases back
    · have e : plF false K = K := rfl
      refine W.condZ G True.intro ?_ ?_
      all_goals intro hc
      · cases hc
      repeat' first
        | refine W.seq ?_ | (refine W.regS G ?_; dsimp only) | refine SW.nil ?_ | refine thenQ_normal ?_ | refine W.skip ?_ | refine W.exit ?_ | refine thenQ_exit ?_ | refine inBlockQ_exit ?_ | refine inBlockQ_normal ?_ | refine W.block ?_
        | (apply SW.toC; refine SWcall.go True.intro ?_) | (apply SW.toOp; refine SWop.go True.intro ?_) | (apply SW.toCG; first | refine SWcall.yes True.intro ?_ | refine SWcall.no True.intro ?_) | (apply SW.toG; first | refine SWop.yes True.intro ?_ | refine SWop.no True.intro ?_)
      refine Imp.le ?_
      exact sL_leZ e
    · have e : plF true K = (9 * (K : Int) + 5) % 16 := rfl
      refine W.condZ G True.intro ?_ ?_
      all_goals intro hc
      · repeat' first
          | refine W.seq ?_ | (refine W.regS G ?_; dsimp only) | refine SW.nil ?_ | refine thenQ_normal ?_ | refine W.skip ?_ | refine W.exit ?_ | refine thenQ_exit ?_ | refine inBlockQ_exit ?_ | refine inBlockQ_normal ?_ | refine W.block ?_
          | (apply SW.toC; refine SWcall.go True.intro ?_) | (apply SW.toOp; refine SWop.go True.intro ?_) | (apply SW.toCG; first | refine SWcall.yes True.intro ?_ | refine SWcall.no True.intro ?_) | (apply SW.toG; first | refine SWop.yes True.intro ?_ | refine SWop.no True.intro ?_)
        refine Imp.le ?_
        exact sL_leZ e
      · cases hc
  repeat' first
    | refine W.seq ?_ | (refine W.regS G ?_; dsimp only) | refine SW.nil ?_ | refine thenQ_normal ?_ | refine W.skip ?_ | refine W.exit ?_ | refine thenQ_exit ?_ | refine inBlockQ_exit ?_ | refine inBlockQ_normal ?_ | refine W.block ?_
    | (apply SW.toC; refine SWcall.go hr ?_) | (apply SW.toOp; refine SWop.go hr ?_) | (apply SW.toCG; first | refine SWcall.yes hr ?_ | refine SWcall.no hr ?_) | (apply SW.toG; first | refine SWop.yes hr ?_ | refine SWop.no hr ?_)
  refine W.loopI (ι := {i : Nat // i ≤ Q}) (fun i => sL [(1, .i Q), (7, .i (placeF back K i.1)), (8, .gr 16 16), (9, .i i.1)] [(16, .row (.i rhoB))] 27) (fun i => Q - i.1) ⟨0, Nat.zero_le _⟩ (Imp.le ?_) ?_
  · exact sL_leZ hr
  rintro ⟨i, hi⟩
  have e : placeF back K (i + 1) = rhoB.getD (placeF back K i).toNat 0 := itN_succ _ _ _
  have hp := placeF_in back K i (by omega)
  have hend : i = Q → placeF back K Q = placeF back K i := by rintro rfl; rfl
  generalize placeF back K i = p at e hp hend ⊢
  repeat' first
    | refine W.seq ?_ | (refine W.regS G ?_; dsimp only) | refine SW.nil ?_ | refine thenQ_normal ?_ | refine W.skip ?_ | refine W.exit ?_ | refine thenQ_exit ?_ | refine inBlockQ_exit ?_ | refine inBlockQ_normal ?_ | refine W.block ?_
    | (apply SW.toC; refine SWcall.go lr ?_) | (apply SW.toOp; refine SWop.go lr ?_) | (apply SW.toCG; first | refine SWcall.yes lr ?_ | refine SWcall.no lr ?_) | (apply SW.toG; first | refine SWop.yes lr ?_ | refine SWop.no lr ?_)
  refine W.condZ G lr ?_ ?_
  all_goals intro ht
  · have ht' := of_decide_eq_true ht
    repeat' first
      | refine W.seq ?_ | (refine W.regS G ?_; dsimp only) | refine SW.nil ?_ | refine thenQ_normal ?_ | refine W.skip ?_ | refine W.exit ?_ | refine thenQ_exit ?_ | refine inBlockQ_exit ?_ | refine inBlockQ_normal ?_ | refine W.block ?_
      | (apply SW.toC; refine SWcall.go lr ?_) | (apply SW.toOp; refine SWop.go lr ?_) | (apply SW.toCG; first | refine SWcall.yes lr ?_ | refine SWcall.no lr ?_) | (apply SW.toG; first | refine SWop.yes lr ?_ | refine SWop.no lr ?_)
    refine ⟨⟨i + 1, by omega⟩, Imp.le ?_, by show _ - (i + 1) < _ - i; omega⟩
    exact sL_leZ (And.intro e lr)
  have ht' := of_decide_eq_false ht
  have hh := hend (by omega)
  repeat' first
    | refine W.seq ?_ | (refine W.regS G ?_; dsimp only) | refine SW.nil ?_ | refine thenQ_normal ?_ | refine W.skip ?_ | refine W.exit ?_ | refine thenQ_exit ?_ | refine inBlockQ_exit ?_ | refine inBlockQ_normal ?_ | refine W.block ?_
    | (apply SW.toC; refine SWcall.go True.intro ?_) | (apply SW.toOp; refine SWop.go True.intro ?_) | (apply SW.toCG; first | refine SWcall.yes True.intro ?_ | refine SWcall.no True.intro ?_) | (apply SW.toG; first | refine SWop.yes True.intro ?_ | refine SWop.no True.intro ?_)
  refine W.ret ?_
  repeat' first
    | refine thenQ_ret ?_
    | refine inBlockQ_ret ?_
  refine fin1Z True.intro ?_
  rw [hh]
  exact leV_refl

def row0 : Bytes := [98#8, 101#8, 102#8, 99#8, 53#8, 56#8, 55#8, 57#8, 98#8, 100#8, 101#8, 102#8, 54#8, 55#8, 57#8, 56#8]
theorem row0_eq : bytesOf ⟨#[98, 101, 102, 99, 53, 56, 55, 57, 98, 100, 101, 102, 54, 55, 57, 56]⟩ = row0 := by rfl
theorem row0_len : List.length row0 = 16 := rfl
def row1 : Bytes := [99#8, 100#8, 98#8, 102#8, 54#8, 57#8, 57#8, 55#8, 99#8, 102#8, 98#8, 100#8, 55#8, 56#8, 55#8, 55#8]
theorem row1_eq : bytesOf ⟨#[99, 100, 98, 102, 54, 57, 57, 55, 99, 102, 98, 100, 55, 56, 55, 55]⟩ = row1 := by rfl
theorem row1_len : List.length row1 = 16 := rfl
def row2 : Bytes := [100#8, 102#8, 101#8, 98#8, 55#8, 55#8, 54#8, 56#8, 100#8, 101#8, 100#8, 99#8, 53#8, 53#8, 54#8, 57#8]
theorem row2_eq : bytesOf ⟨#[100, 102, 101, 98, 55, 55, 54, 56, 100, 101, 100, 99, 53, 53, 54, 57]⟩ = row2 := by rfl
theorem row2_len : List.length row2 = 16 := rfl
def row3 : Bytes := [101#8, 98#8, 99#8, 101#8, 56#8, 54#8, 53#8, 53#8, 102#8, 99#8, 102#8, 101#8, 57#8, 57#8, 56#8, 54#8]
theorem row3_eq : bytesOf ⟨#[101, 98, 99, 101, 56, 54, 53, 53, 102, 99, 102, 101, 57, 57, 56, 54]⟩ = row3 := by rfl
theorem row3_len : List.length row3 = 16 := rfl
def row4 : Bytes := [102#8, 99#8, 100#8, 100#8, 57#8, 53#8, 56#8, 54#8, 101#8, 98#8, 99#8, 98#8, 56#8, 54#8, 53#8, 53#8]
theorem row4_eq : bytesOf ⟨#[102, 99, 100, 100, 57, 53, 56, 54, 101, 98, 99, 98, 56, 54, 53, 53]⟩ = row4 := by rfl
theorem row4_len : List.length row4 = 16 := rfl
def bitRows : List Bytes := [row0, row1, row2, row3, row4]
def bitC (q p : Nat) : BitVec 8 := (bitRows.getD q []).getD p 0
def bitF (q p : Nat) : Int := if 97#8 ≤ bitC q p then ((bitC q p - 97#8).toNat : Int) + 10 else ((bitC q p - 48#8).toNat : Int)
theorem bit_eq : ∀ q, q < 5 → ∀ p, p < 16 → bitF q p = turnsB.getD (16 * q + p) 0 := by decide +kernel
theorem bitRows_len : ∀ q, q < 5 → List.length (bitRows.getD q []) = 16 := by decide
noncomputable def bitS : FSpec := { run := fun ins => match ins with
  | [.i q, .i p] => chk (0 ≤ q ∧ q < 5 ∧ 0 ≤ p ∧ p < 16) (some (.i (bitF q.toNat p.toNat), []))
  | _ => none }
theorem bit_sound : SoundFn Tryd.prog glB 15 bitS.run := by
  have G := good_of (P := Tryd.prog) glB_ro (l := []) (by simp)
  refine soundFn_of_W G Tryd.func15 (by decide) rfl (by decide) ?_
  intro ins ret outs h
  unfold bitS at h
  dsimp only at h
  split at h
  rotate_left
  · cases h
  rename_i q p
  obtain ⟨hl, h'⟩ := chk_some h
  clear h
  obtain ⟨Q, rfl⟩ : ∃ Q : Nat, q = Q := ⟨q.toNat, by omega⟩
  obtain ⟨p', rfl⟩ : ∃ p' : Nat, p = p' := ⟨p.toNat, by omega⟩
  cases h'
  simp only [Int.toNat_natCast]
  refine ⟨by show 2 ≤ 23; decide, fun w0 ext av => ?_⟩
  rw [Tryd.ntmps15, st0_eq]
  have r0 := row0_eq
  have r1 := row1_eq
  have r2 := row2_eq
  have r3 := row3_eq
  have r4 := row4_eq
  have hR : [row0, row1, row2, row3, row4] = bitRows := rfl
  have lR : bitRows.length = 5 := rfl
  have lq := bitRows_len Q (by omega)
  have hb : bitC Q p' = (bitRows.getD Q []).getD p' 0 := rfl
  have hF : bitF Q p' = if 97#8 ≤ bitC Q p' then ((bitC Q p' - 97#8).toNat : Int) + 10 else ((bitC Q p' - 48#8).toNat : Int) := rfl
  generalize hrow : bitRows.getD Q [] = row at lq hb
  generalize bitC Q p' = c at hb hF
  have hb' := hb.symm
  repeat' first
    | refine W.seq ?_ | (refine W.regS G ?_; dsimp only) | refine SW.nil ?_ | refine thenQ_normal ?_ | refine W.skip ?_ | refine W.exit ?_ | refine thenQ_exit ?_ | refine inBlockQ_exit ?_ | refine inBlockQ_normal ?_ | refine W.block ?_
    | (apply SW.toC; refine SWcall.go (And.intro r0 (And.intro r1 (And.intro r2 (And.intro r3 (And.intro r4 (And.intro hR (And.intro lR (And.intro hrow (And.intro lq hb'))))))))) ?_) | (apply SW.toOp; refine SWop.go (And.intro r0 (And.intro r1 (And.intro r2 (And.intro r3 (And.intro r4 (And.intro hR (And.intro lR (And.intro hrow (And.intro lq hb'))))))))) ?_) | (apply SW.toCG; first | refine SWcall.yes (And.intro r0 (And.intro r1 (And.intro r2 (And.intro r3 (And.intro r4 (And.intro hR (And.intro lR (And.intro hrow (And.intro lq hb'))))))))) ?_ | refine SWcall.no (And.intro r0 (And.intro r1 (And.intro r2 (And.intro r3 (And.intro r4 (And.intro hR (And.intro lR (And.intro hrow (And.intro lq hb'))))))))) ?_) | (apply SW.toG; first | refine SWop.yes (And.intro r0 (And.intro r1 (And.intro r2 (And.intro r3 (And.intro r4 (And.intro hR (And.intro lR (And.intro hrow (And.intro lq hb'))))))))) ?_ | refine SWop.no (And.intro r0 (And.intro r1 (And.intro r2 (And.intro r3 (And.intro r4 (And.intro hR (And.intro lR (And.intro hrow (And.intro lq hb'))))))))) ?_)
  refine W.condZ G (And.intro r0 (And.intro r1 (And.intro r2 (And.intro r3 (And.intro r4 (And.intro hR (And.intro lR (And.intro hrow (And.intro lq hb'))))))))) ?_ ?_
  all_goals intro hc
  · rw [if_pos (of_decide_eq_true hc)] at hF
    repeat' first
      | refine W.seq ?_ | (refine W.regS G ?_; dsimp only) | refine SW.nil ?_ | refine thenQ_normal ?_ | refine W.skip ?_ | refine W.exit ?_ | refine thenQ_exit ?_ | refine inBlockQ_exit ?_ | refine inBlockQ_normal ?_ | refine W.block ?_
      | (apply SW.toC; refine SWcall.go (And.intro r0 (And.intro r1 (And.intro r2 (And.intro r3 (And.intro r4 (And.intro hR (And.intro lR (And.intro hrow (And.intro lq hb'))))))))) ?_) | (apply SW.toOp; refine SWop.go (And.intro r0 (And.intro r1 (And.intro r2 (And.intro r3 (And.intro r4 (And.intro hR (And.intro lR (And.intro hrow (And.intro lq hb'))))))))) ?_) | (apply SW.toCG; first | refine SWcall.yes (And.intro r0 (And.intro r1 (And.intro r2 (And.intro r3 (And.intro r4 (And.intro hR (And.intro lR (And.intro hrow (And.intro lq hb'))))))))) ?_ | refine SWcall.no (And.intro r0 (And.intro r1 (And.intro r2 (And.intro r3 (And.intro r4 (And.intro hR (And.intro lR (And.intro hrow (And.intro lq hb'))))))))) ?_) | (apply SW.toG; first | refine SWop.yes (And.intro r0 (And.intro r1 (And.intro r2 (And.intro r3 (And.intro r4 (And.intro hR (And.intro lR (And.intro hrow (And.intro lq hb'))))))))) ?_ | refine SWop.no (And.intro r0 (And.intro r1 (And.intro r2 (And.intro r3 (And.intro r4 (And.intro hR (And.intro lR (And.intro hrow (And.intro lq hb'))))))))) ?_)
    refine W.ret ?_
    repeat' first
      | refine thenQ_ret ?_
      | refine inBlockQ_ret ?_
    refine fin1Z (And.intro r0 (And.intro r1 (And.intro r2 (And.intro r3 (And.intro r4 (And.intro hR (And.intro lR (And.intro hrow (And.intro lq hb'))))))))) ?_
    rw [hF]
    exact leV_refl
  · rw [if_neg (of_decide_eq_false hc)] at hF
    repeat' first
      | refine W.seq ?_ | (refine W.regS G ?_; dsimp only) | refine SW.nil ?_ | refine thenQ_normal ?_ | refine W.skip ?_ | refine W.exit ?_ | refine thenQ_exit ?_ | refine inBlockQ_exit ?_ | refine inBlockQ_normal ?_ | refine W.block ?_
      | (apply SW.toC; refine SWcall.go (And.intro r0 (And.intro r1 (And.intro r2 (And.intro r3 (And.intro r4 (And.intro hR (And.intro lR (And.intro hrow (And.intro lq hb'))))))))) ?_) | (apply SW.toOp; refine SWop.go (And.intro r0 (And.intro r1 (And.intro r2 (And.intro r3 (And.intro r4 (And.intro hR (And.intro lR (And.intro hrow (And.intro lq hb'))))))))) ?_) | (apply SW.toCG; first | refine SWcall.yes (And.intro r0 (And.intro r1 (And.intro r2 (And.intro r3 (And.intro r4 (And.intro hR (And.intro lR (And.intro hrow (And.intro lq hb'))))))))) ?_ | refine SWcall.no (And.intro r0 (And.intro r1 (And.intro r2 (And.intro r3 (And.intro r4 (And.intro hR (And.intro lR (And.intro hrow (And.intro lq hb'))))))))) ?_) | (apply SW.toG; first | refine SWop.yes (And.intro r0 (And.intro r1 (And.intro r2 (And.intro r3 (And.intro r4 (And.intro hR (And.intro lR (And.intro hrow (And.intro lq hb'))))))))) ?_ | refine SWop.no (And.intro r0 (And.intro r1 (And.intro r2 (And.intro r3 (And.intro r4 (And.intro hR (And.intro lR (And.intro hrow (And.intro lq hb'))))))))) ?_)
    refine W.ret ?_
    repeat' first
      | refine thenQ_ret ?_
      | refine inBlockQ_ret ?_
    refine fin1Z (And.intro r0 (And.intro r1 (And.intro r2 (And.intro r3 (And.intro r4 (And.intro hR (And.intro lR (And.intro hrow (And.intro lq hb'))))))))) ?_
    rw [hF]
    exact leV_refl
end Go.Vm.C05
