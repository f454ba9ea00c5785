/- What some functions of the program compute, walked through once. -/
import Derived.Test.YtioffpklmlmhcaaDoorCA
namespace Go.Vm.C03
open Go Go.Proofs
set_option linter.unusedVariables false
set_option linter.unusedSimpArgs false
set_option maxRecDepth 100000
set_option maxHeartbeats 8000000
variable {gl : Nat → Option Row}

/-! ### a round, the document's way -/
def rcIn (a : List (BitVec 64)) (x y : Nat) (c : List (BitVec 64)) : List (BitVec 64) := itN (fun y c => c.set x (c.getD x 0 ^^^ a.getD (x * 5 + y) 0)) y c
def rC (a : List (BitVec 64)) (x : Nat) : List (BitVec 64) := itN (fun x c => rcIn a x 5 c) x (zeros 64 5)
def rtIn (c : List (BitVec 64)) (x y : Nat) (a : List (BitVec 64)) : List (BitVec 64) :=
  itN (fun y a => a.set (x * 5 + y) (a.getD (x * 5 + y) 0 ^^^ c.getD (((x : Int) + 4) % 5).toNat 0 ^^^ upF (c.getD (((x : Int) + 1) % 5).toNat 0) 1)) y a
def rT (c : List (BitVec 64)) (x : Nat) (a : List (BitVec 64)) : List (BitVec 64) := itN (fun x a => rtIn c x 5 a) x a
def rXY (t : Nat) : Int × Int := itN (fun _ p => (p.2, (2 * p.1 + 3 * p.2) % 5)) t (1, 0)
def rP (a : List (BitVec 64)) (t : Nat) (b : List (BitVec 64)) : List (BitVec 64) :=
  itN (fun t b => b.set ((rXY t).2.toNat * 5 + ((2 * (rXY t).1 + 3 * (rXY t).2) % 5).toNat) (upF (a.getD ((rXY t).1.toNat * 5 + (rXY t).2.toNat) 0) (((t : Int) + 1) * ((t : Int) + 2) / 2))) t b
def rkIn (b : List (BitVec 64)) (y x : Nat) (a : List (BitVec 64)) : List (BitVec 64) :=
  itN (fun x a => a.set (x * 5 + y) (b.getD (x * 5 + y) 0 ^^^ (~~~ b.getD ((((x : Int) + 1) % 5).toNat * 5 + y) 0 &&& b.getD ((((x : Int) + 2) % 5).toNat * 5 + y) 0))) x a
def rK (b : List (BitVec 64)) (y : Nat) (a : List (BitVec 64)) : List (BitVec 64) := itN (fun y a => rkIn b y 5 a) y a
def rTheta (a : List (BitVec 64)) : List (BitVec 64) := rT (rC a 5) 5 a
def rRho (a : List (BitVec 64)) : List (BitVec 64) := rP a 24 ((zeros 64 25).set 0 (a.getD 0 0))
def rRound (a : List (BitVec 64)) : List (BitVec 64) := rK (rRho (rTheta a)) 5 (rTheta a)
noncomputable def roundS : FSpec := { run := fun ins => match ins with
  | [.agg 25 (.u 64 a)] => some (.agg 25 (.u 64 (rRound a)), [])
  | _ => none }
theorem rXY_in (t : Nat) : 0 ≤ (rXY t).1 ∧ (rXY t).1 < 5 ∧ 0 ≤ (rXY t).2 ∧ (rXY t).2 < 5 := by
  induction t with
  | zero => decide
  | succ t ih =>
    have e : rXY (t + 1) = ((rXY t).2, (2 * (rXY t).1 + 3 * (rXY t).2) % 5) := rfl
    rw [e]
    dsimp only
    omega

theorem round_sound (hro : ∀ g r, gl g = some r → r.ro = r) : SoundFn Tryd.prog gl 18 roundS.run := by
  have G := good_of (P := Tryd.prog) hro (l := [(21, upS)]) (by simp only [List.forall_mem_cons]; exact ⟨up_sound hro, by simp⟩)
  refine soundFn_of_W G Tryd.func18 (by decide) rfl (by decide) ?_
  intro ins ret outs h
  unfold roundS at h
  dsimp only at h
  split at h
  rotate_left
  · cases h
  rename_i a
  cases h
  refine ⟨by show 1 ≤ 137; decide, fun w0 ext av => ?_⟩
  rw [Tryd.ntmps18, st0_eq]
  repeat' first
    | refine W.seq ?_ | (refine W.regS G ?_; dsimp only) | refine SW.nil ?_ | refine thenQ_normal ?_ | refine W.skip ?_ | refine W.exit ?_ | refine thenQ_exit ?_ | refine inBlockQ_exit ?_ | refine inBlockQ_normal ?_
    | (apply SW.toC; refine SWcall.go True.intro ?_) | (apply SW.toOp; refine SWop.go True.intro ?_) | (apply SW.toCG; first | refine SWcall.yes True.intro ?_ | refine SWcall.no True.intro ?_) | (apply SW.toG; first | refine SWop.yes True.intro ?_ | refine SWop.no True.intro ?_)
  refine W.mid (sL [(1, .p 1 0 0 0), (2, .p 2 0 0 0), (3, .p 3 0 0 0)] [(1, .agg 25 (.u 64 a)), (2, .agg 25 (.u 64 (zeros 64 25))), (3, .agg 5 (.u 64 (rC a 5)))] 137) ?_ ?_
  · repeat' first
      | refine W.seq ?_ | (refine W.regS G ?_; dsimp only) | refine SW.nil ?_ | refine thenQ_normal ?_ | refine W.skip ?_ | refine W.exit ?_ | refine thenQ_exit ?_ | refine inBlockQ_exit ?_ | refine inBlockQ_normal ?_ | refine W.block ?_
      | (apply SW.toC; refine SWcall.go True.intro ?_) | (apply SW.toOp; refine SWop.go True.intro ?_) | (apply SW.toCG; first | refine SWcall.yes True.intro ?_ | refine SWcall.no True.intro ?_) | (apply SW.toG; first | refine SWop.yes True.intro ?_ | refine SWop.no True.intro ?_)
    refine W.loopI (ι := {x : Nat // x ≤ 5}) (fun x => sL [(1, .p 1 0 0 0), (2, .p 2 0 0 0), (3, .p 3 0 0 0), (4, .i x.1)] [(1, .agg 25 (.u 64 a)), (2, .agg 25 (.u 64 (zeros 64 25))), (3, .agg 5 (.u 64 (rC a x.1)))] 137) (fun x => 5 - x.1) ⟨0, Nat.zero_le _⟩ (Imp.le ?_) ?_
    · exact sL_leZ True.intro
    rintro ⟨x, hx⟩
    have e : rC a (x + 1) = rcIn a x 5 (rC a x) := by rw [rC, itN_succ]; rfl
    have hend : x = 5 → rC a 5 = rC a x := by rintro rfl; rfl
    generalize rC a x = c at e hend ⊢
    repeat' first
      | refine W.seq ?_ | (refine W.regS G ?_; dsimp only) | refine SW.nil ?_ | refine thenQ_normal ?_ | refine W.skip ?_ | refine W.exit ?_ | refine thenQ_exit ?_ | refine inBlockQ_exit ?_ | refine inBlockQ_normal ?_ | refine W.block ?_
      | (apply SW.toC; refine SWcall.go True.intro ?_) | (apply SW.toOp; refine SWop.go True.intro ?_) | (apply SW.toCG; first | refine SWcall.yes True.intro ?_ | refine SWcall.no True.intro ?_) | (apply SW.toG; first | refine SWop.yes True.intro ?_ | refine SWop.no True.intro ?_)
    refine W.condZ G True.intro ?_ ?_
    all_goals intro ht
    · have ht' := of_decide_eq_true ht
      repeat' first
        | refine W.seq ?_ | (refine W.regS G ?_; dsimp only) | refine SW.nil ?_ | refine thenQ_normal ?_ | refine W.skip ?_ | refine W.exit ?_ | refine thenQ_exit ?_ | refine inBlockQ_exit ?_ | refine inBlockQ_normal ?_ | refine W.block ?_
        | (apply SW.toC; refine SWcall.go True.intro ?_) | (apply SW.toOp; refine SWop.go True.intro ?_) | (apply SW.toCG; first | refine SWcall.yes True.intro ?_ | refine SWcall.no True.intro ?_) | (apply SW.toG; first | refine SWop.yes True.intro ?_ | refine SWop.no True.intro ?_)
      refine W.loopI (ι := {y : Nat // y ≤ 5}) (fun y => sL [(1, .p 1 0 0 0), (2, .p 2 0 0 0), (3, .p 3 0 0 0), (4, .i x), (5, .i y.1)] [(1, .agg 25 (.u 64 a)), (2, .agg 25 (.u 64 (zeros 64 25))), (3, .agg 5 (.u 64 (rcIn a x y.1 c)))] 137) (fun y => 5 - y.1) ⟨0, Nat.zero_le _⟩ (Imp.le ?_) ?_
      · exact sL_leZ True.intro
      rintro ⟨y, hy⟩
      repeat' first
        | refine W.seq ?_ | (refine W.regS G ?_; dsimp only) | refine SW.nil ?_ | refine thenQ_normal ?_ | refine W.skip ?_ | refine W.exit ?_ | refine thenQ_exit ?_ | refine inBlockQ_exit ?_ | refine inBlockQ_normal ?_ | refine W.block ?_
        | (apply SW.toC; refine SWcall.go True.intro ?_) | (apply SW.toOp; refine SWop.go True.intro ?_) | (apply SW.toCG; first | refine SWcall.yes True.intro ?_ | refine SWcall.no True.intro ?_) | (apply SW.toG; first | refine SWop.yes True.intro ?_ | refine SWop.no True.intro ?_)
      refine W.condZ G True.intro ?_ ?_
      all_goals intro hu
      · have hu' := of_decide_eq_true hu
        repeat' first
          | refine W.seq ?_ | (refine W.regS G ?_; dsimp only) | refine SW.nil ?_ | refine thenQ_normal ?_ | refine W.skip ?_ | refine W.exit ?_ | refine thenQ_exit ?_ | refine inBlockQ_exit ?_ | refine inBlockQ_normal ?_ | refine W.block ?_
          | (apply SW.toC; refine SWcall.go True.intro ?_) | (apply SW.toOp; refine SWop.go True.intro ?_) | (apply SW.toCG; first | refine SWcall.yes True.intro ?_ | refine SWcall.no True.intro ?_) | (apply SW.toG; first | refine SWop.yes True.intro ?_ | refine SWop.no True.intro ?_)
        refine W.drawS G [[], [], [1], [2, 1], [], [], [4], [6, 4, 5], [7, 6, 4, 5], [3, 2, 1, 8, 7, 6, 4, 5], [0, 1, 2, 3, 4, 5, 6, 7, 8, 9], [10, 0, 1, 2, 3, 4, 5, 6, 7, 8, 9]] hmix ?_
        dsimp only
        repeat' first
          | (apply DW.nil; (focus (decide +kernel)))
          | (apply DW.toC; refine DWcall.go True.intro ?_) | (apply DW.toOp; refine DWop.go True.intro ?_) | (apply DW.toCG; first | refine DWcall.yes True.intro ?_ | refine DWcall.no True.intro ?_) | (apply DW.toG; first | refine DWop.yes True.intro ?_ | refine DWop.no True.intro ?_)
        repeat' first
          | refine W.seq ?_ | (refine W.regS G ?_; dsimp only) | refine SW.nil ?_ | refine thenQ_normal ?_ | refine W.skip ?_ | refine W.exit ?_ | refine thenQ_exit ?_ | refine inBlockQ_exit ?_ | refine inBlockQ_normal ?_ | refine W.block ?_
          | (apply SW.toC; refine SWcall.go True.intro ?_) | (apply SW.toOp; refine SWop.go True.intro ?_) | (apply SW.toCG; first | refine SWcall.yes True.intro ?_ | refine SWcall.no True.intro ?_) | (apply SW.toG; first | refine SWop.yes True.intro ?_ | refine SWop.no True.intro ?_)
        refine ⟨⟨y + 1, by omega⟩, Imp.le ?_, by show _ - (y + 1) < _ - y; omega⟩
        exact sL_leZ True.intro
      have hu' := of_decide_eq_false hu
      obtain rfl : y = 5 := by omega
      repeat' first
        | refine W.seq ?_ | (refine W.regS G ?_; dsimp only) | refine SW.nil ?_ | refine thenQ_normal ?_ | refine W.skip ?_ | refine W.exit ?_ | refine thenQ_exit ?_ | refine inBlockQ_exit ?_ | refine inBlockQ_normal ?_ | refine W.block ?_
        | (apply SW.toC; refine SWcall.go e ?_) | (apply SW.toOp; refine SWop.go e ?_) | (apply SW.toCG; first | refine SWcall.yes e ?_ | refine SWcall.no e ?_) | (apply SW.toG; first | refine SWop.yes e ?_ | refine SWop.no e ?_)
      refine ⟨⟨x + 1, by omega⟩, Imp.le ?_, by show _ - (x + 1) < _ - x; omega⟩
      exact sL_leZ e
    have ht' := of_decide_eq_false ht
    have hh := hend (by omega)
    repeat' first
      | refine W.seq ?_ | (refine W.regS G ?_; dsimp only) | refine SW.nil ?_ | refine thenQ_normal ?_ | refine W.skip ?_ | refine W.exit ?_ | refine thenQ_exit ?_ | refine inBlockQ_exit ?_ | refine inBlockQ_normal ?_ | refine W.block ?_
      | (apply SW.toC; refine SWcall.go True.intro ?_) | (apply SW.toOp; refine SWop.go True.intro ?_) | (apply SW.toCG; first | refine SWcall.yes True.intro ?_ | refine SWcall.no True.intro ?_) | (apply SW.toG; first | refine SWop.yes True.intro ?_ | refine SWop.no True.intro ?_)
    refine Imp.le ?_
    exact sL_leZ hh
  have hR : rRound a = rK (rRho (rT (rC a 5) 5 a)) 5 (rT (rC a 5) 5 a) := rfl
  generalize rC a 5 = c at hR ⊢
  repeat' first
    | refine W.seq ?_ | (refine W.regS G ?_; dsimp only) | refine SW.nil ?_ | refine thenQ_normal ?_ | refine W.skip ?_ | refine W.exit ?_ | refine thenQ_exit ?_ | refine inBlockQ_exit ?_ | refine inBlockQ_normal ?_
    | (apply SW.toC; refine SWcall.go True.intro ?_) | (apply SW.toOp; refine SWop.go True.intro ?_) | (apply SW.toCG; first | refine SWcall.yes True.intro ?_ | refine SWcall.no True.intro ?_) | (apply SW.toG; first | refine SWop.yes True.intro ?_ | refine SWop.no True.intro ?_)
  refine W.mid (sL [(1, .p 1 0 0 0), (2, .p 2 0 0 0), (6, .p 6 0 0 0)] [(1, .agg 25 (.u 64 (rT c 5 a))), (2, .agg 25 (.u 64 (zeros 64 25))), (6, .agg 25 (.u 64 (zeros 64 25)))] 137) ?_ ?_
  · repeat' first
      | refine W.seq ?_ | (refine W.regS G ?_; dsimp only) | refine SW.nil ?_ | refine thenQ_normal ?_ | refine W.skip ?_ | refine W.exit ?_ | refine thenQ_exit ?_ | refine inBlockQ_exit ?_ | refine inBlockQ_normal ?_ | refine W.block ?_
      | (apply SW.toC; refine SWcall.go True.intro ?_) | (apply SW.toOp; refine SWop.go True.intro ?_) | (apply SW.toCG; first | refine SWcall.yes True.intro ?_ | refine SWcall.no True.intro ?_) | (apply SW.toG; first | refine SWop.yes True.intro ?_ | refine SWop.no True.intro ?_)
    refine W.loopI (ι := {x : Nat // x ≤ 5}) (fun x => sL [(1, .p 1 0 0 0), (2, .p 2 0 0 0), (3, .p 3 0 0 0), (6, .p 6 0 0 0), (7, .i x.1)] [(1, .agg 25 (.u 64 (rT c x.1 a))), (2, .agg 25 (.u 64 (zeros 64 25))), (3, .agg 5 (.u 64 c)), (6, .agg 25 (.u 64 (zeros 64 25)))] 137) (fun x => 5 - x.1) ⟨0, Nat.zero_le _⟩ (Imp.le ?_) ?_
    · exact sL_leZ True.intro
    rintro ⟨x, hx⟩
    have e : rT c (x + 1) a = rtIn c x 5 (rT c x a) := by rw [rT, itN_succ]; rfl
    have hend : x = 5 → rT c 5 a = rT c x a := by rintro rfl; rfl
    generalize rT c x a = a1 at e hend ⊢
    repeat' first
      | refine W.seq ?_ | (refine W.regS G ?_; dsimp only) | refine SW.nil ?_ | refine thenQ_normal ?_ | refine W.skip ?_ | refine W.exit ?_ | refine thenQ_exit ?_ | refine inBlockQ_exit ?_ | refine inBlockQ_normal ?_ | refine W.block ?_
      | (apply SW.toC; refine SWcall.go True.intro ?_) | (apply SW.toOp; refine SWop.go True.intro ?_) | (apply SW.toCG; first | refine SWcall.yes True.intro ?_ | refine SWcall.no True.intro ?_) | (apply SW.toG; first | refine SWop.yes True.intro ?_ | refine SWop.no True.intro ?_)
    refine W.condZ G True.intro ?_ ?_
    all_goals intro ht
    · have ht' := of_decide_eq_true ht
      repeat' first
        | refine W.seq ?_ | (refine W.regS G ?_; dsimp only) | refine SW.nil ?_ | refine thenQ_normal ?_ | refine W.skip ?_ | refine W.exit ?_ | refine thenQ_exit ?_ | refine inBlockQ_exit ?_ | refine inBlockQ_normal ?_ | refine W.block ?_
        | (apply SW.toC; refine SWcall.go True.intro ?_) | (apply SW.toOp; refine SWop.go True.intro ?_) | (apply SW.toCG; first | refine SWcall.yes True.intro ?_ | refine SWcall.no True.intro ?_) | (apply SW.toG; first | refine SWop.yes True.intro ?_ | refine SWop.no True.intro ?_)
      refine W.loopI (ι := {y : Nat // y ≤ 5}) (fun y => sL [(1, .p 1 0 0 0), (2, .p 2 0 0 0), (3, .p 3 0 0 0), (6, .p 6 0 0 0), (7, .i x), (8, .i y.1)] [(1, .agg 25 (.u 64 (rtIn c x y.1 a1))), (2, .agg 25 (.u 64 (zeros 64 25))), (3, .agg 5 (.u 64 c)), (6, .agg 25 (.u 64 (zeros 64 25)))] 137) (fun y => 5 - y.1) ⟨0, Nat.zero_le _⟩ (Imp.le ?_) ?_
      · exact sL_leZ True.intro
      rintro ⟨y, hy⟩
      repeat' first
        | refine W.seq ?_ | (refine W.regS G ?_; dsimp only) | refine SW.nil ?_ | refine thenQ_normal ?_ | refine W.skip ?_ | refine W.exit ?_ | refine thenQ_exit ?_ | refine inBlockQ_exit ?_ | refine inBlockQ_normal ?_ | refine W.block ?_
        | (apply SW.toC; refine SWcall.go True.intro ?_) | (apply SW.toOp; refine SWop.go True.intro ?_) | (apply SW.toCG; first | refine SWcall.yes True.intro ?_ | refine SWcall.no True.intro ?_) | (apply SW.toG; first | refine SWop.yes True.intro ?_ | refine SWop.no True.intro ?_)
      refine W.condZ G True.intro ?_ ?_
      all_goals intro hu
      · have hu' := of_decide_eq_true hu
        repeat' first
          | refine W.seq ?_ | (refine W.regS G ?_; dsimp only) | refine SW.nil ?_ | refine thenQ_normal ?_ | refine W.skip ?_ | refine W.exit ?_ | refine thenQ_exit ?_ | refine inBlockQ_exit ?_ | refine inBlockQ_normal ?_ | refine W.block ?_
          | (apply SW.toC; refine SWcall.go upS.eq_1 ?_) | (apply SW.toOp; refine SWop.go upS.eq_1 ?_) | (apply SW.toCG; first | refine SWcall.yes upS.eq_1 ?_ | refine SWcall.no upS.eq_1 ?_) | (apply SW.toG; first | refine SWop.yes upS.eq_1 ?_ | refine SWop.no upS.eq_1 ?_)
        refine W.drawS G [[], [], [], [], [2], [4, 2, 3], [5, 4, 2, 3], [], [7], [8, 7], [9, 8, 7], [10, 9, 8, 7], [6, 5, 4, 2, 3, 11, 10, 9, 8, 7], [], [13], [14, 13], [15, 14, 13], [16, 15, 14, 13], [17, 16, 15, 14, 13], [12, 6, 5, 4, 2, 3, 11, 10, 9, 8, 7, 18, 17, 16, 15, 14, 13], [0], [20, 0, 1, 2, 3, 4, 5, 6, 7, 8, 9, 10, 11, 12, 13, 14, 15, 16, 17, 18, 19], [21, 20, 0, 1, 2, 3, 4, 5, 6, 7, 8, 9, 10, 11, 12, 13, 14, 15, 16, 17, 18, 19]] hmix ?_
        dsimp only
        repeat' first
          | (apply DW.nil; (focus (decide +kernel)))
          | (apply DW.toC; refine DWcall.go upS.eq_1 ?_) | (apply DW.toOp; refine DWop.go upS.eq_1 ?_) | (apply DW.toCG; first | refine DWcall.yes upS.eq_1 ?_ | refine DWcall.no upS.eq_1 ?_) | (apply DW.toG; first | refine DWop.yes upS.eq_1 ?_ | refine DWop.no upS.eq_1 ?_)
        repeat' first
          | refine W.seq ?_ | (refine W.regS G ?_; dsimp only) | refine SW.nil ?_ | refine thenQ_normal ?_ | refine W.skip ?_ | refine W.exit ?_ | refine thenQ_exit ?_ | refine inBlockQ_exit ?_ | refine inBlockQ_normal ?_ | refine W.block ?_
          | (apply SW.toC; refine SWcall.go upS.eq_1 ?_) | (apply SW.toOp; refine SWop.go upS.eq_1 ?_) | (apply SW.toCG; first | refine SWcall.yes upS.eq_1 ?_ | refine SWcall.no upS.eq_1 ?_) | (apply SW.toG; first | refine SWop.yes upS.eq_1 ?_ | refine SWop.no upS.eq_1 ?_)
        refine ⟨⟨y + 1, by omega⟩, Imp.le ?_, by show _ - (y + 1) < _ - y; omega⟩
        exact sL_leZ upS.eq_1
      have hu' := of_decide_eq_false hu
      obtain rfl : y = 5 := by omega
      repeat' first
        | refine W.seq ?_ | (refine W.regS G ?_; dsimp only) | refine SW.nil ?_ | refine thenQ_normal ?_ | refine W.skip ?_ | refine W.exit ?_ | refine thenQ_exit ?_ | refine inBlockQ_exit ?_ | refine inBlockQ_normal ?_ | refine W.block ?_
        | (apply SW.toC; refine SWcall.go e ?_) | (apply SW.toOp; refine SWop.go e ?_) | (apply SW.toCG; first | refine SWcall.yes e ?_ | refine SWcall.no e ?_) | (apply SW.toG; first | refine SWop.yes e ?_ | refine SWop.no e ?_)
      refine ⟨⟨x + 1, by omega⟩, Imp.le ?_, by show _ - (x + 1) < _ - x; omega⟩
      exact sL_leZ e
    have ht' := of_decide_eq_false ht
    have hh := hend (by omega)
    repeat' first
      | refine W.seq ?_ | (refine W.regS G ?_; dsimp only) | refine SW.nil ?_ | refine thenQ_normal ?_ | refine W.skip ?_ | refine W.exit ?_ | refine thenQ_exit ?_ | refine inBlockQ_exit ?_ | refine inBlockQ_normal ?_ | refine W.block ?_
      | (apply SW.toC; refine SWcall.go True.intro ?_) | (apply SW.toOp; refine SWop.go True.intro ?_) | (apply SW.toCG; first | refine SWcall.yes True.intro ?_ | refine SWcall.no True.intro ?_) | (apply SW.toG; first | refine SWop.yes True.intro ?_ | refine SWop.no True.intro ?_)
    refine Imp.le ?_
    exact sL_leZ hh
  generalize rT c 5 a = a2 at hR ⊢
  repeat' first
    | refine W.seq ?_ | (refine W.regS G ?_; dsimp only) | refine SW.nil ?_ | refine thenQ_normal ?_ | refine W.skip ?_ | refine W.exit ?_ | refine thenQ_exit ?_ | refine inBlockQ_exit ?_ | refine inBlockQ_normal ?_
    | (apply SW.toC; refine SWcall.go True.intro ?_) | (apply SW.toOp; refine SWop.go True.intro ?_) | (apply SW.toCG; first | refine SWcall.yes True.intro ?_ | refine SWcall.no True.intro ?_) | (apply SW.toG; first | refine SWop.yes True.intro ?_ | refine SWop.no True.intro ?_)
  refine W.mid (sL [(1, .p 1 0 0 0), (2, .p 2 0 0 0), (6, .p 6 0 0 0)] [(1, .agg 25 (.u 64 a2)), (2, .agg 25 (.u 64 (zeros 64 25))), (6, .agg 25 (.u 64 (rRho a2)))] 137) ?_ ?_
  · repeat' first
      | refine W.seq ?_ | (refine W.regS G ?_; dsimp only) | refine SW.nil ?_ | refine thenQ_normal ?_ | refine W.skip ?_ | refine W.exit ?_ | refine thenQ_exit ?_ | refine inBlockQ_exit ?_ | refine inBlockQ_normal ?_ | refine W.block ?_
      | (apply SW.toC; refine SWcall.go True.intro ?_) | (apply SW.toOp; refine SWop.go True.intro ?_) | (apply SW.toCG; first | refine SWcall.yes True.intro ?_ | refine SWcall.no True.intro ?_) | (apply SW.toG; first | refine SWop.yes True.intro ?_ | refine SWop.no True.intro ?_)
    refine W.loopI (ι := {t : Nat // t ≤ 24}) (fun t => sL [(1, .p 1 0 0 0), (2, .p 2 0 0 0), (6, .p 6 0 0 0), (9, .i (rXY t.1).1), (10, .i (rXY t.1).2), (11, .i t.1)] [(1, .agg 25 (.u 64 a2)), (2, .agg 25 (.u 64 (zeros 64 25))), (6, .agg 25 (.u 64 (rP a2 t.1 ((zeros 64 25).set 0 (a2.getD 0 0)))))] 137) (fun t => 24 - t.1) ⟨0, Nat.zero_le _⟩ (Imp.le ?_) ?_
    · exact sL_leZ True.intro
    rintro ⟨t, ht0⟩
    have hs := rXY_in t
    have e : rP a2 (t + 1) ((zeros 64 25).set 0 (a2.getD 0 0)) = (rP a2 t ((zeros 64 25).set 0 (a2.getD 0 0))).set ((rXY t).2.toNat * 5 + ((2 * (rXY t).1 + 3 * (rXY t).2) % 5).toNat) (upF (a2.getD ((rXY t).1.toNat * 5 + (rXY t).2.toNat) 0) (((t : Int) + 1) * ((t : Int) + 2) / 2)) := by rw [rP, itN_succ]; rfl
    have e2 : rXY (t + 1) = ((rXY t).2, (2 * (rXY t).1 + 3 * (rXY t).2) % 5) := rfl
    have hend : t = 24 → rRho a2 = rP a2 t ((zeros 64 25).set 0 (a2.getD 0 0)) := by rintro rfl; rfl
    generalize rP a2 t ((zeros 64 25).set 0 (a2.getD 0 0)) = b at e hend ⊢
    generalize rXY t = p at hs e e2 ⊢
    obtain ⟨px, py⟩ := p
    dsimp only at hs e e2 ⊢
    repeat' first
      | refine W.seq ?_ | (refine W.regS G ?_; dsimp only) | refine SW.nil ?_ | refine thenQ_normal ?_ | refine W.skip ?_ | refine W.exit ?_ | refine thenQ_exit ?_ | refine inBlockQ_exit ?_ | refine inBlockQ_normal ?_ | refine W.block ?_
      | (apply SW.toC; refine SWcall.go True.intro ?_) | (apply SW.toOp; refine SWop.go True.intro ?_) | (apply SW.toCG; first | refine SWcall.yes True.intro ?_ | refine SWcall.no True.intro ?_) | (apply SW.toG; first | refine SWop.yes True.intro ?_ | refine SWop.no True.intro ?_)
    refine W.condZ G True.intro ?_ ?_
    all_goals intro ht
    · have ht' := of_decide_eq_true ht
      have hm : ((t : Int) + 1) * ((t : Int) + 2) ≤ 25 * 26 := Int.mul_le_mul (by omega) (by omega) (by omega) (by omega)
      have hm0 : 0 ≤ ((t : Int) + 1) * ((t : Int) + 2) := Int.mul_nonneg (by omega) (by omega)
      repeat' first
        | refine W.seq ?_ | (refine W.regS G ?_; dsimp only) | refine SW.nil ?_ | refine thenQ_normal ?_ | refine W.skip ?_ | refine W.exit ?_ | refine thenQ_exit ?_ | refine inBlockQ_exit ?_ | refine inBlockQ_normal ?_ | refine W.block ?_
        | (apply SW.toC; refine SWcall.go upS.eq_1 ?_) | (apply SW.toOp; refine SWop.go upS.eq_1 ?_) | (apply SW.toCG; first | refine SWcall.yes upS.eq_1 ?_ | refine SWcall.no upS.eq_1 ?_) | (apply SW.toG; first | refine SWop.yes upS.eq_1 ?_ | refine SWop.no upS.eq_1 ?_)
      refine W.drawS G [[], [], [1], [], [3], [2, 1, 4, 3], [5, 2, 1, 4, 3], [], [], [7], [9, 7, 8], [10, 9, 7, 8], [], [12], [], [14], [13, 12, 15, 14], [16, 13, 12, 15, 14], [11, 10, 9, 7, 8, 17, 16, 13, 12, 15, 14], [0], [19, 0, 6, 5, 2, 1, 4, 3, 7, 8, 9, 10, 11, 12, 13, 14, 15, 16, 17, 18], [20, 19, 0, 6, 5, 2, 1, 4, 3, 7, 8, 9, 10, 11, 12, 13, 14, 15, 16, 17, 18]] hmix ?_
      dsimp only
      repeat' first
        | (apply DW.nil; (focus (decide +kernel)))
        | (apply DW.toC; refine DWcall.go upS.eq_1 ?_) | (apply DW.toOp; refine DWop.go upS.eq_1 ?_) | (apply DW.toCG; first | refine DWcall.yes upS.eq_1 ?_ | refine DWcall.no upS.eq_1 ?_) | (apply DW.toG; first | refine DWop.yes upS.eq_1 ?_ | refine DWop.no upS.eq_1 ?_)
      repeat' first
        | refine W.seq ?_ | (refine W.regS G ?_; dsimp only) | refine SW.nil ?_ | refine thenQ_normal ?_ | refine W.skip ?_ | refine W.exit ?_ | refine thenQ_exit ?_ | refine inBlockQ_exit ?_ | refine inBlockQ_normal ?_ | refine W.block ?_
        | (apply SW.toC; refine SWcall.go (And.intro e e2) ?_) | (apply SW.toOp; refine SWop.go (And.intro e e2) ?_) | (apply SW.toCG; first | refine SWcall.yes (And.intro e e2) ?_ | refine SWcall.no (And.intro e e2) ?_) | (apply SW.toG; first | refine SWop.yes (And.intro e e2) ?_ | refine SWop.no (And.intro e e2) ?_)
      refine ⟨⟨t + 1, by omega⟩, Imp.le ?_, by show _ - (t + 1) < _ - t; omega⟩
      exact sL_leZ (And.intro e e2)
    have ht' := of_decide_eq_false ht
    have hh := hend (by omega)
    repeat' first
      | refine W.seq ?_ | (refine W.regS G ?_; dsimp only) | refine SW.nil ?_ | refine thenQ_normal ?_ | refine W.skip ?_ | refine W.exit ?_ | refine thenQ_exit ?_ | refine inBlockQ_exit ?_ | refine inBlockQ_normal ?_ | refine W.block ?_
      | (apply SW.toC; refine SWcall.go True.intro ?_) | (apply SW.toOp; refine SWop.go True.intro ?_) | (apply SW.toCG; first | refine SWcall.yes True.intro ?_ | refine SWcall.no True.intro ?_) | (apply SW.toG; first | refine SWop.yes True.intro ?_ | refine SWop.no True.intro ?_)
    refine Imp.le ?_
    exact sL_leZ hh
  generalize rRho a2 = b at hR ⊢
  repeat' first
    | refine W.seq ?_ | (refine W.regS G ?_; dsimp only) | refine SW.nil ?_ | refine thenQ_normal ?_ | refine W.skip ?_ | refine W.exit ?_ | refine thenQ_exit ?_ | refine inBlockQ_exit ?_ | refine inBlockQ_normal ?_ | refine W.block ?_
    | (apply SW.toC; refine SWcall.go True.intro ?_) | (apply SW.toOp; refine SWop.go True.intro ?_) | (apply SW.toCG; first | refine SWcall.yes True.intro ?_ | refine SWcall.no True.intro ?_) | (apply SW.toG; first | refine SWop.yes True.intro ?_ | refine SWop.no True.intro ?_)
  refine W.loopI (ι := {y : Nat // y ≤ 5}) (fun y => sL [(1, .p 1 0 0 0), (2, .p 2 0 0 0), (6, .p 6 0 0 0), (12, .i y.1)] [(1, .agg 25 (.u 64 (rK b y.1 a2))), (2, .agg 25 (.u 64 (zeros 64 25))), (6, .agg 25 (.u 64 b))] 137) (fun y => 5 - y.1) ⟨0, Nat.zero_le _⟩ (Imp.le ?_) ?_
  · exact sL_leZ True.intro
  rintro ⟨y, hy⟩
  have e : rK b (y + 1) a2 = rkIn b y 5 (rK b y a2) := by rw [rK, itN_succ]; rfl
  have hend : y = 5 → rK b 5 a2 = rK b y a2 := by rintro rfl; rfl
  generalize rK b y a2 = a3 at e hend ⊢
  repeat' first
    | refine W.seq ?_ | (refine W.regS G ?_; dsimp only) | refine SW.nil ?_ | refine thenQ_normal ?_ | refine W.skip ?_ | refine W.exit ?_ | refine thenQ_exit ?_ | refine inBlockQ_exit ?_ | refine inBlockQ_normal ?_ | refine W.block ?_
    | (apply SW.toC; refine SWcall.go True.intro ?_) | (apply SW.toOp; refine SWop.go True.intro ?_) | (apply SW.toCG; first | refine SWcall.yes True.intro ?_ | refine SWcall.no True.intro ?_) | (apply SW.toG; first | refine SWop.yes True.intro ?_ | refine SWop.no True.intro ?_)
  refine W.condZ G True.intro ?_ ?_
  all_goals intro ht
  · have ht' := of_decide_eq_true ht
    repeat' first
      | refine W.seq ?_ | (refine W.regS G ?_; dsimp only) | refine SW.nil ?_ | refine thenQ_normal ?_ | refine W.skip ?_ | refine W.exit ?_ | refine thenQ_exit ?_ | refine inBlockQ_exit ?_ | refine inBlockQ_normal ?_ | refine W.block ?_
      | (apply SW.toC; refine SWcall.go True.intro ?_) | (apply SW.toOp; refine SWop.go True.intro ?_) | (apply SW.toCG; first | refine SWcall.yes True.intro ?_ | refine SWcall.no True.intro ?_) | (apply SW.toG; first | refine SWop.yes True.intro ?_ | refine SWop.no True.intro ?_)
    refine W.loopI (ι := {x : Nat // x ≤ 5}) (fun x => sL [(1, .p 1 0 0 0), (2, .p 2 0 0 0), (6, .p 6 0 0 0), (12, .i y), (13, .i x.1)] [(1, .agg 25 (.u 64 (rkIn b y x.1 a3))), (2, .agg 25 (.u 64 (zeros 64 25))), (6, .agg 25 (.u 64 b))] 137) (fun x => 5 - x.1) ⟨0, Nat.zero_le _⟩ (Imp.le ?_) ?_
    · exact sL_leZ True.intro
    rintro ⟨x, hx⟩
    repeat' first
      | refine W.seq ?_ | (refine W.regS G ?_; dsimp only) | refine SW.nil ?_ | refine thenQ_normal ?_ | refine W.skip ?_ | refine W.exit ?_ | refine thenQ_exit ?_ | refine inBlockQ_exit ?_ | refine inBlockQ_normal ?_ | refine W.block ?_
      | (apply SW.toC; refine SWcall.go True.intro ?_) | (apply SW.toOp; refine SWop.go True.intro ?_) | (apply SW.toCG; first | refine SWcall.yes True.intro ?_ | refine SWcall.no True.intro ?_) | (apply SW.toG; first | refine SWop.yes True.intro ?_ | refine SWop.no True.intro ?_)
    refine W.condZ G True.intro ?_ ?_
    all_goals intro hu
    · have hu' := of_decide_eq_true hu
      repeat' first
        | refine W.seq ?_ | (refine W.regS G ?_; dsimp only) | refine SW.nil ?_ | refine thenQ_normal ?_ | refine W.skip ?_ | refine W.exit ?_ | refine thenQ_exit ?_ | refine inBlockQ_exit ?_ | refine inBlockQ_normal ?_ | refine W.block ?_
        | (apply SW.toC; refine SWcall.go True.intro ?_) | (apply SW.toOp; refine SWop.go True.intro ?_) | (apply SW.toCG; first | refine SWcall.yes True.intro ?_ | refine SWcall.no True.intro ?_) | (apply SW.toG; first | refine SWop.yes True.intro ?_ | refine SWop.no True.intro ?_)
      refine W.drawS G [[], [], [], [], [2], [4, 2, 3], [5, 4, 2, 3], [], [7], [8, 7], [], [9, 8, 7], [11, 9, 8, 7, 10], [12, 11, 9, 8, 7, 10], [13, 12, 11, 9, 8, 7, 10], [], [15], [16, 15], [], [17, 16, 15], [19, 17, 16, 15, 18], [20, 19, 17, 16, 15, 18], [14, 13, 12, 11, 9, 8, 7, 10, 21, 20, 19, 17, 16, 15, 18], [6, 5, 4, 2, 3, 22, 14, 13, 12, 11, 9, 8, 7, 10, 21, 20, 19, 17, 16, 15, 18], [0], [24, 0, 1, 2, 3, 4, 5, 6, 7, 8, 9, 10, 11, 12, 13, 14, 15, 16, 17, 18, 19, 20, 21, 22, 23], [25, 24, 0, 1, 2, 3, 4, 5, 6, 7, 8, 9, 10, 11, 12, 13, 14, 15, 16, 17, 18, 19, 20, 21, 22, 23]] hmix ?_
      dsimp only
      repeat' first
        | (apply DW.nil; (focus (decide +kernel)))
        | (apply DW.toC; refine DWcall.go True.intro ?_) | (apply DW.toOp; refine DWop.go True.intro ?_) | (apply DW.toCG; first | refine DWcall.yes True.intro ?_ | refine DWcall.no True.intro ?_) | (apply DW.toG; first | refine DWop.yes True.intro ?_ | refine DWop.no True.intro ?_)
      repeat' first
        | refine W.seq ?_ | (refine W.regS G ?_; dsimp only) | refine SW.nil ?_ | refine thenQ_normal ?_ | refine W.skip ?_ | refine W.exit ?_ | refine thenQ_exit ?_ | refine inBlockQ_exit ?_ | refine inBlockQ_normal ?_ | refine W.block ?_
        | (apply SW.toC; refine SWcall.go True.intro ?_) | (apply SW.toOp; refine SWop.go True.intro ?_) | (apply SW.toCG; first | refine SWcall.yes True.intro ?_ | refine SWcall.no True.intro ?_) | (apply SW.toG; first | refine SWop.yes True.intro ?_ | refine SWop.no True.intro ?_)
      refine ⟨⟨x + 1, by omega⟩, Imp.le ?_, by show _ - (x + 1) < _ - x; omega⟩
      exact sL_leZ True.intro
    have hu' := of_decide_eq_false hu
    obtain rfl : x = 5 := by omega
    repeat' first
      | refine W.seq ?_ | (refine W.regS G ?_; dsimp only) | refine SW.nil ?_ | refine thenQ_normal ?_ | refine W.skip ?_ | refine W.exit ?_ | refine thenQ_exit ?_ | refine inBlockQ_exit ?_ | refine inBlockQ_normal ?_ | refine W.block ?_
      | (apply SW.toC; refine SWcall.go e ?_) | (apply SW.toOp; refine SWop.go e ?_) | (apply SW.toCG; first | refine SWcall.yes e ?_ | refine SWcall.no e ?_) | (apply SW.toG; first | refine SWop.yes e ?_ | refine SWop.no e ?_)
    refine ⟨⟨y + 1, by omega⟩, Imp.le ?_, by show _ - (y + 1) < _ - y; omega⟩
    exact sL_leZ e
  have ht' := of_decide_eq_false ht
  have hh := hend (by omega)
  repeat' first
    | refine W.seq ?_ | (refine W.regS G ?_; dsimp only) | refine SW.nil ?_ | refine thenQ_normal ?_ | refine W.skip ?_ | refine W.exit ?_ | refine thenQ_exit ?_ | refine inBlockQ_exit ?_ | refine inBlockQ_normal ?_ | refine W.block ?_
    | (apply SW.toC; refine SWcall.go True.intro ?_) | (apply SW.toOp; refine SWop.go True.intro ?_) | (apply SW.toCG; first | refine SWcall.yes True.intro ?_ | refine SWcall.no True.intro ?_) | (apply SW.toG; first | refine SWop.yes True.intro ?_ | refine SWop.no True.intro ?_)
  refine W.ret ?_
  repeat' first
    | refine thenQ_ret ?_
    | refine inBlockQ_ret ?_
  refine fin1Z True.intro ?_
  rw [hR, hh]
  exact leV_refl
end Go.Vm.C03
