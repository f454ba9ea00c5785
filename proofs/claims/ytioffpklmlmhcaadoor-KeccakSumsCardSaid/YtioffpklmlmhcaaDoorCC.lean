/- What some functions of the program compute, walked through once. -/
import Derived.Test.YtioffpklmlmhcaaDoorCB
namespace Go.Vm.C03
open Go Go.Proofs
set_option linter.unusedVariables false
set_option linter.unusedSimpArgs false
set_option maxRecDepth 100000
set_option maxHeartbeats 8000000
variable {gl : Nat → Option Row}

/-! ### the permutation, the document's way -/
def K24 : List (BitVec 64) := (cRow 24).1
theorem K24_len : K24.length = 24 := (cRow_in 24).2
def rIn (s : List (BitVec 64)) (k : Nat) : List (BitVec 64) := itN (fun i a => a.set (((i : Int) % 5).toNat * 5 + ((i : Int) / 5).toNat) (s.getD i 0)) k (zeros 64 25)
def rStep (i : Nat) (a : List (BitVec 64)) : List (BitVec 64) := (rRound a).set 0 ((rRound a).getD 0 0 ^^^ K24.getD i 0)
def rOut (a : List (BitVec 64)) (k : Nat) (s : List (BitVec 64)) : List (BitVec 64) := itN (fun i s => s.set i (a.getD (((i : Int) % 5).toNat * 5 + ((i : Int) / 5).toNat) 0)) k s
def refPerm (s : List (BitVec 64)) : List (BitVec 64) := rOut (itN rStep 24 (rIn s 25)) 25 s
noncomputable def refPermS : FSpec := { run := fun ins => match ins with
  | [.agg 25 (.u 64 s)] => some (.agg 25 (.u 64 (refPerm s)), [])
  | _ => none }
theorem refPerm_sound (hro : ∀ g r, gl g = some r → r.ro = r) : SoundFn Tryd.prog gl 13 refPermS.run := by
  have G := good_of (P := Tryd.prog) hro (l := [(17, constS), (18, roundS)]) (by simp only [List.forall_mem_cons]; exact ⟨const_sound hro, round_sound hro, by simp⟩)
  refine soundFn_of_W G Tryd.func13 (by decide) rfl (by decide) ?_
  intro ins ret outs h
  unfold refPermS at h
  dsimp only at h
  split at h
  rotate_left
  · cases h
  rename_i s
  cases h
  refine ⟨by show 1 ≤ 53; decide, fun w0 ext av => ?_⟩
  rw [Tryd.ntmps13, st0_eq]
  have hK : (cRow 24).1 = K24 := rfl
  have lK := K24_len
  repeat' first
    | refine W.seq ?_ | (refine W.regS G ?_; dsimp only) | refine SW.nil ?_ | refine thenQ_normal ?_ | refine W.skip ?_ | refine W.exit ?_ | refine thenQ_exit ?_ | refine inBlockQ_exit ?_ | refine inBlockQ_normal ?_
    | (apply SW.toC; refine SWcall.go (And.intro constS.eq_1 hK) ?_) | (apply SW.toOp; refine SWop.go (And.intro constS.eq_1 hK) ?_) | (apply SW.toCG; first | refine SWcall.yes (And.intro constS.eq_1 hK) ?_ | refine SWcall.no (And.intro constS.eq_1 hK) ?_) | (apply SW.toG; first | refine SWop.yes (And.intro constS.eq_1 hK) ?_ | refine SWop.no (And.intro constS.eq_1 hK) ?_)
  refine W.mid (sL [(1, .p 1 0 0 0), (2, .p 2 0 0 0), (3, .p 3 0 0 0), (4, .sl true (.u 64 K24))] [(1, .agg 25 (.u 64 s)), (2, .agg 25 (.u 64 (zeros 64 25))), (3, .agg 25 (.u 64 (rIn s 25)))] 53) ?_ ?_
  · repeat' first
      | refine W.seq ?_ | (refine W.regS G ?_; dsimp only) | refine SW.nil ?_ | refine thenQ_normal ?_ | refine W.skip ?_ | refine W.exit ?_ | refine thenQ_exit ?_ | refine inBlockQ_exit ?_ | refine inBlockQ_normal ?_ | refine W.block ?_
      | (apply SW.toC; refine SWcall.go (And.intro constS.eq_1 hK) ?_) | (apply SW.toOp; refine SWop.go (And.intro constS.eq_1 hK) ?_) | (apply SW.toCG; first | refine SWcall.yes (And.intro constS.eq_1 hK) ?_ | refine SWcall.no (And.intro constS.eq_1 hK) ?_) | (apply SW.toG; first | refine SWop.yes (And.intro constS.eq_1 hK) ?_ | refine SWop.no (And.intro constS.eq_1 hK) ?_)
    refine W.loopI (ι := {i : Nat // i ≤ 25}) (fun i => sL [(1, .p 1 0 0 0), (2, .p 2 0 0 0), (3, .p 3 0 0 0), (4, .sl true (.u 64 K24)), (5, .i i.1)] [(1, .agg 25 (.u 64 s)), (2, .agg 25 (.u 64 (zeros 64 25))), (3, .agg 25 (.u 64 (rIn s i.1)))] 53) (fun i => 25 - i.1) ⟨0, Nat.zero_le _⟩ (Imp.le ?_) ?_
    · exact sL_leZ (And.intro constS.eq_1 hK)
    rintro ⟨i, hi⟩
    repeat' first
      | refine W.seq ?_ | (refine W.regS G ?_; dsimp only) | refine SW.nil ?_ | refine thenQ_normal ?_ | refine W.skip ?_ | refine W.exit ?_ | refine thenQ_exit ?_ | refine inBlockQ_exit ?_ | refine inBlockQ_normal ?_ | refine W.block ?_
      | (apply SW.toC; refine SWcall.go True.intro ?_) | (apply SW.toOp; refine SWop.go True.intro ?_) | (apply SW.toCG; first | refine SWcall.yes True.intro ?_ | refine SWcall.no True.intro ?_) | (apply SW.toG; first | refine SWop.yes True.intro ?_ | refine SWop.no True.intro ?_)
    refine W.condZ G True.intro ?_ ?_
    all_goals intro ht
    · have ht' := of_decide_eq_true ht
      repeat' first
        | refine W.seq ?_ | (refine W.regS G ?_; dsimp only) | refine SW.nil ?_ | refine thenQ_normal ?_ | refine W.skip ?_ | refine W.exit ?_ | refine thenQ_exit ?_ | refine inBlockQ_exit ?_ | refine inBlockQ_normal ?_ | refine W.block ?_
        | (apply SW.toC; refine SWcall.go True.intro ?_) | (apply SW.toOp; refine SWop.go True.intro ?_) | (apply SW.toCG; first | refine SWcall.yes True.intro ?_ | refine SWcall.no True.intro ?_) | (apply SW.toG; first | refine SWop.yes True.intro ?_ | refine SWop.no True.intro ?_)
      refine W.drawS G [[], [0], [], [2], [], [4], [5, 4], [1, 0], [7, 1, 0, 3, 2, 4, 5, 6], [8, 7, 1, 0, 3, 2, 4, 5, 6]] hmix ?_
      dsimp only
      repeat' first
        | (apply DW.nil; (focus (decide +kernel)))
        | (apply DW.toC; refine DWcall.go True.intro ?_) | (apply DW.toOp; refine DWop.go True.intro ?_) | (apply DW.toCG; first | refine DWcall.yes True.intro ?_ | refine DWcall.no True.intro ?_) | (apply DW.toG; first | refine DWop.yes True.intro ?_ | refine DWop.no True.intro ?_)
      repeat' first
        | refine W.seq ?_ | (refine W.regS G ?_; dsimp only) | refine SW.nil ?_ | refine thenQ_normal ?_ | refine W.skip ?_ | refine W.exit ?_ | refine thenQ_exit ?_ | refine inBlockQ_exit ?_ | refine inBlockQ_normal ?_ | refine W.block ?_
        | (apply SW.toC; refine SWcall.go True.intro ?_) | (apply SW.toOp; refine SWop.go True.intro ?_) | (apply SW.toCG; first | refine SWcall.yes True.intro ?_ | refine SWcall.no True.intro ?_) | (apply SW.toG; first | refine SWop.yes True.intro ?_ | refine SWop.no True.intro ?_)
      refine ⟨⟨i + 1, by omega⟩, Imp.le ?_, by show _ - (i + 1) < _ - i; omega⟩
      exact sL_leZ True.intro
    have ht' := of_decide_eq_false ht
    obtain rfl : i = 25 := by omega
    repeat' first
      | refine W.seq ?_ | (refine W.regS G ?_; dsimp only) | refine SW.nil ?_ | refine thenQ_normal ?_ | refine W.skip ?_ | refine W.exit ?_ | refine thenQ_exit ?_ | refine inBlockQ_exit ?_ | refine inBlockQ_normal ?_ | refine W.block ?_
      | (apply SW.toC; refine SWcall.go True.intro ?_) | (apply SW.toOp; refine SWop.go True.intro ?_) | (apply SW.toCG; first | refine SWcall.yes True.intro ?_ | refine SWcall.no True.intro ?_) | (apply SW.toG; first | refine SWop.yes True.intro ?_ | refine SWop.no True.intro ?_)
    refine Imp.le ?_
    exact sL_leZ True.intro
  have hR : refPerm s = rOut (itN rStep 24 (rIn s 25)) 25 s := rfl
  generalize rIn s 25 = a0 at hR ⊢
  repeat' first
    | refine W.seq ?_ | (refine W.regS G ?_; dsimp only) | refine SW.nil ?_ | refine thenQ_normal ?_ | refine W.skip ?_ | refine W.exit ?_ | refine thenQ_exit ?_ | refine inBlockQ_exit ?_ | refine inBlockQ_normal ?_
    | (apply SW.toC; refine SWcall.go True.intro ?_) | (apply SW.toOp; refine SWop.go True.intro ?_) | (apply SW.toCG; first | refine SWcall.yes True.intro ?_ | refine SWcall.no True.intro ?_) | (apply SW.toG; first | refine SWop.yes True.intro ?_ | refine SWop.no True.intro ?_)
  refine W.mid (sL [(1, .p 1 0 0 0), (2, .p 2 0 0 0), (3, .p 3 0 0 0)] [(1, .agg 25 (.u 64 s)), (2, .agg 25 (.u 64 (zeros 64 25))), (3, .agg 25 (.u 64 (itN rStep 24 a0)))] 53) ?_ ?_
  · repeat' first
      | refine W.seq ?_ | (refine W.regS G ?_; dsimp only) | refine SW.nil ?_ | refine thenQ_normal ?_ | refine W.skip ?_ | refine W.exit ?_ | refine thenQ_exit ?_ | refine inBlockQ_exit ?_ | refine inBlockQ_normal ?_ | refine W.block ?_
      | (apply SW.toC; refine SWcall.go True.intro ?_) | (apply SW.toOp; refine SWop.go True.intro ?_) | (apply SW.toCG; first | refine SWcall.yes True.intro ?_ | refine SWcall.no True.intro ?_) | (apply SW.toG; first | refine SWop.yes True.intro ?_ | refine SWop.no True.intro ?_)
    refine W.loopI (ι := {i : Nat // i ≤ 24}) (fun i => sL [(1, .p 1 0 0 0), (2, .p 2 0 0 0), (3, .p 3 0 0 0), (4, .sl true (.u 64 K24)), (6, .i i.1)] [(1, .agg 25 (.u 64 s)), (2, .agg 25 (.u 64 (zeros 64 25))), (3, .agg 25 (.u 64 (itN rStep i.1 a0)))] 53) (fun i => 24 - i.1) ⟨0, Nat.zero_le _⟩ (Imp.le ?_) ?_
    · exact sL_leZ True.intro
    rintro ⟨i, hi⟩
    have e : itN rStep (i + 1) a0 = rStep i (itN rStep i a0) := itN_succ _ _ _
    have hend : i = 24 → itN rStep 24 a0 = itN rStep i a0 := by rintro rfl; rfl
    generalize itN rStep i a0 = a at e hend ⊢
    repeat' first
      | refine W.seq ?_ | (refine W.regS G ?_; dsimp only) | refine SW.nil ?_ | refine thenQ_normal ?_ | refine W.skip ?_ | refine W.exit ?_ | refine thenQ_exit ?_ | refine inBlockQ_exit ?_ | refine inBlockQ_normal ?_ | refine W.block ?_
      | (apply SW.toC; refine SWcall.go True.intro ?_) | (apply SW.toOp; refine SWop.go True.intro ?_) | (apply SW.toCG; first | refine SWcall.yes True.intro ?_ | refine SWcall.no True.intro ?_) | (apply SW.toG; first | refine SWop.yes True.intro ?_ | refine SWop.no True.intro ?_)
    refine W.condZ G True.intro ?_ ?_
    all_goals intro ht
    · have ht' := of_decide_eq_true ht
      repeat' first
        | refine W.seq ?_ | (refine W.regS G ?_; dsimp only) | refine SW.nil ?_ | refine thenQ_normal ?_ | refine W.skip ?_ | refine W.exit ?_ | refine thenQ_exit ?_ | refine inBlockQ_exit ?_ | refine inBlockQ_normal ?_ | refine W.block ?_
        | (apply SW.toC; refine SWcall.go (And.intro roundS.eq_1 lK) ?_) | (apply SW.toOp; refine SWop.go (And.intro roundS.eq_1 lK) ?_) | (apply SW.toCG; first | refine SWcall.yes (And.intro roundS.eq_1 lK) ?_ | refine SWcall.no (And.intro roundS.eq_1 lK) ?_) | (apply SW.toG; first | refine SWop.yes (And.intro roundS.eq_1 lK) ?_ | refine SWop.no (And.intro roundS.eq_1 lK) ?_)
      have e3 : rStep i a = (rRound a).set 0 ((rRound a).getD 0 0 ^^^ K24.getD i 0) := rfl
      generalize rRound a = ra at e3 ⊢
      refine W.drawS G [[], [0], [1, 0], [], [], [3, 4], [5, 3, 4], [2, 1, 0, 6, 5, 3, 4], [], [8, 0, 1, 2, 3, 4, 5, 6, 7], [9, 8, 0, 1, 2, 3, 4, 5, 6, 7]] hmix ?_
      dsimp only
      repeat' first
        | (apply DW.nil; (focus (decide +kernel)))
        | (apply DW.toC; refine DWcall.go (And.intro roundS.eq_1 lK) ?_) | (apply DW.toOp; refine DWop.go (And.intro roundS.eq_1 lK) ?_) | (apply DW.toCG; first | refine DWcall.yes (And.intro roundS.eq_1 lK) ?_ | refine DWcall.no (And.intro roundS.eq_1 lK) ?_) | (apply DW.toG; first | refine DWop.yes (And.intro roundS.eq_1 lK) ?_ | refine DWop.no (And.intro roundS.eq_1 lK) ?_)
      repeat' first
        | refine W.seq ?_ | (refine W.regS G ?_; dsimp only) | refine SW.nil ?_ | refine thenQ_normal ?_ | refine W.skip ?_ | refine W.exit ?_ | refine thenQ_exit ?_ | refine inBlockQ_exit ?_ | refine inBlockQ_normal ?_ | refine W.block ?_
        | (apply SW.toC; refine SWcall.go (And.intro roundS.eq_1 lK) ?_) | (apply SW.toOp; refine SWop.go (And.intro roundS.eq_1 lK) ?_) | (apply SW.toCG; first | refine SWcall.yes (And.intro roundS.eq_1 lK) ?_ | refine SWcall.no (And.intro roundS.eq_1 lK) ?_) | (apply SW.toG; first | refine SWop.yes (And.intro roundS.eq_1 lK) ?_ | refine SWop.no (And.intro roundS.eq_1 lK) ?_)
      refine ⟨⟨i + 1, by omega⟩, Imp.le ?_, by show _ - (i + 1) < _ - i; omega⟩
      exact sL_leZ (And.intro e (And.intro e3 (And.intro roundS.eq_1 lK)))
    have ht' := of_decide_eq_false ht
    have hh := hend (by omega)
    repeat' first
      | refine W.seq ?_ | (refine W.regS G ?_; dsimp only) | refine SW.nil ?_ | refine thenQ_normal ?_ | refine W.skip ?_ | refine W.exit ?_ | refine thenQ_exit ?_ | refine inBlockQ_exit ?_ | refine inBlockQ_normal ?_ | refine W.block ?_
      | (apply SW.toC; refine SWcall.go True.intro ?_) | (apply SW.toOp; refine SWop.go True.intro ?_) | (apply SW.toCG; first | refine SWcall.yes True.intro ?_ | refine SWcall.no True.intro ?_) | (apply SW.toG; first | refine SWop.yes True.intro ?_ | refine SWop.no True.intro ?_)
    refine Imp.le ?_
    exact sL_leZ hh
  generalize itN rStep 24 a0 = a at hR ⊢
  repeat' first
    | refine W.seq ?_ | (refine W.regS G ?_; dsimp only) | refine SW.nil ?_ | refine thenQ_normal ?_ | refine W.skip ?_ | refine W.exit ?_ | refine thenQ_exit ?_ | refine inBlockQ_exit ?_ | refine inBlockQ_normal ?_ | refine W.block ?_
    | (apply SW.toC; refine SWcall.go True.intro ?_) | (apply SW.toOp; refine SWop.go True.intro ?_) | (apply SW.toCG; first | refine SWcall.yes True.intro ?_ | refine SWcall.no True.intro ?_) | (apply SW.toG; first | refine SWop.yes True.intro ?_ | refine SWop.no True.intro ?_)
  refine W.loopI (ι := {i : Nat // i ≤ 25}) (fun i => sL [(1, .p 1 0 0 0), (2, .p 2 0 0 0), (3, .p 3 0 0 0), (7, .i i.1)] [(1, .agg 25 (.u 64 (rOut a i.1 s))), (2, .agg 25 (.u 64 (zeros 64 25))), (3, .agg 25 (.u 64 a))] 53) (fun i => 25 - i.1) ⟨0, Nat.zero_le _⟩ (Imp.le ?_) ?_
  · exact sL_leZ True.intro
  rintro ⟨i, hi⟩
  repeat' first
    | refine W.seq ?_ | (refine W.regS G ?_; dsimp only) | refine SW.nil ?_ | refine thenQ_normal ?_ | refine W.skip ?_ | refine W.exit ?_ | refine thenQ_exit ?_ | refine inBlockQ_exit ?_ | refine inBlockQ_normal ?_ | refine W.block ?_
    | (apply SW.toC; refine SWcall.go True.intro ?_) | (apply SW.toOp; refine SWop.go True.intro ?_) | (apply SW.toCG; first | refine SWcall.yes True.intro ?_ | refine SWcall.no True.intro ?_) | (apply SW.toG; first | refine SWop.yes True.intro ?_ | refine SWop.no True.intro ?_)
  refine W.condZ G True.intro ?_ ?_
  all_goals intro ht
  · have ht' := of_decide_eq_true ht
    repeat' first
      | refine W.seq ?_ | (refine W.regS G ?_; dsimp only) | refine SW.nil ?_ | refine thenQ_normal ?_ | refine W.skip ?_ | refine W.exit ?_ | refine thenQ_exit ?_ | refine inBlockQ_exit ?_ | refine inBlockQ_normal ?_ | refine W.block ?_
      | (apply SW.toC; refine SWcall.go True.intro ?_) | (apply SW.toOp; refine SWop.go True.intro ?_) | (apply SW.toCG; first | refine SWcall.yes True.intro ?_ | refine SWcall.no True.intro ?_) | (apply SW.toG; first | refine SWop.yes True.intro ?_ | refine SWop.no True.intro ?_)
    refine ⟨⟨i + 1, by omega⟩, Imp.le ?_, by show _ - (i + 1) < _ - i; omega⟩
    exact sL_leZ True.intro
  have ht' := of_decide_eq_false ht
  obtain rfl : i = 25 := by omega
  repeat' first
    | refine W.seq ?_ | (refine W.regS G ?_; dsimp only) | refine SW.nil ?_ | refine thenQ_normal ?_ | refine W.skip ?_ | refine W.exit ?_ | refine thenQ_exit ?_ | refine inBlockQ_exit ?_ | refine inBlockQ_normal ?_ | refine W.block ?_
    | (apply SW.toC; refine SWcall.go True.intro ?_) | (apply SW.toOp; refine SWop.go True.intro ?_) | (apply SW.toCG; first | refine SWcall.yes True.intro ?_ | refine SWcall.no True.intro ?_) | (apply SW.toG; first | refine SWop.yes True.intro ?_ | refine SWop.no True.intro ?_)
  refine W.ret ?_
  repeat' first
    | refine thenQ_ret ?_
    | refine inBlockQ_ret ?_
  refine fin1Z True.intro ?_
  rw [hR]
  exact leV_refl
end Go.Vm.C03
