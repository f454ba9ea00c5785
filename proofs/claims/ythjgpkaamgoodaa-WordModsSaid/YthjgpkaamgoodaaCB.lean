/- What some functions of the program compute, walked through once. -/
import Derived.Test.YthjgpkaamgoodaaCA
import Derived.Test.YthjgpkaamgoodaaVd
namespace Go.Vm.C01
open Go Go.Proofs
set_option linter.unusedVariables false
set_option linter.unusedSimpArgs false
set_option maxRecDepth 100000
set_option maxHeartbeats 8000000

/-! ### the document's words -/
noncomputable def digS : FSpec := { run := fun ins => match ins with
  | [.agg 4 (.u 64 a)] => some (.sl true (.u 64 (digF a 16)), [])
  | _ => none }
theorem dig_sound : SoundFn Try.prog glB 71 digS.run := by
  have G := good_of (P := Try.prog) glB_ro (l := []) (by simp)
  refine soundFn_of_W G Try.func71 (by decide) rfl (by decide) ?_
  intro ins ret outs h
  unfold digS at h
  dsimp only at h
  split at h
  rotate_left
  · cases h
  rename_i a
  cases h
  refine ⟨by show 1 ≤ 24; decide, fun w0 ext av => ?_⟩
  rw [Try.ntmps71, st0_eq]
  repeat' first
    | refine W.seq ?_ | (refine W.regS G ?_; dsimp only) | refine SW.nil ?_ | refine thenQ_normal ?_ | refine W.skip ?_ | refine W.exit ?_ | refine thenQ_exit ?_ | refine inBlockQ_exit ?_ | refine inBlockQ_normal ?_ | refine W.block ?_
    | (apply SW.toC; refine SWcall.go True.intro ?_) | (apply SW.toOp; refine SWop.go True.intro ?_) | (apply SW.toCG; first | refine SWcall.yes True.intro ?_ | refine SWcall.no True.intro ?_) | (apply SW.toG; first | refine SWop.yes True.intro ?_ | refine SWop.no True.intro ?_)
  refine W.loopI (ι := {i : Nat // i ≤ 16}) (fun i => sL [(1, .p 1 0 0 0), (3, .gr 5 i.1), (4, .i i.1)] [(1, .agg 4 (.u 64 a)), (5, .row (.u 64 (digF a i.1)))] 24) (fun i => 16 - i.1) ⟨0, Nat.zero_le _⟩ (Imp.le ?_) ?_
  · exact sL_leZ True.intro
  rintro ⟨i, hi⟩
  have e : digF a (i + 1) = digF a i ++ [(a.getD (i / 4) 0 >>> (16 * (i % 4))) &&& 65535#64] := itN_succ _ _ _
  have l0 := digF_len a i
  have hend : i = 16 → digF a 16 = digF a i := by rintro rfl; rfl
  generalize digF a i = x at e l0 hend ⊢
  repeat' first
    | refine W.seq ?_ | (refine W.regS G ?_; dsimp only) | refine SW.nil ?_ | refine thenQ_normal ?_ | refine W.skip ?_ | refine W.exit ?_ | refine thenQ_exit ?_ | refine inBlockQ_exit ?_ | refine inBlockQ_normal ?_ | refine W.block ?_
    | (apply SW.toC; refine SWcall.go l0 ?_) | (apply SW.toOp; refine SWop.go l0 ?_) | (apply SW.toCG; first | refine SWcall.yes l0 ?_ | refine SWcall.no l0 ?_) | (apply SW.toG; first | refine SWop.yes l0 ?_ | refine SWop.no l0 ?_)
  refine W.condZ G l0 ?_ ?_
  all_goals intro ht
  · have ht' := of_decide_eq_true ht
    have e1 : ((i : Int) / 4) = ((i / 4 : Nat) : Int) := by omega
    have e2 : (16 * ((i : Int) % 4)) = ((16 * (i % 4) : Nat) : Int) := by omega
    have e3 : (BitVec.ofInt 64 ((16 * (i % 4) : Nat) : Int)).toNat = 16 * (i % 4) := by rw [BitVec.toNat_ofInt]; omega
    repeat' first
      | refine W.seq ?_ | (refine W.regS G ?_; dsimp only) | refine SW.nil ?_ | refine thenQ_normal ?_ | refine W.skip ?_ | refine W.exit ?_ | refine thenQ_exit ?_ | refine inBlockQ_exit ?_ | refine inBlockQ_normal ?_ | refine W.block ?_
      | (apply SW.toC; refine SWcall.go (And.intro l0 (And.intro e1 (And.intro e2 e3))) ?_) | (apply SW.toOp; refine SWop.go (And.intro l0 (And.intro e1 (And.intro e2 e3))) ?_) | (apply SW.toCG; first | refine SWcall.yes (And.intro l0 (And.intro e1 (And.intro e2 e3))) ?_ | refine SWcall.no (And.intro l0 (And.intro e1 (And.intro e2 e3))) ?_) | (apply SW.toG; first | refine SWop.yes (And.intro l0 (And.intro e1 (And.intro e2 e3))) ?_ | refine SWop.no (And.intro l0 (And.intro e1 (And.intro e2 e3))) ?_)
    refine ⟨⟨i + 1, by omega⟩, Imp.le ?_, by show _ - (i + 1) < _ - i; omega⟩
    exact sL_leZ (And.intro e (And.intro l0 (And.intro e1 (And.intro e2 e3))))
  have ht' := of_decide_eq_false ht
  obtain rfl : i = 16 := by omega
  have hh := hend rfl
  repeat' first
    | refine W.seq ?_ | (refine W.regS G ?_; dsimp only) | refine SW.nil ?_ | refine thenQ_normal ?_ | refine W.skip ?_ | refine W.exit ?_ | refine thenQ_exit ?_ | refine inBlockQ_exit ?_ | refine inBlockQ_normal ?_ | refine W.block ?_
    | (apply SW.toC; refine SWcall.go l0 ?_) | (apply SW.toOp; refine SWop.go l0 ?_) | (apply SW.toCG; first | refine SWcall.yes l0 ?_ | refine SWcall.no l0 ?_) | (apply SW.toG; first | refine SWop.yes l0 ?_ | refine SWop.no l0 ?_)
  refine W.ret ?_
  repeat' first
    | refine thenQ_ret ?_
    | refine inBlockQ_ret ?_
  refine fin1Z (And.intro l0 l0) ?_
  rw [hh]
  exact leV_refl

noncomputable def wordS : FSpec := { run := fun ins => match ins with
  | [.sl false (.u 64 d)] => chk (d.length ≤ 1000000) (some (.agg 4 (.u 64 (wordF d (min 16 d.length))), []))
  | _ => none }
theorem word_sound : SoundFn Try.prog glB 73 wordS.run := by
  have G := good_of (P := Try.prog) glB_ro (l := []) (by simp)
  refine soundFn_of_W G Try.func73 (by decide) rfl (by decide) ?_
  intro ins ret outs h
  unfold wordS at h
  dsimp only at h
  split at h
  rotate_left
  · cases h
  rename_i d
  obtain ⟨hl, h'⟩ := chk_some h
  clear h
  cases h'
  refine ⟨by show 1 ≤ 34; decide, fun w0 ext av => ?_⟩
  rw [Try.ntmps73, st0_eq]
  generalize hN : min 16 d.length = N
  repeat' first
    | refine W.seq ?_ | (refine W.regS G ?_; dsimp only) | refine SW.nil ?_ | refine thenQ_normal ?_ | refine W.skip ?_ | refine W.exit ?_ | refine thenQ_exit ?_ | refine inBlockQ_exit ?_ | refine inBlockQ_normal ?_ | refine W.block ?_
    | (apply SW.toC; refine SWcall.go True.intro ?_) | (apply SW.toOp; refine SWop.go True.intro ?_) | (apply SW.toCG; first | refine SWcall.yes True.intro ?_ | refine SWcall.no True.intro ?_) | (apply SW.toG; first | refine SWop.yes True.intro ?_ | refine SWop.no True.intro ?_)
  refine W.loopI (ι := {i : Nat // i ≤ N}) (fun i => sL [(0, .sl false (.u 64 d)), (2, .p 2 0 0 0), (3, .p 3 0 0 0), (4, .i i.1)] [(2, .agg 4 (.u 64 (zeros 64 4))), (3, .agg 4 (.u 64 (wordF d i.1)))] 34) (fun i => N - i.1) ⟨0, Nat.zero_le _⟩ (Imp.le ?_) ?_
  · exact sL_leZ True.intro
  rintro ⟨i, hi⟩
  have e : wordF d (i + 1) = (wordF d i).set (i / 4) ((wordF d i).getD (i / 4) 0 ||| d.getD i 0 <<< (16 * (i % 4))) := itN_succ _ _ _
  have l0 := wordF_len d i
  have hend : i = N → wordF d N = wordF d i := by rintro rfl; rfl
  generalize wordF d i = x at e l0 hend ⊢
  by_cases ht : i < N
  · have e4 : decide ((i : Int) < 16) = true := by simp; omega
    have e5 : decide ((i : Int) < (d.length : Int)) = true := by simp; omega
    have e1 : ((i : Int) / 4) = ((i / 4 : Nat) : Int) := by omega
    have e2 : (16 * ((i : Int) % 4)) = ((16 * (i % 4) : Nat) : Int) := by omega
    have e3 : (BitVec.ofInt 64 ((16 * (i % 4) : Nat) : Int)).toNat = 16 * (i % 4) := by rw [BitVec.toNat_ofInt]; omega
    repeat' first
      | refine W.seq ?_ | (refine W.regS G ?_; dsimp only) | refine SW.nil ?_ | refine thenQ_normal ?_ | refine W.skip ?_ | refine W.exit ?_ | refine thenQ_exit ?_ | refine inBlockQ_exit ?_ | refine inBlockQ_normal ?_ | refine W.block ?_
      | (apply SW.toC; refine SWcall.go (And.intro l0 (And.intro e1 (And.intro e2 (And.intro e3 (And.intro e4 e5))))) ?_) | (apply SW.toOp; refine SWop.go (And.intro l0 (And.intro e1 (And.intro e2 (And.intro e3 (And.intro e4 e5))))) ?_) | (apply SW.toCG; first | refine SWcall.yes (And.intro l0 (And.intro e1 (And.intro e2 (And.intro e3 (And.intro e4 e5))))) ?_ | refine SWcall.no (And.intro l0 (And.intro e1 (And.intro e2 (And.intro e3 (And.intro e4 e5))))) ?_) | (apply SW.toG; first | refine SWop.yes (And.intro l0 (And.intro e1 (And.intro e2 (And.intro e3 (And.intro e4 e5))))) ?_ | refine SWop.no (And.intro l0 (And.intro e1 (And.intro e2 (And.intro e3 (And.intro e4 e5))))) ?_)
    refine W.condZ G (And.intro l0 (And.intro e1 (And.intro e2 (And.intro e3 (And.intro e4 e5))))) ?_ ?_
    all_goals intro hc
    · repeat' first
        | refine W.seq ?_ | (refine W.regS G ?_; dsimp only) | refine SW.nil ?_ | refine thenQ_normal ?_ | refine W.skip ?_ | refine W.exit ?_ | refine thenQ_exit ?_ | refine inBlockQ_exit ?_ | refine inBlockQ_normal ?_ | refine W.block ?_
        | (apply SW.toC; refine SWcall.go (And.intro l0 (And.intro e1 (And.intro e2 (And.intro e3 (And.intro e4 e5))))) ?_) | (apply SW.toOp; refine SWop.go (And.intro l0 (And.intro e1 (And.intro e2 (And.intro e3 (And.intro e4 e5))))) ?_) | (apply SW.toCG; first | refine SWcall.yes (And.intro l0 (And.intro e1 (And.intro e2 (And.intro e3 (And.intro e4 e5))))) ?_ | refine SWcall.no (And.intro l0 (And.intro e1 (And.intro e2 (And.intro e3 (And.intro e4 e5))))) ?_) | (apply SW.toG; first | refine SWop.yes (And.intro l0 (And.intro e1 (And.intro e2 (And.intro e3 (And.intro e4 e5))))) ?_ | refine SWop.no (And.intro l0 (And.intro e1 (And.intro e2 (And.intro e3 (And.intro e4 e5))))) ?_)
      refine W.drawS G [[], [0], [], [2], [3, 2], [4, 3, 2], [], [], [6, 7], [8, 6, 7], [], [10], [11, 10], [12, 11, 10], [9, 8, 6, 7, 13, 12, 11, 10], [5, 4, 3, 2, 14, 9, 8, 6, 7, 13, 12, 11, 10], [1, 0, 2, 3, 4, 5, 6, 7, 8, 9, 10, 11, 12, 13, 14, 15], [16, 1, 0, 2, 3, 4, 5, 6, 7, 8, 9, 10, 11, 12, 13, 14, 15]] hmix ?_
      dsimp only
      repeat' first
        | (apply DW.nil; (focus (decide +kernel)))
        | (apply DW.toC; refine DWcall.go (And.intro l0 (And.intro e1 (And.intro e2 (And.intro e3 (And.intro e4 e5))))) ?_) | (apply DW.toOp; refine DWop.go (And.intro l0 (And.intro e1 (And.intro e2 (And.intro e3 (And.intro e4 e5))))) ?_) | (apply DW.toCG; first | refine DWcall.yes (And.intro l0 (And.intro e1 (And.intro e2 (And.intro e3 (And.intro e4 e5))))) ?_ | refine DWcall.no (And.intro l0 (And.intro e1 (And.intro e2 (And.intro e3 (And.intro e4 e5))))) ?_) | (apply DW.toG; first | refine DWop.yes (And.intro l0 (And.intro e1 (And.intro e2 (And.intro e3 (And.intro e4 e5))))) ?_ | refine DWop.no (And.intro l0 (And.intro e1 (And.intro e2 (And.intro e3 (And.intro e4 e5))))) ?_)
      repeat' first
        | refine W.seq ?_ | (refine W.regS G ?_; dsimp only) | refine SW.nil ?_ | refine thenQ_normal ?_ | refine W.skip ?_ | refine W.exit ?_ | refine thenQ_exit ?_ | refine inBlockQ_exit ?_ | refine inBlockQ_normal ?_ | refine W.block ?_
        | (apply SW.toC; refine SWcall.go (And.intro l0 (And.intro e1 (And.intro e2 (And.intro e3 (And.intro e4 e5))))) ?_) | (apply SW.toOp; refine SWop.go (And.intro l0 (And.intro e1 (And.intro e2 (And.intro e3 (And.intro e4 e5))))) ?_) | (apply SW.toCG; first | refine SWcall.yes (And.intro l0 (And.intro e1 (And.intro e2 (And.intro e3 (And.intro e4 e5))))) ?_ | refine SWcall.no (And.intro l0 (And.intro e1 (And.intro e2 (And.intro e3 (And.intro e4 e5))))) ?_) | (apply SW.toG; first | refine SWop.yes (And.intro l0 (And.intro e1 (And.intro e2 (And.intro e3 (And.intro e4 e5))))) ?_ | refine SWop.no (And.intro l0 (And.intro e1 (And.intro e2 (And.intro e3 (And.intro e4 e5))))) ?_)
      refine ⟨⟨i + 1, by omega⟩, Imp.le ?_, by show _ - (i + 1) < _ - i; omega⟩
      exact sL_leZ (And.intro e (And.intro l0 (And.intro e1 (And.intro e2 (And.intro e3 (And.intro e4 e5))))))
    · exact absurd hc (by decide)
  obtain rfl : i = N := by omega
  have hh := hend rfl
  by_cases h6 : i < 16
  · have e4 : decide ((i : Int) < 16) = true := by simp; omega
    have e5 : decide ((i : Int) < (d.length : Int)) = false := by simp; omega
    repeat' first
      | refine W.seq ?_ | (refine W.regS G ?_; dsimp only) | refine SW.nil ?_ | refine thenQ_normal ?_ | refine W.skip ?_ | refine W.exit ?_ | refine thenQ_exit ?_ | refine inBlockQ_exit ?_ | refine inBlockQ_normal ?_ | refine W.block ?_
      | (apply SW.toC; refine SWcall.go (And.intro l0 (And.intro e4 e5)) ?_) | (apply SW.toOp; refine SWop.go (And.intro l0 (And.intro e4 e5)) ?_) | (apply SW.toCG; first | refine SWcall.yes (And.intro l0 (And.intro e4 e5)) ?_ | refine SWcall.no (And.intro l0 (And.intro e4 e5)) ?_) | (apply SW.toG; first | refine SWop.yes (And.intro l0 (And.intro e4 e5)) ?_ | refine SWop.no (And.intro l0 (And.intro e4 e5)) ?_)
    refine W.condZ G (And.intro l0 (And.intro e4 e5)) ?_ ?_
    all_goals intro hc
    · exact absurd hc (by decide)
    repeat' first
      | refine W.seq ?_ | (refine W.regS G ?_; dsimp only) | refine SW.nil ?_ | refine thenQ_normal ?_ | refine W.skip ?_ | refine W.exit ?_ | refine thenQ_exit ?_ | refine inBlockQ_exit ?_ | refine inBlockQ_normal ?_ | refine W.block ?_
      | (apply SW.toC; refine SWcall.go (And.intro l0 (And.intro e4 e5)) ?_) | (apply SW.toOp; refine SWop.go (And.intro l0 (And.intro e4 e5)) ?_) | (apply SW.toCG; first | refine SWcall.yes (And.intro l0 (And.intro e4 e5)) ?_ | refine SWcall.no (And.intro l0 (And.intro e4 e5)) ?_) | (apply SW.toG; first | refine SWop.yes (And.intro l0 (And.intro e4 e5)) ?_ | refine SWop.no (And.intro l0 (And.intro e4 e5)) ?_)
    refine W.ret ?_
    repeat' first
      | refine thenQ_ret ?_
      | refine inBlockQ_ret ?_
    refine fin1Z (And.intro l0 (And.intro e4 e5)) ?_
    rw [hh]
    exact leV_refl
  · have e4 : decide ((i : Int) < 16) = false := by simp; omega
    repeat' first
      | refine W.seq ?_ | (refine W.regS G ?_; dsimp only) | refine SW.nil ?_ | refine thenQ_normal ?_ | refine W.skip ?_ | refine W.exit ?_ | refine thenQ_exit ?_ | refine inBlockQ_exit ?_ | refine inBlockQ_normal ?_ | refine W.block ?_
      | (apply SW.toC; refine SWcall.go (And.intro l0 e4) ?_) | (apply SW.toOp; refine SWop.go (And.intro l0 e4) ?_) | (apply SW.toCG; first | refine SWcall.yes (And.intro l0 e4) ?_ | refine SWcall.no (And.intro l0 e4) ?_) | (apply SW.toG; first | refine SWop.yes (And.intro l0 e4) ?_ | refine SWop.no (And.intro l0 e4) ?_)
    refine W.condZ G (And.intro l0 e4) ?_ ?_
    all_goals intro hc
    · exact absurd hc (by decide)
    repeat' first
      | refine W.seq ?_ | (refine W.regS G ?_; dsimp only) | refine SW.nil ?_ | refine thenQ_normal ?_ | refine W.skip ?_ | refine W.exit ?_ | refine thenQ_exit ?_ | refine inBlockQ_exit ?_ | refine inBlockQ_normal ?_ | refine W.block ?_
      | (apply SW.toC; refine SWcall.go (And.intro l0 e4) ?_) | (apply SW.toOp; refine SWop.go (And.intro l0 e4) ?_) | (apply SW.toCG; first | refine SWcall.yes (And.intro l0 e4) ?_ | refine SWcall.no (And.intro l0 e4) ?_) | (apply SW.toG; first | refine SWop.yes (And.intro l0 e4) ?_ | refine SWop.no (And.intro l0 e4) ?_)
    refine W.ret ?_
    repeat' first
      | refine thenQ_ret ?_
      | refine inBlockQ_ret ?_
    refine fin1Z (And.intro l0 e4) ?_
    rw [hh]
    exact leV_refl
end Go.Vm.C01
