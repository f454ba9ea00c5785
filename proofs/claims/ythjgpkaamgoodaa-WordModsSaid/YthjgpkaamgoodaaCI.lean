/- What some functions of the program compute, walked through once. -/
import Derived.Test.YthjgpkaamgoodaaCH
namespace Go.Vm.C01
open Go Go.Proofs
set_option linter.unusedVariables false
set_option linter.unusedSimpArgs false
set_option maxRecDepth 100000
set_option maxHeartbeats 8000000

/-! ### bytes in the other order -/
def revStep (n k : Nat) (l : List (BitVec 8)) : List (BitVec 8) := (l.set k (l.getD (n - 1 - k) 0)).set (n - 1 - k) (l.getD k 0)
def revF (xs : List (BitVec 8)) (k : Nat) : List (BitVec 8) := itN (revStep xs.length) k xs
theorem revF_len (xs : List (BitVec 8)) (k : Nat) : (revF xs k).length = xs.length := itN_inv (p := fun (t : List (BitVec 8)) => t.length = xs.length) (fun _ _ h => by simpa [revStep] using h) k rfl
noncomputable def revS : FSpec := { refSl := true, run := fun ins => match ins with
  | [.tup [.ref 0 0 (.row (.u 8 xs)), .i 0, .i m]] => chk (m = xs.length ∧ 1 ≤ xs.length ∧ xs.length ≤ 1000)
      (some (.tup [], [.row (.u 8 (revF xs (xs.length / 2)))]))
  | _ => none }
@[go_sem] theorem revS_ref : revS.refSl = true := rfl
theorem rev_sound : SoundFn Try.prog glB 81 revS.run := by
  have G := good_of (P := Try.prog) glB_ro (l := []) (by simp)
  refine soundFn_of_W G Try.func81 (by decide) rfl (by decide) ?_
  intro ins ret outs h
  unfold revS at h
  dsimp only at h
  split at h
  rotate_left
  · cases h
  rename_i xs m
  obtain ⟨hi, h'⟩ := chk_some h
  clear h
  obtain ⟨rfl, hn, hb⟩ := hi
  cases h'
  refine ⟨by show 1 ≤ 28; decide, fun w0 ext av => ?_⟩
  rw [Try.ntmps81, st0_eq]
  have z0 : revF xs 0 = xs := rfl
  have hst : ∀ k, revF xs (k + 1) = revStep xs.length k (revF xs k) := fun k => itN_succ _ _ _
  have hle := revF_len xs
  generalize revF xs = F at z0 hst hle ⊢
  generalize hN : xs.length = n at hn hb hst hle ⊢
  repeat' first
    | refine W.seq ?_ | (refine W.regS G ?_; dsimp only) | refine SW.nil ?_ | refine thenQ_normal ?_ | refine W.skip ?_ | refine W.exit ?_ | refine thenQ_exit ?_ | refine inBlockQ_exit ?_ | refine inBlockQ_normal ?_ | refine W.block ?_
    | (apply SW.toC; refine SWcall.go hN ?_) | (apply SW.toOp; refine SWop.go hN ?_) | (apply SW.toCG; first | refine SWcall.yes hN ?_ | refine SWcall.no hN ?_) | (apply SW.toG; first | refine SWop.yes hN ?_ | refine SWop.no hN ?_)
  refine W.loopI (ι := {k : Nat // k ≤ n / 2}) (fun k => sL [(0, .os 1000 0 0 0 n), (2, .i k.1), (3, .i ((n : Int) - 1 - (k.1 : Int)))] [(1000, .row (.u 8 (F k.1)))] 28) (fun k => n / 2 - k.1) ⟨0, Nat.zero_le _⟩ (Imp.le ?_) ?_
  · exact sL_leZ (And.intro z0 hN)
  rintro ⟨k, hk⟩
  have e := hst k
  have l0 := hle k
  have hend : k = n / 2 → F (n / 2) = F k := by rintro rfl; rfl
  generalize F k = l at e l0 hend
  have e1 : ((n : Int) - 1 - (k : Int)) = ((n - 1 - k : Nat) : Int) := by omega
  repeat' first
    | refine W.seq ?_ | (refine W.regS G ?_; dsimp only) | refine SW.nil ?_ | refine thenQ_normal ?_ | refine W.skip ?_ | refine W.exit ?_ | refine thenQ_exit ?_ | refine inBlockQ_exit ?_ | refine inBlockQ_normal ?_ | refine W.block ?_
    | (apply SW.toC; refine SWcall.go (And.intro l0 e1) ?_) | (apply SW.toOp; refine SWop.go (And.intro l0 e1) ?_) | (apply SW.toCG; first | refine SWcall.yes (And.intro l0 e1) ?_ | refine SWcall.no (And.intro l0 e1) ?_) | (apply SW.toG; first | refine SWop.yes (And.intro l0 e1) ?_ | refine SWop.no (And.intro l0 e1) ?_)
  refine W.condZ G (And.intro l0 e1) ?_ ?_
  all_goals intro ht
  · have ht' := of_decide_eq_true ht
    have hs2 : revStep n k l = (l.set k (l.getD (n - 1 - k) 0)).set (n - 1 - k) (l.getD k 0) := rfl
    repeat' first
      | refine W.seq ?_ | (refine W.regS G ?_; dsimp only) | refine SW.nil ?_ | refine thenQ_normal ?_ | refine W.skip ?_ | refine W.exit ?_ | refine thenQ_exit ?_ | refine inBlockQ_exit ?_ | refine inBlockQ_normal ?_
      | (apply SW.toC; refine SWcall.go (And.intro l0 e1) ?_) | (apply SW.toOp; refine SWop.go (And.intro l0 e1) ?_) | (apply SW.toCG; first | refine SWcall.yes (And.intro l0 e1) ?_ | refine SWcall.no (And.intro l0 e1) ?_) | (apply SW.toG; first | refine SWop.yes (And.intro l0 e1) ?_ | refine SWop.no (And.intro l0 e1) ?_)
    refine W.block ?_
    repeat' first
      | refine W.seq ?_ | (refine W.regS G ?_; dsimp only) | refine SW.nil ?_ | refine thenQ_normal ?_ | refine W.skip ?_ | refine W.exit ?_ | refine thenQ_exit ?_ | refine inBlockQ_exit ?_ | refine inBlockQ_normal ?_
      | (apply SW.toC; refine SWcall.go (And.intro l0 e1) ?_) | (apply SW.toOp; refine SWop.go (And.intro l0 e1) ?_) | (apply SW.toCG; first | refine SWcall.yes (And.intro l0 e1) ?_ | refine SWcall.no (And.intro l0 e1) ?_) | (apply SW.toG; first | refine SWop.yes (And.intro l0 e1) ?_ | refine SWop.no (And.intro l0 e1) ?_)
    refine W.drawS G [[], [], [], [], [], [], [4, 5], [6, 4, 5], [], [], [8, 9], [10, 8, 9], [0, 1, 4, 5, 6, 7, 11, 10, 8, 9], [12, 0, 1, 4, 5, 6, 7, 11, 10, 8, 9], [2, 3, 0, 1, 4, 5, 6, 7, 8, 9, 10, 11, 12, 13], [14, 2, 3, 0, 1, 4, 5, 6, 7, 8, 9, 10, 11, 12, 13]] hmix ?_
    dsimp only
    repeat' first
      | (apply DW.nil; (focus (decide +kernel)))
      | (apply DW.toC; refine DWcall.go (And.intro l0 e1) ?_) | (apply DW.toOp; refine DWop.go (And.intro l0 e1) ?_) | (apply DW.toCG; first | refine DWcall.yes (And.intro l0 e1) ?_ | refine DWcall.no (And.intro l0 e1) ?_) | (apply DW.toG; first | refine DWop.yes (And.intro l0 e1) ?_ | refine DWop.no (And.intro l0 e1) ?_)
    repeat' first
      | refine W.seq ?_ | (refine W.regS G ?_; dsimp only) | refine SW.nil ?_ | refine thenQ_normal ?_ | refine W.skip ?_ | refine W.exit ?_ | refine thenQ_exit ?_ | refine inBlockQ_exit ?_ | refine inBlockQ_normal ?_ | refine W.block ?_
      | (apply SW.toC; refine SWcall.go (And.intro l0 e1) ?_) | (apply SW.toOp; refine SWop.go (And.intro l0 e1) ?_) | (apply SW.toCG; first | refine SWcall.yes (And.intro l0 e1) ?_ | refine SWcall.no (And.intro l0 e1) ?_) | (apply SW.toG; first | refine SWop.yes (And.intro l0 e1) ?_ | refine SWop.no (And.intro l0 e1) ?_)
    refine ⟨⟨k + 1, by omega⟩, Imp.le ?_, by show _ - (k + 1) < _ - k; omega⟩
    have e5 : ((n - 1 - k : Nat) : Int) - 1 = (n : Int) - 1 - ((k + 1 : Nat) : Int) := by omega
    exact sL_leZ (And.intro e (And.intro hs2 (And.intro e5 (And.intro l0 e1))))
  have ht' := of_decide_eq_false ht
  have hh := hend (by omega)
  repeat' first
    | refine W.seq ?_ | (refine W.regS G ?_; dsimp only) | refine SW.nil ?_ | refine thenQ_normal ?_ | refine W.skip ?_ | refine W.exit ?_ | refine thenQ_exit ?_ | refine inBlockQ_exit ?_ | refine inBlockQ_normal ?_ | refine W.block ?_
    | (apply SW.toC; refine SWcall.go (And.intro l0 e1) ?_) | (apply SW.toOp; refine SWop.go (And.intro l0 e1) ?_) | (apply SW.toCG; first | refine SWcall.yes (And.intro l0 e1) ?_ | refine SWcall.no (And.intro l0 e1) ?_) | (apply SW.toG; first | refine SWop.yes (And.intro l0 e1) ?_ | refine SWop.no (And.intro l0 e1) ?_)
  exact fin0Z (And.intro hh (And.intro l0 e1))
end Go.Vm.C01
