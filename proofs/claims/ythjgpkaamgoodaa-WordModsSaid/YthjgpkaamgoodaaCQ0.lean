/- What some functions of the program compute, walked through once. -/
import Derived.Test.YthjgpkaamgoodaaCN
namespace Go.Vm.C01
open Go Go.Proofs
set_option linter.unusedVariables false
set_option linter.unusedSimpArgs false
set_option maxRecDepth 100000
set_option maxHeartbeats 8000000

theorem cmpI_range (x y : Nat) : -1 ≤ cmpI x y ∧ cmpI x y ≤ 1 := by unfold cmpI; split <;> (try split) <;> omega
theorem cmpI_neg (x y : Nat) : cmpI y x = -cmpI x y := by
  unfold cmpI
  (repeat' split) <;> omega
theorem cmpI_zero (x y : Nat) : cmpI x y = 0 ↔ x = y := by
  unfold cmpI
  (repeat' split) <;> omega
theorem cmpI_trans (x y z : Nat) (h : cmpI y z = cmpI x y) : cmpI x z = cmpI x y := by
  unfold cmpI at *
  (repeat' split at h) <;> (repeat' split) <;> omega
theorem sg_inj {a b : List (BitVec 64)} (la : a.length = 4) (lb : b.length = 4) (h : sg a = sg b) : a = b := by
  refine wv_inj la lb ?_
  have h1 := wv_lt a
  have h2 := wv_lt b
  unfold sg B256 at *
  omega
end Go.Vm.C01
