/- What some functions of the program compute, walked through once. -/
import Derived.Test.YtmpoofgkfaonfaaCH
namespace Go.Vm.C19
open Go Go.Proofs
set_option linter.unusedVariables false
set_option linter.unusedSimpArgs false
set_option maxRecDepth 100000
set_option maxHeartbeats 8000000

/-! ### bytes in the other order -/
def revStep (n k : Nat) (l : List (BitVec 8)) : List (BitVec 8) := (l.set k (l.getD (n - 1 - k) 0)).set (n - 1 - k) (l.getD k 0)
def revF (xs : List (BitVec 8)) (k : Nat) : List (BitVec 8) := itN (revStep xs.length) k xs
theorem revF_len (xs : List (BitVec 8)) (k : Nat) : (revF xs k).length = xs.length := itN_inv (p := fun (t : List (BitVec 8)) => t.length = xs.length) (fun _ _ h => by simpa [revStep] using h) k rfl
noncomputable def revS : FSpec := { refSl := true, run := fun ins => match ins with
  | [.tup [.ref 0 0 (.row (.u 8 xs)), .i 0, .i m]] => chk (m = xs.length ∧ 1 ≤ xs.length ∧ xs.length ≤ 1000)
      (some (.tup [], [.row (.u 8 (revF xs (xs.length / 2)))]))
  | _ => none }
@[go_sem] theorem revS_ref : revS.refSl = true := rfl
end Go.Vm.C19
