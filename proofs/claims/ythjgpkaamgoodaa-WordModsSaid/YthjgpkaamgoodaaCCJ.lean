/- What some functions of the program compute, walked through once. -/
import Derived.Test.YthjgpkaamgoodaaCCI
namespace Go.Vm.C01
open Go Go.Proofs
set_option linter.unusedVariables false
set_option linter.unusedSimpArgs false
set_option maxRecDepth 100000
set_option maxHeartbeats 8000000

noncomputable def ModS : FSpec := { run := fun ins => match ins with
  | [.agg 4 (.u 64 a), .agg 4 (.u 64 b)] => chk (a.length = 4 ∧ b.length = 4) (some (.agg 4 (.u 64 (wOf (wmod (wv a) (wv b)))), []))
  | _ => none }
noncomputable def negS : FSpec := { run := fun ins => match ins with
  | [.agg 4 (.u 64 a)] => some (.agg 4 (.u 64 (wOf (B256 - wv a))), [])
  | _ => none }
def plF (a : List (BitVec 64)) : List (BitVec 64) := if H255 ≤ wv a then wOf (B256 - wv a) else a
theorem plF_len {a : List (BitVec 64)} (la : a.length = 4) : (plF a).length = 4 := by
  unfold plF
  split
  · rfl
  · exact la
noncomputable def plainS : FSpec := { run := fun ins => match ins with
  | [.agg 4 (.u 64 a)] => some (.agg 4 (.u 64 (plF a)), [])
  | _ => none }
def sdF (a b : List (BitVec 64)) : List (BitVec 64) := if decide (H255 ≤ wv a) = decide (H255 ≤ wv b) then wOf (wv (plF a) / wv (plF b)) else wOf (B256 - wv (wOf (wv (plF a) / wv (plF b))))
def smF (a b : List (BitVec 64)) : List (BitVec 64) := if decide (H255 ≤ wv a) = true then wOf (B256 - wv (wOf (wmod (wv (plF a)) (wv (plF b))))) else wOf (wmod (wv (plF a)) (wv (plF b)))
noncomputable def SDivS : FSpec := { run := fun ins => match ins with
  | [.agg 4 (.u 64 a), .agg 4 (.u 64 b)] => chk (a.length = 4 ∧ b.length = 4) (some (.agg 4 (.u 64 (sdF a b)), []))
  | _ => none }
noncomputable def SModS : FSpec := { run := fun ins => match ins with
  | [.agg 4 (.u 64 a), .agg 4 (.u 64 b)] => chk (a.length = 4 ∧ b.length = 4) (some (.agg 4 (.u 64 (smF a b)), []))
  | _ => none }
noncomputable def rSDMS : FSpec := { run := fun ins => match ins with
  | [.agg 4 (.u 64 a), .agg 4 (.u 64 b)] => chk (a.length = 4 ∧ b.length = 4) (some (.tup [.agg 4 (.u 64 (sdF a b)), .agg 4 (.u 64 (smF a b))], []))
  | _ => none }
end Go.Vm.C01
