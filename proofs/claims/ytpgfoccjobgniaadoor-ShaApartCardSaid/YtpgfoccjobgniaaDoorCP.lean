/- What some functions of the program compute, walked through once. -/
import Derived.Test.YtpgfoccjobgniaaDoorCJ
import Derived.Test.YtpgfoccjobgniaaDoorVc
import Derived.Test.YtpgfoccjobgniaaDoorRows
import Derived.Test.YtpgfoccjobgniaaDoorTie
import Derived.Test.YtpgfoccjobgniaaDoorCards
import Derived.ProofKit
import Derived.LaidMore
import Derived.OpenShut
import Derived.Stop.Joined
import Derived.SevenTiedAt
namespace Go.Vm.C04
open Go Go.Proofs Go.Proofs.YtpgfoccjobgniaaDoor Go.ChangeShapes Go.WideShapes Go.ChangeAt Go.RowKit
set_option linter.unusedVariables false
set_option linter.unusedSimpArgs false
set_option maxRecDepth 100000

theorem own : ownKnob Tryd.prog.godebug = none := by kernel_rfl
theorem laidOut : laidOutB Tryd.prog = true := by kernel_rfl
def laid3 : List (String × DataW Unit) := [("bailiwick/sha.begun", Rows.laid_bailiwick_sha_begun), ("bailiwick/sha.k", Rows.laid_bailiwick_sha_k)]
theorem door_met (os : Os) (args : Array Value) : laidMetH Tryd.prog laid3 ((World.doorLaid Tryd.prog 48 os).forCall (fun _ _ => 0) ⟨#[], args, []⟩).memory :=
  laidMetH_of_parts3 (fuel := 8) (laidMet_of_run' 8 (by kernel_rfl) (by kernel_rfl)) (by kernel_rfl) (by kernel_rfl)
theorem gn0 : Tryd.prog.globalNamed "bailiwick/sha.begun" = some 0 := by kernel_rfl
theorem gt0 : (Tryd.prog.globals[0]?).map (·.type) = some 39 := by kernel_rfl
theorem gn1 : Tryd.prog.globalNamed "bailiwick/sha.k" = some 1 := by kernel_rfl
theorem gt1 : (Tryd.prog.globals[1]?).map (·.type) = some 57 := by kernel_rfl
theorem globs {W : World} (h : laidMetH Tryd.prog laid3 W) : ∀ g r, glB g = some r → rowAt W (c0 W) false g 0 r := by
  rw [MakeChecks.laidMetH_plain _ _ _ (by kernel_rfl)] at h
  obtain ⟨ps, ⟨g0, t0, cs0, f0, p0, q0, hg0, ht0, hv0, hd0, ⟨g1, t1, cs1, f1, p1, q1, hg1, ht1, hv1, hd1, _, _⟩, _⟩, _, _⟩ := h
  obtain rfl := Option.some.inj (gn0.symm.trans hg0)
  obtain rfl := Option.some.inj (gn1.symm.trans hg1)
  obtain rfl := Option.some.inj (gt0.symm.trans ht0)
  obtain rfl := Option.some.inj (gt1.symm.trans ht1)
  intro g r hr
  unfold glB at hr
  split at hr
  · cases hr; rename_i e; subst e
    refine glob_u (by unfold okW; omega) hg0 hv0 ?_
    rw [← trod_flat t39 (.inr ⟨32, by unfold okW; omega, rfl⟩) hd0]
    kernel_rfl
  split at hr
  · cases hr; rename_i e; subst e
    refine glob_u (by unfold okW; omega) hg1 hv1 ?_
    rw [← trod_flat t57 (.inr ⟨32, by unfold okW; omega, rfl⟩) hd1]
    kernel_rfl
  cases hr
end Go.Vm.C04
