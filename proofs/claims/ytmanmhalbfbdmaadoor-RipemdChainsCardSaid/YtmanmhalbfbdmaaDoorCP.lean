/- What some functions of the program compute, walked through once. -/
import Derived.Test.YtmanmhalbfbdmaaDoorCG
import Derived.Test.YtmanmhalbfbdmaaDoorVc
import Derived.Test.YtmanmhalbfbdmaaDoorRows
import Derived.Test.YtmanmhalbfbdmaaDoorTie
import Derived.Test.YtmanmhalbfbdmaaDoorCards
import Derived.ProofKit
import Derived.LaidMore
import Derived.OpenShut
import Derived.Stop.Joined
import Derived.SevenTiedAt
namespace Go.Vm.C05
open Go Go.Proofs Go.Proofs.YtmanmhalbfbdmaaDoor Go.ChangeShapes Go.WideShapes Go.ChangeAt Go.RowKit
set_option linter.unusedVariables false
set_option linter.unusedSimpArgs false
set_option maxRecDepth 100000

theorem own : ownKnob Tryd.prog.godebug = none := by kernel_rfl
theorem laidOut : laidOutB Tryd.prog = true := by kernel_rfl
def laid3 : List (String × DataW Unit) := [("bailiwick/ripemd.rho", Rows.laid_bailiwick_ripemd_rho), ("bailiwick/ripemd.turns", Rows.laid_bailiwick_ripemd_turns), ("bailiwick/ripemd.first", Rows.laid_bailiwick_ripemd_first), ("bailiwick/ripemd.second", Rows.laid_bailiwick_ripemd_second), ("bailiwick/ripemd.begun", Rows.laid_bailiwick_ripemd_begun)]
theorem door_met (os : Os) (args : Array Value) : laidMetH Tryd.prog laid3 ((World.doorLaid Tryd.prog 42 os).forCall (fun _ _ => 0) ⟨#[], args, []⟩).memory :=
  laidMetH_of_parts3 (fuel := 8) (laidMet_of_run' 8 (by kernel_rfl) (by kernel_rfl)) (by kernel_rfl) (by kernel_rfl)
theorem gn0 : Tryd.prog.globalNamed "bailiwick/ripemd.rho" = some 4 := by kernel_rfl
theorem gt0 : (Tryd.prog.globals[4]?).map (·.type) = some 47 := by kernel_rfl
theorem gn1 : Tryd.prog.globalNamed "bailiwick/ripemd.turns" = some 3 := by kernel_rfl
theorem gt1 : (Tryd.prog.globals[3]?).map (·.type) = some 48 := by kernel_rfl
theorem gn2 : Tryd.prog.globalNamed "bailiwick/ripemd.first" = some 1 := by kernel_rfl
theorem gt2 : (Tryd.prog.globals[1]?).map (·.type) = some 28 := by kernel_rfl
theorem gn3 : Tryd.prog.globalNamed "bailiwick/ripemd.second" = some 2 := by kernel_rfl
theorem gt3 : (Tryd.prog.globals[2]?).map (·.type) = some 28 := by kernel_rfl
theorem gn4 : Tryd.prog.globalNamed "bailiwick/ripemd.begun" = some 0 := by kernel_rfl
theorem gt4 : (Tryd.prog.globals[0]?).map (·.type) = some 28 := by kernel_rfl
theorem globs {W : World} (h : laidMetH Tryd.prog laid3 W) : ∀ g r, glB g = some r → rowAt W (c0 W) false g 0 r := by
  rw [MakeChecks.laidMetH_plain _ _ _ (by kernel_rfl)] at h
  obtain ⟨ps, ⟨g0, t0, cs0, f0, p0, q0, hg0, ht0, hv0, hd0, ⟨g1, t1, cs1, f1, p1, q1, hg1, ht1, hv1, hd1, ⟨g2, t2, cs2, f2, p2, q2, hg2, ht2, hv2, hd2, ⟨g3, t3, cs3, f3, p3, q3, hg3, ht3, hv3, hd3, ⟨g4, t4, cs4, f4, p4, q4, hg4, ht4, hv4, hd4, _, _⟩, _⟩, _⟩, _⟩, _⟩, _, _⟩ := h
  obtain rfl := Option.some.inj (gn0.symm.trans hg0)
  obtain rfl := Option.some.inj (gn1.symm.trans hg1)
  obtain rfl := Option.some.inj (gn2.symm.trans hg2)
  obtain rfl := Option.some.inj (gn3.symm.trans hg3)
  obtain rfl := Option.some.inj (gn4.symm.trans hg4)
  obtain rfl := Option.some.inj (gt0.symm.trans ht0)
  obtain rfl := Option.some.inj (gt1.symm.trans ht1)
  obtain rfl := Option.some.inj (gt2.symm.trans ht2)
  obtain rfl := Option.some.inj (gt3.symm.trans ht3)
  obtain rfl := Option.some.inj (gt4.symm.trans ht4)
  intro g r hr
  unfold glB at hr
  split at hr
  · cases hr; rename_i e; subst e
    refine glob_u (by unfold okW; omega) hg4 hv4 ?_
    rw [← trod_flat t28 (.inr ⟨32, by unfold okW; omega, rfl⟩) hd4]
    kernel_rfl
  split at hr
  · cases hr; rename_i e; subst e
    refine glob_u (by unfold okW; omega) hg2 hv2 ?_
    rw [← trod_flat t28 (.inr ⟨32, by unfold okW; omega, rfl⟩) hd2]
    kernel_rfl
  split at hr
  · cases hr; rename_i e; subst e
    refine glob_u (by unfold okW; omega) hg3 hv3 ?_
    rw [← trod_flat t28 (.inr ⟨32, by unfold okW; omega, rfl⟩) hd3]
    kernel_rfl
  split at hr
  · cases hr; rename_i e; subst e
    refine glob_i (by unfold inR; decide) hg1 hv1 ?_
    rw [← trod_flat t48 (.inl rfl) hd1]
    kernel_rfl
  split at hr
  · cases hr; rename_i e; subst e
    refine glob_i (by unfold inR; decide) hg0 hv0 ?_
    rw [← trod_flat t47 (.inl rfl) hd0]
    kernel_rfl
  cases hr
end Go.Vm.C05
