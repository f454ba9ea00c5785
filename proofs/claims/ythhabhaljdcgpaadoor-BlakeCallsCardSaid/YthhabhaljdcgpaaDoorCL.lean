/- What some functions of the program compute, walked through once. -/
import Derived.Test.YthhabhaljdcgpaaDoorCH
import Derived.Test.YthhabhaljdcgpaaDoorVc
import Derived.Test.YthhabhaljdcgpaaDoorRows
import Derived.Test.YthhabhaljdcgpaaDoorTie
import Derived.Test.YthhabhaljdcgpaaDoorCards
import Derived.ProofKit
import Derived.LaidMore
import Derived.OpenShut
import Derived.Stop.Joined
import Derived.SevenTiedAt
namespace Go.Vm.C06
open Go Go.Proofs Go.Proofs.YthhabhaljdcgpaaDoor Go.ChangeShapes Go.WideShapes Go.ChangeAt Go.RowKit
set_option linter.unusedVariables false
set_option linter.unusedSimpArgs false
set_option maxRecDepth 100000

theorem own : ownKnob Tryd.prog.godebug = none := by kernel_rfl
theorem laidOut : laidOutB Tryd.prog = true := by kernel_rfl
def laid3 : List (String × DataW Unit) := [("bailiwick/blake.begun", Rows.laid_bailiwick_blake_begun), ("bailiwick/blake.rows", Rows.laid_bailiwick_blake_rows), ("bailiwick/blake.lines", Rows.laid_bailiwick_blake_lines)]
theorem door_met (os : Os) (args : Array Value) : laidMetH Tryd.prog laid3 ((World.doorLaid Tryd.prog 42 os).forCall (fun _ _ => 0) ⟨#[], args, []⟩).memory :=
  laidMetH_of_parts3 (fuel := 8) (laidMet_of_run' 8 (by kernel_rfl) (by kernel_rfl)) (by kernel_rfl) (by kernel_rfl)
theorem gn0 : Tryd.prog.globalNamed "bailiwick/blake.begun" = some 0 := by kernel_rfl
theorem gn1 : Tryd.prog.globalNamed "bailiwick/blake.rows" = some 1 := by kernel_rfl
theorem gn2 : Tryd.prog.globalNamed "bailiwick/blake.lines" = some 2 := by kernel_rfl
theorem gt0 : (Tryd.prog.globals[0]?).map (·.type) = some 24 := by kernel_rfl
theorem gt1 : (Tryd.prog.globals[1]?).map (·.type) = some 48 := by kernel_rfl
theorem gt2 : (Tryd.prog.globals[2]?).map (·.type) = some 50 := by kernel_rfl

/-- what the variables hold -/
theorem globs {W : World} (h : laidMetH Tryd.prog laid3 W) : ∀ g r, glB g = some r → rowAt W (c0 W) false g 0 r := by
  rw [MakeChecks.laidMetH_plain _ _ _ (by kernel_rfl)] at h
  obtain ⟨ps, ⟨g0, t0, cs0, f0, p0, q0, hg0, ht0, hv0, hd0, ⟨g1, t1, cs1, f1, p1, q1, hg1, ht1, hv1, hd1, ⟨g2, t2, cs2, f2, p2, q2, hg2, ht2, hv2, hd2, _, _⟩, _⟩, _⟩, _, _⟩ := h
  obtain rfl := Option.some.inj (gn0.symm.trans hg0)
  obtain rfl := Option.some.inj (gn1.symm.trans hg1)
  obtain rfl := Option.some.inj (gn2.symm.trans hg2)
  obtain rfl := Option.some.inj (gt0.symm.trans ht0)
  obtain rfl := Option.some.inj (gt1.symm.trans ht1)
  obtain rfl := Option.some.inj (gt2.symm.trans ht2)
  intro g r hr
  unfold glB at hr
  split at hr
  · cases hr; rename_i e; subst e
    refine glob_u (by unfold okW; omega) hg0 hv0 ?_
    rw [← trod_flat t24 (.inr ⟨64, by unfold okW; omega, rfl⟩) hd0]
    kernel_rfl
  split at hr
  · cases hr; rename_i e; subst e
    refine glob_i (by unfold inR; decide) hg1 hv1 ?_
    rw [← trod_flat t48 (.inl rfl) hd1]
    kernel_rfl
  split at hr
  · cases hr; rename_i e; subst e
    refine glob_i (by unfold inR; decide) hg2 hv2 ?_
    rw [← trod_flat t50 (.inl rfl) hd2]
    kernel_rfl
  cases hr

def witIn : Value := .agg (#[.int .u32 0] ++ Array.replicate 26 (.int .u64 0) ++ #[.bool false])

theorem mixes_lifted (os : Os) (started : os.Started) (H : Type) (enc : TypeId × Value → H) :
    ReturnsInHanded {} Tryd.checked os 3 .any (fun w args => (Rows.blakeMixesSpec.pre enc Tryd.prog Tryd.f3 [] false w args ∧ laidMetH Tryd.prog laid3 w) ∧ sizedMet enc Tryd.prog Tryd.f3 (OpenSpec.ofChange Rows.blakeMixesSpec) false w args)
      (Rows.blakeMixesSpec.post enc Tryd.prog Tryd.f3 false true false false) := by
  refine returnsInHanded_of_change_and (C := Tryd.checked) (X := fun w _ => laidMetH Tryd.prog laid3 w) (fun _ _ _ hh h => h.of_heap hh) own started (by kernel_rfl) Tryd.func3
    (ChangeSpec.witness_shaped (enc := enc) (C := Tryd.checked) (os := os) (X := fun w _ => laidMetH Tryd.prog laid3 w) false (World.doorLaid Tryd.prog 42 os) #[witIn] 8 rfl (World.shaped_of_RefB (by kernel_rfl) (by kernel_rfl)) (by kernel_rfl) (by kernel_rfl) (by kernel_rfl) (door_met os _)) ?_
  intro W base args ds gs before hval0 hW _ _ hL _
  have hval : ∀ (j : Nat) t v, Tryd.f3.params[j]? = some t → args[j]? = some v → Value.okWide Tryd.prog W .any base t v := hval0
  have hW' := hW
  obtain ⟨p, q, hA0, hV, rfl, hfz, hnd⟩ := hW
  have hA : DataW.TrodAll enc Tryd.prog W 0 (fun _ => true) true Tryd.f3.params.toList args.toList ds p := hA0
  rw [Tryd.params3] at hA hval
  obtain ⟨v0, vs0, d0, ds0, p0, q0, hargs, rfl, rfl, h0, r0⟩ := trodAll_cons hA
  obtain ⟨rfl, rfl, rfl⟩ := trodAll_nil r0
  obtain rfl : args = #[v0] := by cases args; simp_all
  obtain ⟨rfl, rfl⟩ := trodVars_none hV
  have k0 := h0
  have lt0 : ∀ x ∈ p0, x.block < W.heap.size := by obtain ⟨m, hm⟩ := k0; exact DataW.trod_lt m _ _ _ hm
  obtain ⟨cs, rfl, _⟩ := okWide_struct Tryd.underlying28 (hval 0 28 v0 rfl rfl)
  obtain ⟨fuel, hf⟩ := h0
  obtain ⟨vs, css, hO, hcs, hR⟩ := open_st (c := c0 W) (w' := W) t28 (by decide) hf
  obtain ⟨x0, vs, rfl, o0, hO⟩ := all2_cons hO
  obtain ⟨x1, vs, rfl, o1, hO⟩ := all2_cons hO
  obtain ⟨x2, vs, rfl, o2, hO⟩ := all2_cons hO
  obtain ⟨x3, vs, rfl, o3, hO⟩ := all2_cons hO
  obtain ⟨x4, vs, rfl, o4, hO⟩ := all2_cons hO
  obtain rfl := all2_nil hO
  obtain ⟨r, rfl⟩ := o0
  obtain ⟨h, hl, rfl⟩ : ∃ xs : List (BitVec 64), xs.length = 8 ∧ x1 = .agg 8 (.u 64 xs) := o1
  obtain ⟨m, ml, rfl⟩ : ∃ xs : List (BitVec 64), xs.length = 16 ∧ x2 = .agg 16 (.u 64 xs) := o2
  obtain ⟨t, tl, rfl⟩ : ∃ xs : List (BitVec 64), xs.length = 2 ∧ x3 = .agg 2 (.u 64 xs) := o3
  obtain ⟨last, rfl⟩ := o4
  clear hA0 hval0
  refine (law_calls (vs := [.agg cs]) mixes_sound Tryd.func3 rfl (by decide) (ins := [.st [.u 32 r, .agg 8 (.u 64 h), .agg 16 (.u 64 m), .agg 2 (.u 64 t), .b last]]) (chk_ok hl) ⟨⟨rfl, cs, css, rfl, hcs, hR⟩, trivial⟩ (globs hL)).mono fun e W' ⟨he, bel⟩ => ?_
  subst he
  exact ⟨_, rfl, _, _, _, [], _, [], hW', trodAll_mk1 (shut_bool Tryd.underlying4 _), (trodAll_cons_mk (Below.trod laidOut (by kernel_rfl) (of_decide_eq_true (by kernel_rfl)) k0 bel lt0) trodAll_mk0), rfl, bel.frame _, fun h => by cases h⟩

theorem mixes_over : Rows.BlakeMixesSaid :=
  OpenClaim.holds_of_wide 3 Tryd.f3 rfl rfl rfl rfl rfl rfl rfl ⟨rfl, rfl, rfl, rfl, rfl⟩ rfl rfl rfl rfl rfl (by kernel_rfl) Tryd.func3 (by kernel_rfl)
    (of_decide_eq_true (by kernel_rfl)) (by unfold Func.isWrapper; first | (rw [if_pos (by decide +kernel)]; kernel_rfl) | (rw [if_neg (by decide +kernel)]; exact ⟨rfl, rfl⟩))
    (fun os started H enc _ => mixes_lifted os started H enc)

end Go.Vm.C06
