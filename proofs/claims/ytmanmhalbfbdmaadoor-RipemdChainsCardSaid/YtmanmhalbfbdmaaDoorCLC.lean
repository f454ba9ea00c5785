/- For every list of lists of bytes that a machine holds the law RipemdChains answers true: the hash of whole blocks is Block again and again, and once more for the end. -/
import Derived.Test.YtmanmhalbfbdmaaDoorCP
import Derived.Test.YtmanmhalbfbdmaaDoorCH
import Derived.Test.YtmanmhalbfbdmaaDoorVc
namespace Go.Vm.C05
open Go Go.Proofs Go.Proofs.YtmanmhalbfbdmaaDoor Go.ChangeShapes Go.WideShapes Go.ChangeAt Go.RowKit
set_option linter.unusedVariables false
set_option linter.unusedSimpArgs false
set_option maxRecDepth 100000
set_option maxHeartbeats 8000000

theorem ripemdChains_lifted (os : Os) (started : os.Started) (H : Type) (enc : TypeId × Value → H) :
    ReturnsInHanded {} Tryd.checked os 5 .any (fun w args => (Rows.ripemdChainsSpec.pre enc Tryd.prog Tryd.f5 [] false w args ∧ laidMetH Tryd.prog laid3 w) ∧ sizedMet enc Tryd.prog Tryd.f5 (OpenSpec.ofChange Rows.ripemdChainsSpec) false w args)
      (Rows.ripemdChainsSpec.post enc Tryd.prog Tryd.f5 false true false false) := by
  refine returnsInHanded_of_change_and (C := Tryd.checked) (X := fun w _ => laidMetH Tryd.prog laid3 w) (fun _ _ _ hh h => h.of_heap hh) own started (by kernel_rfl) Tryd.func5
    (ChangeSpec.witness_shaped (enc := enc) (C := Tryd.checked) (os := os) (X := fun w _ => laidMetH Tryd.prog laid3 w) false (World.doorLaid Tryd.prog 42 os) #[.slice none 0 0] 8 rfl (World.shaped_of_RefB (by kernel_rfl) (by kernel_rfl)) (by kernel_rfl) (by kernel_rfl) (by kernel_rfl) (door_met os _)) ?_
  intro W base args ds gs before hval0 hW hcnd hsz hL hholds
  have hval : ∀ (j : Nat) t v, Tryd.f5.params[j]? = some t → args[j]? = some v → Value.okWide Tryd.prog W .any base t v := hval0
  have hW' := hW
  obtain ⟨p, q, hA0, hV, rfl, hfz, hnd⟩ := hW
  have hA : DataW.TrodAll enc Tryd.prog W 0 (fun _ => true) true Tryd.f5.params.toList args.toList ds p := hA0
  rw [Tryd.params5] at hA hval
  obtain ⟨v0, vs0, d0, ds0, p0, q0, hargs, rfl, rfl, h0, r0⟩ := trodAll_cons hA
  obtain ⟨rfl, rfl, rfl⟩ := trodAll_nil r0
  obtain rfl : args = #[v0] := by cases args; simp_all
  obtain ⟨rfl, rfl⟩ := trodVars_none hV
  have k0 := h0
  have lt0 : ∀ x ∈ p0, x.block < W.heap.size := by obtain ⟨m, hm⟩ := k0; exact DataW.trod_lt m _ _ _ hm
  obtain ⟨ad0, len0, cap0, rfl⟩ := okWide_slice Tryd.underlying32 (hval 0 32 v0 rfl rfl)
  obtain ⟨fu0, hf0⟩ := h0
  obtain ⟨a0, l0, b0, R0⟩ := open_slb (P := Tryd.prog) (w := W) (x := (d0, p0)) hsz (j0 := 0) t32 hf0 (by rw [Tryd.params5]; rfl) rfl (fun e he => by
    obtain rfl : e = 22 := by have := he.symm.trans Tryd.underlying32; simpa using this
    exact ⟨by rw [show Tryd.prog.bytesOf 22 = 24 by kernel_rfl]; decide, fun q hq => by
      obtain rfl : q = 5 := by have := hq.symm.trans Tryd.underlying22; simpa using this
      rw [show Tryd.prog.bytesOf 5 = 1 by kernel_rfl]; decide⟩)
  clear hA0 hval0
  refine (law_calls (vs := [.slice ad0 len0 cap0]) chains_sound Tryd.func5 rfl (by decide) (ins := [.sl false (.b false a0)]) (chk_ok (by omega)) ⟨⟨rfl, R0⟩, trivial⟩ (globs hL)).mono fun e W' ⟨he, bel⟩ => ?_
  subst he
  exact ⟨_, rfl, _, _, _, [], _, [], hW', trodAll_mk1 (shut_bool Tryd.underlying4 _), (trodAll_cons_mk (Below.trod laidOut (by kernel_rfl) (of_decide_eq_true (by kernel_rfl)) k0 bel lt0) trodAll_mk0), rfl, bel.frame _, fun h => by cases h⟩

theorem ripemdChains_over : Rows.RipemdChainsSaid :=
  OpenClaim.holds_of_wide 5 Tryd.f5 rfl rfl rfl rfl rfl rfl rfl ⟨rfl, rfl, rfl, rfl, rfl⟩ rfl rfl rfl rfl rfl (by kernel_rfl) Tryd.func5 (by kernel_rfl)
    (of_decide_eq_true (by kernel_rfl)) (by unfold Func.isWrapper; first | (rw [if_pos (by decide +kernel)]; kernel_rfl) | (rw [if_neg (by decide +kernel)]; exact ⟨rfl, rfl⟩))
    (fun os started H enc _ => ripemdChains_lifted os started H enc)

theorem ripemdChains_card : Rows.RipemdChainsCardSaid :=
  Claim7.holds_tied_plain_at .later [] [.data, .data, .data, .data, .data] true (true, "80eddd6576d7fae9d1681af31a77d6c9d0efbb5305c12bd0184052f40dc3edbb") false
    ripemdChains_over (fun _ h => by cases h) (by kernel_rfl) (fun _ h => by cases h) ripemdChains_row_tie rfl ⟨rfl, rfl⟩ (by kernel_rfl) rfl
    (fun f fn hf hfn => by
      obtain rfl : f = 5 := Option.some.inj ((show Tryd.prog.funcNamed "bailiwick/bailiwicklaw05.RipemdChains" = some 5 by kernel_rfl).symm.trans hf) |>.symm
      obtain rfl : fn = Tryd.f5 := (Option.some.inj (Tryd.func5.symm.trans hfn)).symm
      exact ⟨by kernel_rfl, fun j t ht => by
        rw [Tryd.params5] at ht
        have hm : t ∈ [32] := by simpa using Array.mem_of_getElem? ht
        have hall : ([32].all fun u => !Tryd.prog.wantsStandIn u) = true := by kernel_rfl
        exact (show Tryd.prog.wantsStandIn t = false by simpa using List.all_eq_true.1 hall t hm)⟩)
    (by kernel_rfl)
end Go.Vm.C05

namespace Go.Proofs.YtmanmhalbfbdmaaDoor
theorem ripemdChains_card_holds : Rows.RipemdChainsCardSaid := Go.Vm.C05.ripemdChains_card
end Go.Proofs.YtmanmhalbfbdmaaDoor
