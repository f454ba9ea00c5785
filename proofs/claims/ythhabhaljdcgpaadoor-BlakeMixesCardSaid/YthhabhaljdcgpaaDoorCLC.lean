/- BlakeMixes: F is the document's, for any number of rounds; the package's three variables read as the program's text lays them (tied). -/
import Derived.Test.YthhabhaljdcgpaaDoorCL
namespace Go.Vm.C06
open Go Go.Proofs Go.Proofs.YthhabhaljdcgpaaDoor
set_option linter.unusedVariables false
set_option maxRecDepth 100000

theorem mixes_card : Rows.BlakeMixesCardSaid :=
  Claim7.holds_tied_plain_at .later [] [.widerDeep, .data, .data] true (true, "f2e7747852e43af4a1279560d5e1e02e9a73d33eff8fa617e670ed62e8b90b84") false
    mixes_over (fun _ h => by cases h) (by kernel_rfl) (fun _ h => by cases h) blakeMixes_row_tie rfl ⟨rfl, rfl⟩ (by kernel_rfl) rfl
    (fun f fn hf hfn => by
      obtain rfl : f = 3 := Option.some.inj ((show Tryd.prog.funcNamed "bailiwick/bailiwicklaw06.BlakeMixes" = some 3 by kernel_rfl).symm.trans hf) |>.symm
      obtain rfl : fn = Tryd.f3 := (Option.some.inj (Tryd.func3.symm.trans hfn)).symm
      exact ⟨by kernel_rfl, fun j t ht => by
        rw [Tryd.params3] at ht
        have hm : t ∈ [28] := by simpa using Array.mem_of_getElem? ht
        have hall : ([28].all fun u => !Tryd.prog.wantsStandIn u) = true := by kernel_rfl
        exact (show Tryd.prog.wantsStandIn t = false by simpa using List.all_eq_true.1 hall t hm)⟩)
    (by kernel_rfl)
end Go.Vm.C06

namespace Go.Proofs.YthhabhaljdcgpaaDoor
theorem mixes_card_holds : Rows.BlakeMixesCardSaid := Go.Vm.C06.mixes_card
end Go.Proofs.YthhabhaljdcgpaaDoor
