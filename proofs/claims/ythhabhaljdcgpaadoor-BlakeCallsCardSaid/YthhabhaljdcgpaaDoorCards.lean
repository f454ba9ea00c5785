/-
  DERIVED. GIVEN WITH THE SEED: THE CARDS: each row of YthhabhaljdcgpaaDoorRows.lean that lists a variable, with what it lists TIED to the program's text (the seventh form; the later family's looks); each row that meets fmt, with fmt's text TOLD by the authors' own Lean function (tested against real Go, not proved from fmt's source: count such statements apart). THE CARD IS WHAT COUNTS. Prove the row's statement (the work); the ties are given (YthhabhaljdcgpaaDoorTie.lean); close each card by the builder's one call (the guide's Derived/Test/ToyasCard.lean, 'card_holds'). Laid BY PROGRAM, IN A SANDBOX (cutbox-door.mjs). By AI agents, Wed Nov 11 2026. No macro, syntax, notation, axiom, sorry.
-/
import Derived.Test.YthhabhaljdcgpaaDoorRows
import GoSem.ClaimSeven
namespace Go.Proofs.YthhabhaljdcgpaaDoor
namespace Rows

/-- THE TIED CARD OF 'bailiwicklaw06.BlakeMixes'. -/
def blakeMixesCard : Claim7 := { stood := { row := blakeMixesRow, standIns := [], harness := (true, "f2e7747852e43af4a1279560d5e1e02e9a73d33eff8fa617e670ed62e8b90b84"), looks := false }, kinds := [], alts := [], laidByText := true, laidKinds := [.widerDeep, .data, .data], laidTests := true, laidLooks := .later }
def BlakeMixesCardSaid : Prop := Claim7.holds Tryd.pinned (.plain (OpenSpec.ofChange blakeMixesSpec)) blakeMixesCard

/-- THE TIED CARD OF 'bailiwicklaw06.BlakeHangs'. -/
def blakeHangsCard : Claim7 := { stood := { row := blakeHangsRow, standIns := [], harness := (true, "f2e7747852e43af4a1279560d5e1e02e9a73d33eff8fa617e670ed62e8b90b84"), looks := false }, kinds := [], alts := [], laidByText := true, laidKinds := [.widerDeep, .data, .data], laidTests := true, laidLooks := .later }
def BlakeHangsCardSaid : Prop := Claim7.holds Tryd.pinned (.plain (OpenSpec.ofChange blakeHangsSpec)) blakeHangsCard

/-- THE TIED CARD OF 'bailiwicklaw06.BlakeCalls'. -/
def blakeCallsCard : Claim7 := { stood := { row := blakeCallsRow, standIns := [], harness := (true, "f2e7747852e43af4a1279560d5e1e02e9a73d33eff8fa617e670ed62e8b90b84"), looks := false }, kinds := [], alts := [], laidByText := true, laidKinds := [.widerDeep, .data, .data], laidTests := true, laidLooks := .later }
def BlakeCallsCardSaid : Prop := Claim7.holds Tryd.pinned (.plain (OpenSpec.ofChange blakeCallsSpec)) blakeCallsCard

/-- THE SECOND FORM's CARD OF 'bailiwicklaw06.BlakeMixes'. -/
def blakeMixesUptoCard : Claim7 := { stood := { row := blakeMixesUptoRow, standIns := [], harness := (true, "f2e7747852e43af4a1279560d5e1e02e9a73d33eff8fa617e670ed62e8b90b84"), looks := false }, kinds := [], alts := [], laidByText := true, laidKinds := [.widerDeep, .data, .data], laidTests := true, laidLooks := .later }
def BlakeMixesUptoCardSaid : Prop := Claim7.holds Tryd.pinned (.plain (OpenSpec.upto blakeMixesSpec)) blakeMixesUptoCard

/-- THE SECOND FORM's CARD OF 'bailiwicklaw06.BlakeHangs'. -/
def blakeHangsUptoCard : Claim7 := { stood := { row := blakeHangsUptoRow, standIns := [], harness := (true, "f2e7747852e43af4a1279560d5e1e02e9a73d33eff8fa617e670ed62e8b90b84"), looks := false }, kinds := [], alts := [], laidByText := true, laidKinds := [.widerDeep, .data, .data], laidTests := true, laidLooks := .later }
def BlakeHangsUptoCardSaid : Prop := Claim7.holds Tryd.pinned (.plain (OpenSpec.upto blakeHangsSpec)) blakeHangsUptoCard

/-- THE SECOND FORM's CARD OF 'bailiwicklaw06.BlakeCalls'. -/
def blakeCallsUptoCard : Claim7 := { stood := { row := blakeCallsUptoRow, standIns := [], harness := (true, "f2e7747852e43af4a1279560d5e1e02e9a73d33eff8fa617e670ed62e8b90b84"), looks := false }, kinds := [], alts := [], laidByText := true, laidKinds := [.widerDeep, .data, .data], laidTests := true, laidLooks := .later }
def BlakeCallsUptoCardSaid : Prop := Claim7.holds Tryd.pinned (.plain (OpenSpec.upto blakeCallsSpec)) blakeCallsUptoCard
end Rows
end Go.Proofs.YthhabhaljdcgpaaDoor
