/-
  DERIVED. GIVEN WITH THE SEED: THE CARDS: each row of YtmanmhalbfbdmaaDoorRows.lean that lists a variable, with what it lists TIED to the program's text (the seventh form; the later family's looks); each row that meets fmt, with fmt's text TOLD by the authors' own Lean function (tested against real Go, not proved from fmt's source: count such statements apart). THE CARD IS WHAT COUNTS. Prove the row's statement (the work); the ties are given (YtmanmhalbfbdmaaDoorTie.lean); close each card by the builder's one call (the guide's Derived/Test/ToyasCard.lean, 'card_holds'). Laid BY PROGRAM, IN A SANDBOX (cutbox-door.mjs). By AI agents, Wed Nov 11 2026. No macro, syntax, notation, axiom, sorry.
-/
import Derived.Test.YtmanmhalbfbdmaaDoorRows
import GoSem.ClaimSeven
namespace Go.Proofs.YtmanmhalbfbdmaaDoor
namespace Rows

/-- THE TIED CARD OF 'bailiwicklaw05.RipemdSums'. -/
def ripemdSumsCard : Claim7 := { stood := { row := ripemdSumsRow, standIns := [], harness := (true, "80eddd6576d7fae9d1681af31a77d6c9d0efbb5305c12bd0184052f40dc3edbb"), looks := false }, kinds := [], alts := [], laidByText := true, laidKinds := [.data, .data, .data, .data, .data], laidTests := true, laidLooks := .later }
def RipemdSumsCardSaid : Prop := Claim7.holds Tryd.pinned (.plain (OpenSpec.ofChange ripemdSumsSpec)) ripemdSumsCard

/-- THE TIED CARD OF 'bailiwicklaw05.RipemdBlocks'. -/
def ripemdBlocksCard : Claim7 := { stood := { row := ripemdBlocksRow, standIns := [], harness := (true, "80eddd6576d7fae9d1681af31a77d6c9d0efbb5305c12bd0184052f40dc3edbb"), looks := false }, kinds := [], alts := [], laidByText := true, laidKinds := [.data, .data, .data, .data, .data], laidTests := true, laidLooks := .later }
def RipemdBlocksCardSaid : Prop := Claim7.holds Tryd.pinned (.plain (OpenSpec.ofChange ripemdBlocksSpec)) ripemdBlocksCard

/-- THE TIED CARD OF 'bailiwicklaw05.RipemdChains'. -/
def ripemdChainsCard : Claim7 := { stood := { row := ripemdChainsRow, standIns := [], harness := (true, "80eddd6576d7fae9d1681af31a77d6c9d0efbb5305c12bd0184052f40dc3edbb"), looks := false }, kinds := [], alts := [], laidByText := true, laidKinds := [.data, .data, .data, .data, .data], laidTests := true, laidLooks := .later }
def RipemdChainsCardSaid : Prop := Claim7.holds Tryd.pinned (.plain (OpenSpec.ofChange ripemdChainsSpec)) ripemdChainsCard

/-- THE SECOND FORM's CARD OF 'bailiwicklaw05.RipemdSums'. -/
def ripemdSumsUptoCard : Claim7 := { stood := { row := ripemdSumsUptoRow, standIns := [], harness := (true, "80eddd6576d7fae9d1681af31a77d6c9d0efbb5305c12bd0184052f40dc3edbb"), looks := false }, kinds := [], alts := [], laidByText := true, laidKinds := [.data, .data, .data, .data, .data], laidTests := true, laidLooks := .later }
def RipemdSumsUptoCardSaid : Prop := Claim7.holds Tryd.pinned (.plain (OpenSpec.upto ripemdSumsSpec)) ripemdSumsUptoCard

/-- THE SECOND FORM's CARD OF 'bailiwicklaw05.RipemdBlocks'. -/
def ripemdBlocksUptoCard : Claim7 := { stood := { row := ripemdBlocksUptoRow, standIns := [], harness := (true, "80eddd6576d7fae9d1681af31a77d6c9d0efbb5305c12bd0184052f40dc3edbb"), looks := false }, kinds := [], alts := [], laidByText := true, laidKinds := [.data, .data, .data, .data, .data], laidTests := true, laidLooks := .later }
def RipemdBlocksUptoCardSaid : Prop := Claim7.holds Tryd.pinned (.plain (OpenSpec.upto ripemdBlocksSpec)) ripemdBlocksUptoCard

/-- THE SECOND FORM's CARD OF 'bailiwicklaw05.RipemdChains'. -/
def ripemdChainsUptoCard : Claim7 := { stood := { row := ripemdChainsUptoRow, standIns := [], harness := (true, "80eddd6576d7fae9d1681af31a77d6c9d0efbb5305c12bd0184052f40dc3edbb"), looks := false }, kinds := [], alts := [], laidByText := true, laidKinds := [.data, .data, .data, .data, .data], laidTests := true, laidLooks := .later }
def RipemdChainsUptoCardSaid : Prop := Claim7.holds Tryd.pinned (.plain (OpenSpec.upto ripemdChainsSpec)) ripemdChainsUptoCard
end Rows
end Go.Proofs.YtmanmhalbfbdmaaDoor
