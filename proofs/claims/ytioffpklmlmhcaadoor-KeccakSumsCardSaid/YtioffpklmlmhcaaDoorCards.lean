/-
  DERIVED. GIVEN WITH THE SEED: THE CARDS: each row of YtioffpklmlmhcaaDoorRows.lean that lists a variable, with what it lists TIED to the program's text (the seventh form; the later family's looks); each row that meets fmt, with fmt's text TOLD by the authors' own Lean function (tested against real Go, not proved from fmt's source: count such statements apart). THE CARD IS WHAT COUNTS. Prove the row's statement (the work); the ties are given (YtioffpklmlmhcaaDoorTie.lean); close each card by the builder's one call (the guide's Derived/Test/ToyasCard.lean, 'card_holds'). Laid BY PROGRAM, IN A SANDBOX (cutbox-door.mjs). By AI agents, Wed Nov 11 2026. No macro, syntax, notation, axiom, sorry.
-/
import Derived.Test.YtioffpklmlmhcaaDoorRows
import GoSem.ClaimSeven
namespace Go.Proofs.YtioffpklmlmhcaaDoor
namespace Rows

/-- THE TIED CARD OF 'bailiwicklaw03.KeccakSums'. -/
def keccakSumsCard : Claim7 := { stood := { row := keccakSumsRow, standIns := [], harness := (true, "577b79c81ea43d6ed75b8b7550ecc7ed7d709fbc201ba1a1840ed03343500957"), looks := false }, kinds := [], alts := [], laidByText := true, laidKinds := [.data, .data, .data], laidTests := true, laidLooks := .later }
def KeccakSumsCardSaid : Prop := Claim7.holds Tryd.pinned (.plain (OpenSpec.ofChange keccakSumsSpec)) keccakSumsCard

/-- THE TIED CARD OF 'bailiwicklaw03.KeccakPermutes'. -/
def keccakPermutesCard : Claim7 := { stood := { row := keccakPermutesRow, standIns := [], harness := (true, "577b79c81ea43d6ed75b8b7550ecc7ed7d709fbc201ba1a1840ed03343500957"), looks := false }, kinds := [], alts := [], laidByText := true, laidKinds := [.data, .data, .data], laidTests := true, laidLooks := .later }
def KeccakPermutesCardSaid : Prop := Claim7.holds Tryd.pinned (.plain (OpenSpec.ofChange keccakPermutesSpec)) keccakPermutesCard

/-- THE SECOND FORM's CARD OF 'bailiwicklaw03.KeccakSums'. -/
def keccakSumsUptoCard : Claim7 := { stood := { row := keccakSumsUptoRow, standIns := [], harness := (true, "577b79c81ea43d6ed75b8b7550ecc7ed7d709fbc201ba1a1840ed03343500957"), looks := false }, kinds := [], alts := [], laidByText := true, laidKinds := [.data, .data, .data], laidTests := true, laidLooks := .later }
def KeccakSumsUptoCardSaid : Prop := Claim7.holds Tryd.pinned (.plain (OpenSpec.upto keccakSumsSpec)) keccakSumsUptoCard

/-- THE SECOND FORM's CARD OF 'bailiwicklaw03.KeccakPermutes'. -/
def keccakPermutesUptoCard : Claim7 := { stood := { row := keccakPermutesUptoRow, standIns := [], harness := (true, "577b79c81ea43d6ed75b8b7550ecc7ed7d709fbc201ba1a1840ed03343500957"), looks := false }, kinds := [], alts := [], laidByText := true, laidKinds := [.data, .data, .data], laidTests := true, laidLooks := .later }
def KeccakPermutesUptoCardSaid : Prop := Claim7.holds Tryd.pinned (.plain (OpenSpec.upto keccakPermutesSpec)) keccakPermutesUptoCard
end Rows
end Go.Proofs.YtioffpklmlmhcaaDoor
