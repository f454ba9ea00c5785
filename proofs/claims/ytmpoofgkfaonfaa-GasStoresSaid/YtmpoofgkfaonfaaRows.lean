/-
  No cell of these rows narrows 'for every input' (looked for: loops, veiled, ifaces, maps, wideKeys, modest, calm, conditions, laid).
  DERIVED. THE GIVEN ROWS OF THIS SEAT. 6 by the template 'for every input the law returns true; each argument reads behind the call as it read before'; 0 by the template 'total and deterministic' (their statements: YtmpoofgkfaonfaaTotals.lean).
  GIVEN WITH THE SEED: the statements are not yours to turn. If you find one false, say at which input.
  Laid BY PROGRAM, IN A SANDBOX (cutbox-rows.mjs): the forced cells as the released guide's own fill.sh prints them over the translation 177d95352e57c951… (all of the seat's roots in one cut). By AI agents, Wed Nov 11 2026. No macro, syntax, notation, axiom, sorry.
-/
import Derived.Test.YtmpoofgkfaonfaaChecked
import GoSem.Claim
import GoSem.ClaimJoined
import GoSem.ClaimMapViews
import Derived.JoinedTies
import Derived.KernelRfl
namespace Go.Proofs.Ytmpoofgkfaonfaa
/- THE CELL 'sum', in the pinned program and in every row, IS THE sha256 OF THE DUMP (.gsa) THAT YtmpoofgkfaonfaaProg.lean LOADS. Nothing in Lean hashes anything: it is a label: what it is worth is what the hold of that sum in a sandbox is worth. -/
noncomputable def Try.pinned : Pinned := { name := "ytmpoofgkfaonfaa", sum := "177d95352e57c9512bc6150db6b8a666e9adc13c71bb5569e340f31113d9a97a", checked := Try.checked }
namespace Rows
def none {H : Type} : Left H := { results := [], args := [] }

/-- 'bailiwicklaw19.GasFees': WHATEVER THE INPUT: true; the input reads as it did. -/
def gasFeesSpec : ChangeSpec := { name := "gasFees", fn := fun _ => fun
  | [d1, d2, d3] => { results := [.lit (.bool true)], args := [d1, d2, d3] }
  | _ => none }
def gasFeesRow : OpenClaim := { program := "ytmpoofgkfaonfaa", sum := "177d95352e57c9512bc6150db6b8a666e9adc13c71bb5569e340f31113d9a97a", func := "bailiwick/bailiwicklaw19.GasFees", spec := "gasFees", inPlace := ["math/bits.Add64", "math/bits.Sub64"], unfollowed := true, recurses := true, named := ["math/bits.divideError", "math/bits.overflowError"], apart := false }
def GasFeesSaid : Prop := gasFeesRow.holds Try.pinned (OpenSpec.ofChange gasFeesSpec)

/-- ITS FALSE NEIGHBOUR: 'it returns false'. Refute it at one input. -/
def gasFeesWrong : ChangeSpec := { name := "gasFees", fn := fun _ => fun
  | [d1, d2, d3] => { results := [.lit (.bool false)], args := [d1, d2, d3] }
  | _ => none }
def GasFeesWrongFalsely : Prop := gasFeesRow.holds Try.pinned (OpenSpec.ofChange gasFeesWrong)

/-- 'bailiwicklaw19.GasMore': WHATEVER THE INPUT: true; the input reads as it did. -/
def gasMoreSpec : ChangeSpec := { name := "gasMore", fn := fun _ => fun
  | [d1, d2] => { results := [.lit (.bool true)], args := [d1, d2] }
  | _ => none }
def gasMoreRow : OpenClaim := { program := "ytmpoofgkfaonfaa", sum := "177d95352e57c9512bc6150db6b8a666e9adc13c71bb5569e340f31113d9a97a", func := "bailiwick/bailiwicklaw19.GasMore", spec := "gasMore", inPlace := ["math/bits.Add64", "math/bits.Sub64"], unfollowed := true, recurses := true, named := ["math/bits.divideError", "math/bits.overflowError"], apart := false }
def GasMoreSaid : Prop := gasMoreRow.holds Try.pinned (OpenSpec.ofChange gasMoreSpec)

/-- ITS FALSE NEIGHBOUR: 'it returns false'. Refute it at one input. -/
def gasMoreWrong : ChangeSpec := { name := "gasMore", fn := fun _ => fun
  | [d1, d2] => { results := [.lit (.bool false)], args := [d1, d2] }
  | _ => none }
def GasMoreWrongFalsely : Prop := gasMoreRow.holds Try.pinned (OpenSpec.ofChange gasMoreWrong)

/-- 'bailiwicklaw19.GasGrows': WHATEVER THE INPUT: true; the input reads as it did. -/
def gasGrowsSpec : ChangeSpec := { name := "gasGrows", fn := fun _ => fun
  | [d1, d2, d3] => { results := [.lit (.bool true)], args := [d1, d2, d3] }
  | _ => none }
def gasGrowsRow : OpenClaim := { program := "ytmpoofgkfaonfaa", sum := "177d95352e57c9512bc6150db6b8a666e9adc13c71bb5569e340f31113d9a97a", func := "bailiwick/bailiwicklaw19.GasGrows", spec := "gasGrows", inPlace := ["math/bits.Add64", "math/bits.Sub64"], unfollowed := true, recurses := true, named := ["math/bits.divideError", "math/bits.overflowError"], apart := false }
def GasGrowsSaid : Prop := gasGrowsRow.holds Try.pinned (OpenSpec.ofChange gasGrowsSpec)

/-- ITS FALSE NEIGHBOUR: 'it returns false'. Refute it at one input. -/
def gasGrowsWrong : ChangeSpec := { name := "gasGrows", fn := fun _ => fun
  | [d1, d2, d3] => { results := [.lit (.bool false)], args := [d1, d2, d3] }
  | _ => none }
def GasGrowsWrongFalsely : Prop := gasGrowsRow.holds Try.pinned (OpenSpec.ofChange gasGrowsWrong)

/-- 'bailiwicklaw19.GasCalls': WHATEVER THE INPUT: true; the input reads as it did. -/
def gasCallsSpec : ChangeSpec := { name := "gasCalls", fn := fun _ => fun
  | [d1, d2, d3] => { results := [.lit (.bool true)], args := [d1, d2, d3] }
  | _ => none }
def gasCallsRow : OpenClaim := { program := "ytmpoofgkfaonfaa", sum := "177d95352e57c9512bc6150db6b8a666e9adc13c71bb5569e340f31113d9a97a", func := "bailiwick/bailiwicklaw19.GasCalls", spec := "gasCalls", inPlace := ["math/bits.Add64", "math/bits.Sub64"], unfollowed := true, recurses := true, named := ["math/bits.divideError", "math/bits.overflowError"], apart := false }
def GasCallsSaid : Prop := gasCallsRow.holds Try.pinned (OpenSpec.ofChange gasCallsSpec)

/-- ITS FALSE NEIGHBOUR: 'it returns false'. Refute it at one input. -/
def gasCallsWrong : ChangeSpec := { name := "gasCalls", fn := fun _ => fun
  | [d1, d2, d3] => { results := [.lit (.bool false)], args := [d1, d2, d3] }
  | _ => none }
def GasCallsWrongFalsely : Prop := gasCallsRow.holds Try.pinned (OpenSpec.ofChange gasCallsWrong)

/-- 'bailiwicklaw19.GasSizes': WHATEVER THE INPUT: true; the input reads as it did. -/
def gasSizesSpec : ChangeSpec := { name := "gasSizes", fn := fun _ => fun
  | [d1, d2, d3] => { results := [.lit (.bool true)], args := [d1, d2, d3] }
  | _ => none }
def gasSizesRow : OpenClaim := { program := "ytmpoofgkfaonfaa", sum := "177d95352e57c9512bc6150db6b8a666e9adc13c71bb5569e340f31113d9a97a", func := "bailiwick/bailiwicklaw19.GasSizes", spec := "gasSizes", inPlace := ["math/bits.Add64", "math/bits.Sub64"], unfollowed := true, recurses := true, named := ["math/bits.divideError", "math/bits.overflowError"], apart := false }
def GasSizesSaid : Prop := gasSizesRow.holds Try.pinned (OpenSpec.ofChange gasSizesSpec)

/-- ITS FALSE NEIGHBOUR: 'it returns false'. Refute it at one input. -/
def gasSizesWrong : ChangeSpec := { name := "gasSizes", fn := fun _ => fun
  | [d1, d2, d3] => { results := [.lit (.bool false)], args := [d1, d2, d3] }
  | _ => none }
def GasSizesWrongFalsely : Prop := gasSizesRow.holds Try.pinned (OpenSpec.ofChange gasSizesWrong)

/-- 'bailiwicklaw19.GasStores': WHATEVER THE INPUT: true; the input reads as it did. -/
def gasStoresSpec : ChangeSpec := { name := "gasStores", fn := fun _ => fun
  | [d1, d2] => { results := [.lit (.bool true)], args := [d1, d2] }
  | _ => none }
def gasStoresRow : OpenClaim := { program := "ytmpoofgkfaonfaa", sum := "177d95352e57c9512bc6150db6b8a666e9adc13c71bb5569e340f31113d9a97a", func := "bailiwick/bailiwicklaw19.GasStores", spec := "gasStores", inPlace := ["math/bits.Add64", "math/bits.Sub64"], unfollowed := true, recurses := true, named := ["math/bits.divideError", "math/bits.overflowError"], apart := false }
def GasStoresSaid : Prop := gasStoresRow.holds Try.pinned (OpenSpec.ofChange gasStoresSpec)

/-- ITS FALSE NEIGHBOUR: 'it returns false'. Refute it at one input. -/
def gasStoresWrong : ChangeSpec := { name := "gasStores", fn := fun _ => fun
  | [d1, d2] => { results := [.lit (.bool false)], args := [d1, d2] }
  | _ => none }
def GasStoresWrongFalsely : Prop := gasStoresRow.holds Try.pinned (OpenSpec.ofChange gasStoresWrong)

/- THE SECOND FORM. 'bulk': how many values and letters a reading holds, each counted each time it is reached (what is shared counts as often as it is met; a slice's spare places count too). A statement '..UptoSaid' is the law's where the arguments, and the package variables that the reading takes, are together of bulk at most 1048576: NARROWER than '..Said'. Prove '..Said' where nothing that the law and all that it calls make is longer than what came in: it says more and counts as full. Else prove '..UptoSaid'. A law counts once. -/
mutual
def uptoBulk {H : Type} : DataW H → Nat
  | .lit (.string bytes) => bytes.length + 1
  | .lit _ => 1
  | .nil => 1
  | .ptr d => uptoBulk d + 1
  | .slice elems spare => uptoBulkAll elems + uptoBulkAll spare + 1
  | .agg parts => uptoBulkAll parts + 1
  | .iface _ d => uptoBulk d + 1
  | .map entries => uptoBulkEntries entries + 1
  | .held _ => 1
def uptoBulkAll {H : Type} : List (DataW H) → Nat
  | [] => 0
  | d :: r => uptoBulk d + uptoBulkAll r
def uptoBulkEntries {H : Type} : List (Lit × DataW H) → Nat
  | [] => 0
  | x :: r => uptoBulkEntry x + uptoBulkEntries r
def uptoBulkEntry {H : Type} : Lit × DataW H → Nat
  | (.string bytes, d) => bytes.length + uptoBulk d + 1
  | (_, d) => uptoBulk d + 1
 end
def uptoSmall : (H : Type) → List (DataW H) → Bool := fun _ ds => decide (uptoBulkAll ds ≤ 1048576)
def OpenSpec.upto (s : _root_.Go.ChangeSpec) : _root_.Go.OpenSpec := { _root_.Go.OpenSpec.ofChange s with cond := some uptoSmall }

/-- 'bailiwicklaw19.GasFees', WHERE WHAT IT READS IS OF BULK AT MOST 1048576: true; the input reads as it did. -/
def gasFeesUptoRow : OpenClaim := { program := "ytmpoofgkfaonfaa", sum := "177d95352e57c9512bc6150db6b8a666e9adc13c71bb5569e340f31113d9a97a", func := "bailiwick/bailiwicklaw19.GasFees", spec := "gasFees", inPlace := ["math/bits.Add64", "math/bits.Sub64"], unfollowed := true, recurses := true, named := ["math/bits.divideError", "math/bits.overflowError"], apart := false, narrowed := true }
def GasFeesUptoSaid : Prop := gasFeesUptoRow.holds Try.pinned (OpenSpec.upto gasFeesSpec)

/-- 'bailiwicklaw19.GasMore', WHERE WHAT IT READS IS OF BULK AT MOST 1048576: true; the input reads as it did. -/
def gasMoreUptoRow : OpenClaim := { program := "ytmpoofgkfaonfaa", sum := "177d95352e57c9512bc6150db6b8a666e9adc13c71bb5569e340f31113d9a97a", func := "bailiwick/bailiwicklaw19.GasMore", spec := "gasMore", inPlace := ["math/bits.Add64", "math/bits.Sub64"], unfollowed := true, recurses := true, named := ["math/bits.divideError", "math/bits.overflowError"], apart := false, narrowed := true }
def GasMoreUptoSaid : Prop := gasMoreUptoRow.holds Try.pinned (OpenSpec.upto gasMoreSpec)

/-- 'bailiwicklaw19.GasGrows', WHERE WHAT IT READS IS OF BULK AT MOST 1048576: true; the input reads as it did. -/
def gasGrowsUptoRow : OpenClaim := { program := "ytmpoofgkfaonfaa", sum := "177d95352e57c9512bc6150db6b8a666e9adc13c71bb5569e340f31113d9a97a", func := "bailiwick/bailiwicklaw19.GasGrows", spec := "gasGrows", inPlace := ["math/bits.Add64", "math/bits.Sub64"], unfollowed := true, recurses := true, named := ["math/bits.divideError", "math/bits.overflowError"], apart := false, narrowed := true }
def GasGrowsUptoSaid : Prop := gasGrowsUptoRow.holds Try.pinned (OpenSpec.upto gasGrowsSpec)

/-- 'bailiwicklaw19.GasCalls', WHERE WHAT IT READS IS OF BULK AT MOST 1048576: true; the input reads as it did. -/
def gasCallsUptoRow : OpenClaim := { program := "ytmpoofgkfaonfaa", sum := "177d95352e57c9512bc6150db6b8a666e9adc13c71bb5569e340f31113d9a97a", func := "bailiwick/bailiwicklaw19.GasCalls", spec := "gasCalls", inPlace := ["math/bits.Add64", "math/bits.Sub64"], unfollowed := true, recurses := true, named := ["math/bits.divideError", "math/bits.overflowError"], apart := false, narrowed := true }
def GasCallsUptoSaid : Prop := gasCallsUptoRow.holds Try.pinned (OpenSpec.upto gasCallsSpec)

/-- 'bailiwicklaw19.GasSizes', WHERE WHAT IT READS IS OF BULK AT MOST 1048576: true; the input reads as it did. -/
def gasSizesUptoRow : OpenClaim := { program := "ytmpoofgkfaonfaa", sum := "177d95352e57c9512bc6150db6b8a666e9adc13c71bb5569e340f31113d9a97a", func := "bailiwick/bailiwicklaw19.GasSizes", spec := "gasSizes", inPlace := ["math/bits.Add64", "math/bits.Sub64"], unfollowed := true, recurses := true, named := ["math/bits.divideError", "math/bits.overflowError"], apart := false, narrowed := true }
def GasSizesUptoSaid : Prop := gasSizesUptoRow.holds Try.pinned (OpenSpec.upto gasSizesSpec)

/-- 'bailiwicklaw19.GasStores', WHERE WHAT IT READS IS OF BULK AT MOST 1048576: true; the input reads as it did. -/
def gasStoresUptoRow : OpenClaim := { program := "ytmpoofgkfaonfaa", sum := "177d95352e57c9512bc6150db6b8a666e9adc13c71bb5569e340f31113d9a97a", func := "bailiwick/bailiwicklaw19.GasStores", spec := "gasStores", inPlace := ["math/bits.Add64", "math/bits.Sub64"], unfollowed := true, recurses := true, named := ["math/bits.divideError", "math/bits.overflowError"], apart := false, narrowed := true }
def GasStoresUptoSaid : Prop := gasStoresUptoRow.holds Try.pinned (OpenSpec.upto gasStoresSpec)

end Rows
end Go.Proofs.Ytmpoofgkfaonfaa
