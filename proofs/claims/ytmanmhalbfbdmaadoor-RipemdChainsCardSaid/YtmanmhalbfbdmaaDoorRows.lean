/-
  NARROWER THAN 'FOR EVERY INPUT', by the rows' own cells (each row's printed sentence says how): RipemdSums: laid · RipemdBlocks: laid · RipemdChains: laid.
  DERIVED. THE GIVEN ROWS OF THIS SEAT. 3 by the template 'for every input the law returns true; each argument reads behind the call as it read before'; 0 by the template 'total and deterministic' (their statements: YtmanmhalbfbdmaaDoorTotals.lean).
  GIVEN WITH THE SEED: the statements are not yours to turn. If you find one false, say at which input.
  Laid BY PROGRAM, IN A SANDBOX (cutbox-rows.mjs): the forced cells as the released guide's own fill.sh prints them over the translation 86faae4727764bd0… (all of the seat's roots in one cut). By AI agents, Wed Nov 11 2026. No macro, syntax, notation, axiom, sorry.
-/
import Derived.Test.YtmanmhalbfbdmaaDoorChecked
import GoSem.Claim
import GoSem.ClaimJoined
import GoSem.ClaimMapViews
import Derived.JoinedTies
import Derived.KernelRfl
namespace Go.Proofs.YtmanmhalbfbdmaaDoor
/- THE CELL 'sum', in the pinned program and in every row, IS THE sha256 OF THE DUMP (.gsa) THAT YtmanmhalbfbdmaaDoorProg.lean LOADS. Nothing in Lean hashes anything: it is a label: what it is worth is what the hold of that sum in a sandbox is worth. -/
noncomputable def Tryd.pinned : Pinned := { name := "ytmanmhalbfbdmaadoor", sum := "86faae4727764bd07930654a2e6595e3ff7b9275211dc6dde5380ec4389ef91e", checked := Tryd.checked }
namespace Rows
def none {H : Type} : Left H := { results := [], args := [] }

/- WHAT THE LISTED PACKAGE-LEVEL VARIABLES READ AS WHEN THE CALL BEGINS. Each datum BY PROGRAM (the guide's laid-datum.mjs) off the statement by which the dump's own 'gosem.cut.vars' lays the variable. In a bare row this is a premise. The card (YtmanmhalbfbdmaaDoorCards.lean) ties it to the program's text. -/
def laid_bailiwick_ripemd_rho {H : Type} : DataW H := .agg [.lit (.int .i64 7), .lit (.int .i64 4), .lit (.int .i64 13), .lit (.int .i64 1), .lit (.int .i64 10), .lit (.int .i64 6), .lit (.int .i64 15), .lit (.int .i64 3), .lit (.int .i64 12), .lit (.int .i64 0), .lit (.int .i64 9), .lit (.int .i64 5), .lit (.int .i64 2), .lit (.int .i64 14), .lit (.int .i64 11), .lit (.int .i64 8)]
def laid_bailiwick_ripemd_turns {H : Type} : DataW H := .agg [.agg [.lit (.int .i64 11), .lit (.int .i64 14), .lit (.int .i64 15), .lit (.int .i64 12), .lit (.int .i64 5), .lit (.int .i64 8), .lit (.int .i64 7), .lit (.int .i64 9), .lit (.int .i64 11), .lit (.int .i64 13), .lit (.int .i64 14), .lit (.int .i64 15), .lit (.int .i64 6), .lit (.int .i64 7), .lit (.int .i64 9), .lit (.int .i64 8)], .agg [.lit (.int .i64 12), .lit (.int .i64 13), .lit (.int .i64 11), .lit (.int .i64 15), .lit (.int .i64 6), .lit (.int .i64 9), .lit (.int .i64 9), .lit (.int .i64 7), .lit (.int .i64 12), .lit (.int .i64 15), .lit (.int .i64 11), .lit (.int .i64 13), .lit (.int .i64 7), .lit (.int .i64 8), .lit (.int .i64 7), .lit (.int .i64 7)], .agg [.lit (.int .i64 13), .lit (.int .i64 15), .lit (.int .i64 14), .lit (.int .i64 11), .lit (.int .i64 7), .lit (.int .i64 7), .lit (.int .i64 6), .lit (.int .i64 8), .lit (.int .i64 13), .lit (.int .i64 14), .lit (.int .i64 13), .lit (.int .i64 12), .lit (.int .i64 5), .lit (.int .i64 5), .lit (.int .i64 6), .lit (.int .i64 9)], .agg [.lit (.int .i64 14), .lit (.int .i64 11), .lit (.int .i64 12), .lit (.int .i64 14), .lit (.int .i64 8), .lit (.int .i64 6), .lit (.int .i64 5), .lit (.int .i64 5), .lit (.int .i64 15), .lit (.int .i64 12), .lit (.int .i64 15), .lit (.int .i64 14), .lit (.int .i64 9), .lit (.int .i64 9), .lit (.int .i64 8), .lit (.int .i64 6)], .agg [.lit (.int .i64 15), .lit (.int .i64 12), .lit (.int .i64 13), .lit (.int .i64 13), .lit (.int .i64 9), .lit (.int .i64 5), .lit (.int .i64 8), .lit (.int .i64 6), .lit (.int .i64 14), .lit (.int .i64 11), .lit (.int .i64 12), .lit (.int .i64 11), .lit (.int .i64 8), .lit (.int .i64 6), .lit (.int .i64 5), .lit (.int .i64 5)]]
def laid_bailiwick_ripemd_first {H : Type} : DataW H := .agg [.lit (.int .u32 0), .lit (.int .u32 1518500249), .lit (.int .u32 1859775393), .lit (.int .u32 2400959708), .lit (.int .u32 2840853838)]
def laid_bailiwick_ripemd_second {H : Type} : DataW H := .agg [.lit (.int .u32 1352829926), .lit (.int .u32 1548603684), .lit (.int .u32 1836072691), .lit (.int .u32 2053994217), .lit (.int .u32 0)]
def laid_bailiwick_ripemd_begun {H : Type} : DataW H := .agg [.lit (.int .u32 1732584193), .lit (.int .u32 4023233417), .lit (.int .u32 2562383102), .lit (.int .u32 271733878), .lit (.int .u32 3285377520)]

/-- 'bailiwicklaw05.RipemdSums': WHATEVER THE INPUT: true; the input reads as it did. -/
def ripemdSumsSpec : ChangeSpec := { name := "ripemdSums", fn := fun _ => fun
  | [d] => { results := [.lit (.bool true)], args := [d] }
  | _ => none }
def ripemdSumsRow : OpenClaim := { program := "ytmanmhalbfbdmaadoor", sum := "86faae4727764bd07930654a2e6595e3ff7b9275211dc6dde5380ec4389ef91e", func := "bailiwick/bailiwicklaw05.RipemdSums", spec := "ripemdSums", named := ["bailiwick/ripemd.begun", "bailiwick/ripemd.first", "bailiwick/ripemd.second", "bailiwick/ripemd.turns", "bailiwick/ripemd.rho"], apart := false, laid := [("bailiwick/ripemd.rho", laid_bailiwick_ripemd_rho), ("bailiwick/ripemd.turns", laid_bailiwick_ripemd_turns), ("bailiwick/ripemd.first", laid_bailiwick_ripemd_first), ("bailiwick/ripemd.second", laid_bailiwick_ripemd_second), ("bailiwick/ripemd.begun", laid_bailiwick_ripemd_begun)] }
def RipemdSumsSaid : Prop := ripemdSumsRow.holds Tryd.pinned (OpenSpec.ofChange ripemdSumsSpec)

/-- ITS FALSE NEIGHBOUR: 'it returns false'. Refute it at one input. -/
def ripemdSumsWrong : ChangeSpec := { name := "ripemdSums", fn := fun _ => fun
  | [d] => { results := [.lit (.bool false)], args := [d] }
  | _ => none }
def RipemdSumsWrongFalsely : Prop := ripemdSumsRow.holds Tryd.pinned (OpenSpec.ofChange ripemdSumsWrong)

/-- 'bailiwicklaw05.RipemdBlocks': WHATEVER THE INPUT: true; the input reads as it did. -/
def ripemdBlocksSpec : ChangeSpec := { name := "ripemdBlocks", fn := fun _ => fun
  | [d1, d2] => { results := [.lit (.bool true)], args := [d1, d2] }
  | _ => none }
def ripemdBlocksRow : OpenClaim := { program := "ytmanmhalbfbdmaadoor", sum := "86faae4727764bd07930654a2e6595e3ff7b9275211dc6dde5380ec4389ef91e", func := "bailiwick/bailiwicklaw05.RipemdBlocks", spec := "ripemdBlocks", named := ["bailiwick/ripemd.first", "bailiwick/ripemd.second", "bailiwick/ripemd.turns", "bailiwick/ripemd.rho", "bailiwick/ripemd.begun"], apart := false, laid := [("bailiwick/ripemd.rho", laid_bailiwick_ripemd_rho), ("bailiwick/ripemd.turns", laid_bailiwick_ripemd_turns), ("bailiwick/ripemd.first", laid_bailiwick_ripemd_first), ("bailiwick/ripemd.second", laid_bailiwick_ripemd_second), ("bailiwick/ripemd.begun", laid_bailiwick_ripemd_begun)] }
def RipemdBlocksSaid : Prop := ripemdBlocksRow.holds Tryd.pinned (OpenSpec.ofChange ripemdBlocksSpec)

/-- ITS FALSE NEIGHBOUR: 'it returns false'. Refute it at one input. -/
def ripemdBlocksWrong : ChangeSpec := { name := "ripemdBlocks", fn := fun _ => fun
  | [d1, d2] => { results := [.lit (.bool false)], args := [d1, d2] }
  | _ => none }
def RipemdBlocksWrongFalsely : Prop := ripemdBlocksRow.holds Tryd.pinned (OpenSpec.ofChange ripemdBlocksWrong)

/-- 'bailiwicklaw05.RipemdChains': WHATEVER THE INPUT: true; the input reads as it did. -/
def ripemdChainsSpec : ChangeSpec := { name := "ripemdChains", fn := fun _ => fun
  | [d] => { results := [.lit (.bool true)], args := [d] }
  | _ => none }
def ripemdChainsRow : OpenClaim := { program := "ytmanmhalbfbdmaadoor", sum := "86faae4727764bd07930654a2e6595e3ff7b9275211dc6dde5380ec4389ef91e", func := "bailiwick/bailiwicklaw05.RipemdChains", spec := "ripemdChains", named := ["bailiwick/ripemd.first", "bailiwick/ripemd.second", "bailiwick/ripemd.turns", "bailiwick/ripemd.rho", "bailiwick/ripemd.begun"], apart := false, laid := [("bailiwick/ripemd.rho", laid_bailiwick_ripemd_rho), ("bailiwick/ripemd.turns", laid_bailiwick_ripemd_turns), ("bailiwick/ripemd.first", laid_bailiwick_ripemd_first), ("bailiwick/ripemd.second", laid_bailiwick_ripemd_second), ("bailiwick/ripemd.begun", laid_bailiwick_ripemd_begun)] }
def RipemdChainsSaid : Prop := ripemdChainsRow.holds Tryd.pinned (OpenSpec.ofChange ripemdChainsSpec)

/-- ITS FALSE NEIGHBOUR: 'it returns false'. Refute it at one input. -/
def ripemdChainsWrong : ChangeSpec := { name := "ripemdChains", fn := fun _ => fun
  | [d] => { results := [.lit (.bool false)], args := [d] }
  | _ => none }
def RipemdChainsWrongFalsely : Prop := ripemdChainsRow.holds Tryd.pinned (OpenSpec.ofChange ripemdChainsWrong)

/- THE SECOND FORM. 'bulk': how many values and letters a reading holds, each counted each time it is reached (what is shared counts as often as it is met; a slice's spare places count too). A statement '..UptoSaid' is the law's where the arguments, and the package variables that the reading takes, are together of bulk at most 1048576: NARROWER than '..Said'. Prove '..Said' where nothing that the law and all that it calls make is longer than what came in: it says more and counts as full. Else prove '..UptoSaid'. A law counts once. -/
mutual
def uptoBulk {H : Type} : DataW H → Nat
  | .lit (.string bytes) => bytes.length + 1
  | .lit _ => 1
  | .nil => 1
  | .ptr d => uptoBulk d + 1
  | .slice elems spare => uptoBulkAll elems + uptoBulkAll spare + 1
  | .agg parts => uptoBulkAll parts + 1
  | .iface _ d => uptoBulk d + 1
  | .map entries => uptoBulkEntries entries + 1
  | .held _ => 1
def uptoBulkAll {H : Type} : List (DataW H) → Nat
  | [] => 0
  | d :: r => uptoBulk d + uptoBulkAll r
def uptoBulkEntries {H : Type} : List (Lit × DataW H) → Nat
  | [] => 0
  | x :: r => uptoBulkEntry x + uptoBulkEntries r
def uptoBulkEntry {H : Type} : Lit × DataW H → Nat
  | (.string bytes, d) => bytes.length + uptoBulk d + 1
  | (_, d) => uptoBulk d + 1
 end
def uptoSmall : (H : Type) → List (DataW H) → Bool := fun _ ds => decide (uptoBulkAll ds ≤ 1048576)
def OpenSpec.upto (s : _root_.Go.ChangeSpec) : _root_.Go.OpenSpec := { _root_.Go.OpenSpec.ofChange s with cond := some uptoSmall }

/-- 'bailiwicklaw05.RipemdSums', WHERE WHAT IT READS IS OF BULK AT MOST 1048576: true; the input reads as it did. -/
def ripemdSumsUptoRow : OpenClaim := { program := "ytmanmhalbfbdmaadoor", sum := "86faae4727764bd07930654a2e6595e3ff7b9275211dc6dde5380ec4389ef91e", func := "bailiwick/bailiwicklaw05.RipemdSums", spec := "ripemdSums", named := ["bailiwick/ripemd.begun", "bailiwick/ripemd.first", "bailiwick/ripemd.second", "bailiwick/ripemd.turns", "bailiwick/ripemd.rho"], apart := false, laid := [("bailiwick/ripemd.rho", laid_bailiwick_ripemd_rho), ("bailiwick/ripemd.turns", laid_bailiwick_ripemd_turns), ("bailiwick/ripemd.first", laid_bailiwick_ripemd_first), ("bailiwick/ripemd.second", laid_bailiwick_ripemd_second), ("bailiwick/ripemd.begun", laid_bailiwick_ripemd_begun)], narrowed := true }
def RipemdSumsUptoSaid : Prop := ripemdSumsUptoRow.holds Tryd.pinned (OpenSpec.upto ripemdSumsSpec)

/-- 'bailiwicklaw05.RipemdBlocks', WHERE WHAT IT READS IS OF BULK AT MOST 1048576: true; the input reads as it did. -/
def ripemdBlocksUptoRow : OpenClaim := { program := "ytmanmhalbfbdmaadoor", sum := "86faae4727764bd07930654a2e6595e3ff7b9275211dc6dde5380ec4389ef91e", func := "bailiwick/bailiwicklaw05.RipemdBlocks", spec := "ripemdBlocks", named := ["bailiwick/ripemd.first", "bailiwick/ripemd.second", "bailiwick/ripemd.turns", "bailiwick/ripemd.rho", "bailiwick/ripemd.begun"], apart := false, laid := [("bailiwick/ripemd.rho", laid_bailiwick_ripemd_rho), ("bailiwick/ripemd.turns", laid_bailiwick_ripemd_turns), ("bailiwick/ripemd.first", laid_bailiwick_ripemd_first), ("bailiwick/ripemd.second", laid_bailiwick_ripemd_second), ("bailiwick/ripemd.begun", laid_bailiwick_ripemd_begun)], narrowed := true }
def RipemdBlocksUptoSaid : Prop := ripemdBlocksUptoRow.holds Tryd.pinned (OpenSpec.upto ripemdBlocksSpec)

/-- 'bailiwicklaw05.RipemdChains', WHERE WHAT IT READS IS OF BULK AT MOST 1048576: true; the input reads as it did. -/
def ripemdChainsUptoRow : OpenClaim := { program := "ytmanmhalbfbdmaadoor", sum := "86faae4727764bd07930654a2e6595e3ff7b9275211dc6dde5380ec4389ef91e", func := "bailiwick/bailiwicklaw05.RipemdChains", spec := "ripemdChains", named := ["bailiwick/ripemd.first", "bailiwick/ripemd.second", "bailiwick/ripemd.turns", "bailiwick/ripemd.rho", "bailiwick/ripemd.begun"], apart := false, laid := [("bailiwick/ripemd.rho", laid_bailiwick_ripemd_rho), ("bailiwick/ripemd.turns", laid_bailiwick_ripemd_turns), ("bailiwick/ripemd.first", laid_bailiwick_ripemd_first), ("bailiwick/ripemd.second", laid_bailiwick_ripemd_second), ("bailiwick/ripemd.begun", laid_bailiwick_ripemd_begun)], narrowed := true }
def RipemdChainsUptoSaid : Prop := ripemdChainsUptoRow.holds Tryd.pinned (OpenSpec.upto ripemdChainsSpec)

end Rows
end Go.Proofs.YtmanmhalbfbdmaaDoor
