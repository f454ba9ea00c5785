/-
  NARROWER THAN 'FOR EVERY INPUT', by the rows' own cells (each row's printed sentence says how): BlakeMixes: laid · BlakeHangs: laid · BlakeCalls: laid.
  DERIVED. THE GIVEN ROWS OF THIS SEAT. 3 by the template 'for every input the law returns true; each argument reads behind the call as it read before'; 0 by the template 'total and deterministic' (their statements: YthhabhaljdcgpaaDoorTotals.lean).
  GIVEN WITH THE SEED: the statements are not yours to turn. If you find one false, say at which input.
  Laid BY PROGRAM, IN A SANDBOX (cutbox-rows.mjs): the forced cells as the released guide's own fill.sh prints them over the translation 7002758dde63a0d2… (all of the seat's roots in one cut). By AI agents, Wed Nov 11 2026. No macro, syntax, notation, axiom, sorry.
-/
import Derived.Test.YthhabhaljdcgpaaDoorChecked
import GoSem.Claim
import GoSem.ClaimJoined
import GoSem.ClaimMapViews
import Derived.JoinedTies
import Derived.KernelRfl
namespace Go.Proofs.YthhabhaljdcgpaaDoor
/- THE CELL 'sum', in the pinned program and in every row, IS THE sha256 OF THE DUMP (.gsa) THAT YthhabhaljdcgpaaDoorProg.lean LOADS. Nothing in Lean hashes anything: it is a label: what it is worth is what the hold of that sum in a sandbox is worth. -/
noncomputable def Tryd.pinned : Pinned := { name := "ythhabhaljdcgpaadoor", sum := "7002758dde63a0d2c4f9bdefe080333c22b0f2d8293a5b8503dd4f9d5c7c1195", checked := Tryd.checked }
namespace Rows
def none {H : Type} : Left H := { results := [], args := [] }

/- WHAT THE LISTED PACKAGE-LEVEL VARIABLES READ AS WHEN THE CALL BEGINS. Each datum BY PROGRAM (the guide's laid-datum.mjs) off the statement by which the dump's own 'gosem.cut.vars' lays the variable. In a bare row this is a premise. The card (YthhabhaljdcgpaaDoorCards.lean) ties it to the program's text. -/
def laid_bailiwick_blake_begun {H : Type} : DataW H := .agg [.lit (.int .u64 7640891576956012808), .lit (.int .u64 13503953896175478587), .lit (.int .u64 4354685564936845355), .lit (.int .u64 11912009170470909681), .lit (.int .u64 5840696475078001361), .lit (.int .u64 11170449401992604703), .lit (.int .u64 2270897969802886507), .lit (.int .u64 6620516959819538809)]
def laid_bailiwick_blake_rows {H : Type} : DataW H := .agg [.agg [.lit (.int .i64 0), .lit (.int .i64 1), .lit (.int .i64 2), .lit (.int .i64 3), .lit (.int .i64 4), .lit (.int .i64 5), .lit (.int .i64 6), .lit (.int .i64 7), .lit (.int .i64 8), .lit (.int .i64 9), .lit (.int .i64 10), .lit (.int .i64 11), .lit (.int .i64 12), .lit (.int .i64 13), .lit (.int .i64 14), .lit (.int .i64 15)], .agg [.lit (.int .i64 14), .lit (.int .i64 10), .lit (.int .i64 4), .lit (.int .i64 8), .lit (.int .i64 9), .lit (.int .i64 15), .lit (.int .i64 13), .lit (.int .i64 6), .lit (.int .i64 1), .lit (.int .i64 12), .lit (.int .i64 0), .lit (.int .i64 2), .lit (.int .i64 11), .lit (.int .i64 7), .lit (.int .i64 5), .lit (.int .i64 3)], .agg [.lit (.int .i64 11), .lit (.int .i64 8), .lit (.int .i64 12), .lit (.int .i64 0), .lit (.int .i64 5), .lit (.int .i64 2), .lit (.int .i64 15), .lit (.int .i64 13), .lit (.int .i64 10), .lit (.int .i64 14), .lit (.int .i64 3), .lit (.int .i64 6), .lit (.int .i64 7), .lit (.int .i64 1), .lit (.int .i64 9), .lit (.int .i64 4)], .agg [.lit (.int .i64 7), .lit (.int .i64 9), .lit (.int .i64 3), .lit (.int .i64 1), .lit (.int .i64 13), .lit (.int .i64 12), .lit (.int .i64 11), .lit (.int .i64 14), .lit (.int .i64 2), .lit (.int .i64 6), .lit (.int .i64 5), .lit (.int .i64 10), .lit (.int .i64 4), .lit (.int .i64 0), .lit (.int .i64 15), .lit (.int .i64 8)], .agg [.lit (.int .i64 9), .lit (.int .i64 0), .lit (.int .i64 5), .lit (.int .i64 7), .lit (.int .i64 2), .lit (.int .i64 4), .lit (.int .i64 10), .lit (.int .i64 15), .lit (.int .i64 14), .lit (.int .i64 1), .lit (.int .i64 11), .lit (.int .i64 12), .lit (.int .i64 6), .lit (.int .i64 8), .lit (.int .i64 3), .lit (.int .i64 13)], .agg [.lit (.int .i64 2), .lit (.int .i64 12), .lit (.int .i64 6), .lit (.int .i64 10), .lit (.int .i64 0), .lit (.int .i64 11), .lit (.int .i64 8), .lit (.int .i64 3), .lit (.int .i64 4), .lit (.int .i64 13), .lit (.int .i64 7), .lit (.int .i64 5), .lit (.int .i64 15), .lit (.int .i64 14), .lit (.int .i64 1), .lit (.int .i64 9)], .agg [.lit (.int .i64 12), .lit (.int .i64 5), .lit (.int .i64 1), .lit (.int .i64 15), .lit (.int .i64 14), .lit (.int .i64 13), .lit (.int .i64 4), .lit (.int .i64 10), .lit (.int .i64 0), .lit (.int .i64 7), .lit (.int .i64 6), .lit (.int .i64 3), .lit (.int .i64 9), .lit (.int .i64 2), .lit (.int .i64 8), .lit (.int .i64 11)], .agg [.lit (.int .i64 13), .lit (.int .i64 11), .lit (.int .i64 7), .lit (.int .i64 14), .lit (.int .i64 12), .lit (.int .i64 1), .lit (.int .i64 3), .lit (.int .i64 9), .lit (.int .i64 5), .lit (.int .i64 0), .lit (.int .i64 15), .lit (.int .i64 4), .lit (.int .i64 8), .lit (.int .i64 6), .lit (.int .i64 2), .lit (.int .i64 10)], .agg [.lit (.int .i64 6), .lit (.int .i64 15), .lit (.int .i64 14), .lit (.int .i64 9), .lit (.int .i64 11), .lit (.int .i64 3), .lit (.int .i64 0), .lit (.int .i64 8), .lit (.int .i64 12), .lit (.int .i64 2), .lit (.int .i64 13), .lit (.int .i64 7), .lit (.int .i64 1), .lit (.int .i64 4), .lit (.int .i64 10), .lit (.int .i64 5)], .agg [.lit (.int .i64 10), .lit (.int .i64 2), .lit (.int .i64 8), .lit (.int .i64 4), .lit (.int .i64 7), .lit (.int .i64 6), .lit (.int .i64 1), .lit (.int .i64 5), .lit (.int .i64 15), .lit (.int .i64 11), .lit (.int .i64 9), .lit (.int .i64 14), .lit (.int .i64 3), .lit (.int .i64 12), .lit (.int .i64 13), .lit (.int .i64 0)]]
def laid_bailiwick_blake_lines {H : Type} : DataW H := .agg [.agg [.lit (.int .i64 0), .lit (.int .i64 4), .lit (.int .i64 8), .lit (.int .i64 12)], .agg [.lit (.int .i64 1), .lit (.int .i64 5), .lit (.int .i64 9), .lit (.int .i64 13)], .agg [.lit (.int .i64 2), .lit (.int .i64 6), .lit (.int .i64 10), .lit (.int .i64 14)], .agg [.lit (.int .i64 3), .lit (.int .i64 7), .lit (.int .i64 11), .lit (.int .i64 15)], .agg [.lit (.int .i64 0), .lit (.int .i64 5), .lit (.int .i64 10), .lit (.int .i64 15)], .agg [.lit (.int .i64 1), .lit (.int .i64 6), .lit (.int .i64 11), .lit (.int .i64 12)], .agg [.lit (.int .i64 2), .lit (.int .i64 7), .lit (.int .i64 8), .lit (.int .i64 13)], .agg [.lit (.int .i64 3), .lit (.int .i64 4), .lit (.int .i64 9), .lit (.int .i64 14)]]

/-- 'bailiwicklaw06.BlakeMixes': WHATEVER THE INPUT: true; the input reads as it did. -/
def blakeMixesSpec : ChangeSpec := { name := "blakeMixes", fn := fun _ => fun
  | [d] => { results := [.lit (.bool true)], args := [d] }
  | _ => none }
def blakeMixesRow : OpenClaim := { program := "ythhabhaljdcgpaadoor", sum := "7002758dde63a0d2c4f9bdefe080333c22b0f2d8293a5b8503dd4f9d5c7c1195", func := "bailiwick/bailiwicklaw06.BlakeMixes", spec := "blakeMixes", named := ["bailiwick/blake.begun", "bailiwick/blake.rows", "bailiwick/blake.lines"], apart := false, laid := [("bailiwick/blake.begun", laid_bailiwick_blake_begun), ("bailiwick/blake.rows", laid_bailiwick_blake_rows), ("bailiwick/blake.lines", laid_bailiwick_blake_lines)] }
def BlakeMixesSaid : Prop := blakeMixesRow.holds Tryd.pinned (OpenSpec.ofChange blakeMixesSpec)

/-- ITS FALSE NEIGHBOUR: 'it returns false'. Refute it at one input. -/
def blakeMixesWrong : ChangeSpec := { name := "blakeMixes", fn := fun _ => fun
  | [d] => { results := [.lit (.bool false)], args := [d] }
  | _ => none }
def BlakeMixesWrongFalsely : Prop := blakeMixesRow.holds Tryd.pinned (OpenSpec.ofChange blakeMixesWrong)

/-- 'bailiwicklaw06.BlakeHangs': WHATEVER THE INPUT: true; the input reads as it did. -/
def blakeHangsSpec : ChangeSpec := { name := "blakeHangs", fn := fun _ => fun
  | [d1, d2, d3] => { results := [.lit (.bool true)], args := [d1, d2, d3] }
  | _ => none }
def blakeHangsRow : OpenClaim := { program := "ythhabhaljdcgpaadoor", sum := "7002758dde63a0d2c4f9bdefe080333c22b0f2d8293a5b8503dd4f9d5c7c1195", func := "bailiwick/bailiwicklaw06.BlakeHangs", spec := "blakeHangs", named := ["bailiwick/blake.begun", "bailiwick/blake.rows", "bailiwick/blake.lines"], apart := false, laid := [("bailiwick/blake.begun", laid_bailiwick_blake_begun), ("bailiwick/blake.rows", laid_bailiwick_blake_rows), ("bailiwick/blake.lines", laid_bailiwick_blake_lines)] }
def BlakeHangsSaid : Prop := blakeHangsRow.holds Tryd.pinned (OpenSpec.ofChange blakeHangsSpec)

/-- ITS FALSE NEIGHBOUR: 'it returns false'. Refute it at one input. -/
def blakeHangsWrong : ChangeSpec := { name := "blakeHangs", fn := fun _ => fun
  | [d1, d2, d3] => { results := [.lit (.bool false)], args := [d1, d2, d3] }
  | _ => none }
def BlakeHangsWrongFalsely : Prop := blakeHangsRow.holds Tryd.pinned (OpenSpec.ofChange blakeHangsWrong)

/-- 'bailiwicklaw06.BlakeCalls': WHATEVER THE INPUT: true; the input reads as it did. -/
def blakeCallsSpec : ChangeSpec := { name := "blakeCalls", fn := fun _ => fun
  | [d] => { results := [.lit (.bool true)], args := [d] }
  | _ => none }
def blakeCallsRow : OpenClaim := { program := "ythhabhaljdcgpaadoor", sum := "7002758dde63a0d2c4f9bdefe080333c22b0f2d8293a5b8503dd4f9d5c7c1195", func := "bailiwick/bailiwicklaw06.BlakeCalls", spec := "blakeCalls", named := ["bailiwick/blake.begun", "bailiwick/blake.rows", "bailiwick/blake.lines"], apart := false, laid := [("bailiwick/blake.begun", laid_bailiwick_blake_begun), ("bailiwick/blake.rows", laid_bailiwick_blake_rows), ("bailiwick/blake.lines", laid_bailiwick_blake_lines)] }
def BlakeCallsSaid : Prop := blakeCallsRow.holds Tryd.pinned (OpenSpec.ofChange blakeCallsSpec)

/-- ITS FALSE NEIGHBOUR: 'it returns false'. Refute it at one input. -/
def blakeCallsWrong : ChangeSpec := { name := "blakeCalls", fn := fun _ => fun
  | [d] => { results := [.lit (.bool false)], args := [d] }
  | _ => none }
def BlakeCallsWrongFalsely : Prop := blakeCallsRow.holds Tryd.pinned (OpenSpec.ofChange blakeCallsWrong)

/- THE SECOND FORM. 'bulk': how many values and letters a reading holds, each counted each time it is reached (what is shared counts as often as it is met; a slice's spare places count too). A statement '..UptoSaid' is the law's where the arguments, and the package variables that the reading takes, are together of bulk at most 1048576: NARROWER than '..Said'. Prove '..Said' where nothing that the law and all that it calls make is longer than what came in: it says more and counts as full. Else prove '..UptoSaid'. A law counts once. -/
mutual
def uptoBulk {H : Type} : DataW H → Nat
  | .lit (.string bytes) => bytes.length + 1
  | .lit _ => 1
  | .nil => 1
  | .ptr d => uptoBulk d + 1
  | .slice elems spare => uptoBulkAll elems + uptoBulkAll spare + 1
  | .agg parts => uptoBulkAll parts + 1
  | .iface _ d => uptoBulk d + 1
  | .map entries => uptoBulkEntries entries + 1
  | .held _ => 1
def uptoBulkAll {H : Type} : List (DataW H) → Nat
  | [] => 0
  | d :: r => uptoBulk d + uptoBulkAll r
def uptoBulkEntries {H : Type} : List (Lit × DataW H) → Nat
  | [] => 0
  | x :: r => uptoBulkEntry x + uptoBulkEntries r
def uptoBulkEntry {H : Type} : Lit × DataW H → Nat
  | (.string bytes, d) => bytes.length + uptoBulk d + 1
  | (_, d) => uptoBulk d + 1
 end
def uptoSmall : (H : Type) → List (DataW H) → Bool := fun _ ds => decide (uptoBulkAll ds ≤ 1048576)
def OpenSpec.upto (s : _root_.Go.ChangeSpec) : _root_.Go.OpenSpec := { _root_.Go.OpenSpec.ofChange s with cond := some uptoSmall }

/-- 'bailiwicklaw06.BlakeMixes', WHERE WHAT IT READS IS OF BULK AT MOST 1048576: true; the input reads as it did. -/
def blakeMixesUptoRow : OpenClaim := { program := "ythhabhaljdcgpaadoor", sum := "7002758dde63a0d2c4f9bdefe080333c22b0f2d8293a5b8503dd4f9d5c7c1195", func := "bailiwick/bailiwicklaw06.BlakeMixes", spec := "blakeMixes", named := ["bailiwick/blake.begun", "bailiwick/blake.rows", "bailiwick/blake.lines"], apart := false, laid := [("bailiwick/blake.begun", laid_bailiwick_blake_begun), ("bailiwick/blake.rows", laid_bailiwick_blake_rows), ("bailiwick/blake.lines", laid_bailiwick_blake_lines)], narrowed := true }
def BlakeMixesUptoSaid : Prop := blakeMixesUptoRow.holds Tryd.pinned (OpenSpec.upto blakeMixesSpec)

/-- 'bailiwicklaw06.BlakeHangs', WHERE WHAT IT READS IS OF BULK AT MOST 1048576: true; the input reads as it did. -/
def blakeHangsUptoRow : OpenClaim := { program := "ythhabhaljdcgpaadoor", sum := "7002758dde63a0d2c4f9bdefe080333c22b0f2d8293a5b8503dd4f9d5c7c1195", func := "bailiwick/bailiwicklaw06.BlakeHangs", spec := "blakeHangs", named := ["bailiwick/blake.begun", "bailiwick/blake.rows", "bailiwick/blake.lines"], apart := false, laid := [("bailiwick/blake.begun", laid_bailiwick_blake_begun), ("bailiwick/blake.rows", laid_bailiwick_blake_rows), ("bailiwick/blake.lines", laid_bailiwick_blake_lines)], narrowed := true }
def BlakeHangsUptoSaid : Prop := blakeHangsUptoRow.holds Tryd.pinned (OpenSpec.upto blakeHangsSpec)

/-- 'bailiwicklaw06.BlakeCalls', WHERE WHAT IT READS IS OF BULK AT MOST 1048576: true; the input reads as it did. -/
def blakeCallsUptoRow : OpenClaim := { program := "ythhabhaljdcgpaadoor", sum := "7002758dde63a0d2c4f9bdefe080333c22b0f2d8293a5b8503dd4f9d5c7c1195", func := "bailiwick/bailiwicklaw06.BlakeCalls", spec := "blakeCalls", named := ["bailiwick/blake.begun", "bailiwick/blake.rows", "bailiwick/blake.lines"], apart := false, laid := [("bailiwick/blake.begun", laid_bailiwick_blake_begun), ("bailiwick/blake.rows", laid_bailiwick_blake_rows), ("bailiwick/blake.lines", laid_bailiwick_blake_lines)], narrowed := true }
def BlakeCallsUptoSaid : Prop := blakeCallsUptoRow.holds Tryd.pinned (OpenSpec.upto blakeCallsSpec)

end Rows
end Go.Proofs.YthhabhaljdcgpaaDoor
