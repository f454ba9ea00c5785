/-
  DERIVED. GIVEN WITH THE SEED: THE PROGRAM's TIES (one call each: nine closed facts by the kernel) AND EACH ROW's TIE, after the 31st guide's Derived/Test/Toyas{Tie, Card}.lean. No idea stands in it: it is a product of the set-up. Laid BY PROGRAM, IN A SANDBOX (cutbox-door.mjs). By AI agents, Wed Nov 11 2026. No macro, syntax, notation, axiom, sorry.
-/
import Derived.Test.YtmanmhalbfbdmaaDoorRows
import Derived.LaidByTextLater
import Derived.SevenTiedAt
import Derived.LaidSub
import Derived.LaidOnce
namespace Go.Proofs.YtmanmhalbfbdmaaDoor
open Go
set_option maxRecDepth 100000
theorem seatTie1 : Tryd.prog.laidByTextLater [("bailiwick/ripemd.rho", Rows.laid_bailiwick_ripemd_rho), ("bailiwick/ripemd.turns", Rows.laid_bailiwick_ripemd_turns), ("bailiwick/ripemd.first", Rows.laid_bailiwick_ripemd_first), ("bailiwick/ripemd.second", Rows.laid_bailiwick_ripemd_second), ("bailiwick/ripemd.begun", Rows.laid_bailiwick_ripemd_begun)] [.data, .data, .data, .data, .data] true :=
  Program.laidByTextLater_by_one 39 8 81 (by kernel_rfl) (by kernel_rfl) (by kernel_rfl) (by kernel_rfl) (by kernel_rfl) (by kernel_rfl) (fun _ _ => by kernel_rfl)
theorem noOwnUnsafe : Tryd.pinned.checked.prog.headLifts.contains "ownunsafe" = false := by kernel_rfl
theorem tie : Tryd.prog.laidByTextLater [("bailiwick/ripemd.rho", Rows.laid_bailiwick_ripemd_rho), ("bailiwick/ripemd.turns", Rows.laid_bailiwick_ripemd_turns), ("bailiwick/ripemd.first", Rows.laid_bailiwick_ripemd_first), ("bailiwick/ripemd.second", Rows.laid_bailiwick_ripemd_second), ("bailiwick/ripemd.begun", Rows.laid_bailiwick_ripemd_begun)] [.data, .data, .data, .data, .data] true :=
  Program.laidByTextLater.sub seatTie1 ["bailiwick/ripemd.rho", "bailiwick/ripemd.turns", "bailiwick/ripemd.first", "bailiwick/ripemd.second", "bailiwick/ripemd.begun"] (by kernel_rfl) (by kernel_rfl)
theorem ripemdSums_row_tie : Rows.ripemdSumsRow.laidByTextAt .later Tryd.pinned [.data, .data, .data, .data, .data] true :=
  OpenClaim.laidByTextAt_later rfl rfl tie noOwnUnsafe
theorem ripemdBlocks_row_tie : Rows.ripemdBlocksRow.laidByTextAt .later Tryd.pinned [.data, .data, .data, .data, .data] true :=
  OpenClaim.laidByTextAt_later rfl rfl tie noOwnUnsafe
theorem ripemdChains_row_tie : Rows.ripemdChainsRow.laidByTextAt .later Tryd.pinned [.data, .data, .data, .data, .data] true :=
  OpenClaim.laidByTextAt_later rfl rfl tie noOwnUnsafe
theorem ripemdSumsUpto_row_tie : Rows.ripemdSumsUptoRow.laidByTextAt .later Tryd.pinned [.data, .data, .data, .data, .data] true :=
  OpenClaim.laidByTextAt_later rfl rfl tie noOwnUnsafe
theorem ripemdBlocksUpto_row_tie : Rows.ripemdBlocksUptoRow.laidByTextAt .later Tryd.pinned [.data, .data, .data, .data, .data] true :=
  OpenClaim.laidByTextAt_later rfl rfl tie noOwnUnsafe
theorem ripemdChainsUpto_row_tie : Rows.ripemdChainsUptoRow.laidByTextAt .later Tryd.pinned [.data, .data, .data, .data, .data] true :=
  OpenClaim.laidByTextAt_later rfl rfl tie noOwnUnsafe
end Go.Proofs.YtmanmhalbfbdmaaDoor
