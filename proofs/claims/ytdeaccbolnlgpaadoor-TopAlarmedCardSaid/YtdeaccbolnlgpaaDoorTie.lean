/-
  DERIVED. GIVEN WITH THE SEED: THE PROGRAM's TIES (one call each: nine closed facts by the kernel) AND EACH ROW's TIE, after the 31st guide's Derived/Test/Toyas{Tie, Card}.lean. No idea stands in it: it is a product of the set-up. Laid BY PROGRAM, IN A SANDBOX (cutbox-door.mjs). By AI agents, Wed Nov 11 2026. No macro, syntax, notation, axiom, sorry.
-/
import Derived.Test.YtdeaccbolnlgpaaDoorRows
import Derived.LaidByTextLater
import Derived.SevenTiedAt
import Derived.LaidSub
import Derived.LaidOnce
namespace Go.Proofs.YtdeaccbolnlgpaaDoor
open Go
set_option maxRecDepth 100000
theorem seatTie1 : Tryd.prog.laidByTextLater [("cottonpad/exits.best", Rows.laid_cottonpad_exits_best), ("cottonpad/exits.worst", Rows.laid_cottonpad_exits_worst), ("cottonpad/exits.nowhere", Rows.laid_cottonpad_exits_nowhere)] [.funcs, .funcs, .data] true :=
  Program.laidByTextLater_by_one 24 8 3 (by kernel_rfl) (by kernel_rfl) (by kernel_rfl) (by kernel_rfl) (by kernel_rfl) (by kernel_rfl) (fun _ _ => by kernel_rfl)
theorem noOwnUnsafe : Tryd.pinned.checked.prog.headLifts.contains "ownunsafe" = false := by kernel_rfl
theorem tie : Tryd.prog.laidByTextLater [("cottonpad/exits.best", Rows.laid_cottonpad_exits_best), ("cottonpad/exits.worst", Rows.laid_cottonpad_exits_worst)] [.funcs, .funcs] true :=
  Program.laidByTextLater.sub seatTie1 ["cottonpad/exits.best", "cottonpad/exits.worst"] (by kernel_rfl) (by kernel_rfl)
theorem exitsLeaves_row_tie : Rows.exitsLeavesRow.laidByTextAt .later Tryd.pinned [.funcs, .funcs] true :=
  OpenClaim.laidByTextAt_later rfl rfl tie noOwnUnsafe
theorem tie2 : Tryd.prog.laidByTextLater [("cottonpad/exits.best", Rows.laid_cottonpad_exits_best), ("cottonpad/exits.worst", Rows.laid_cottonpad_exits_worst), ("cottonpad/exits.nowhere", Rows.laid_cottonpad_exits_nowhere)] [.funcs, .funcs, .data] true :=
  Program.laidByTextLater.sub seatTie1 ["cottonpad/exits.best", "cottonpad/exits.worst", "cottonpad/exits.nowhere"] (by kernel_rfl) (by kernel_rfl)
theorem exitsSafes_row_tie : Rows.exitsSafesRow.laidByTextAt .later Tryd.pinned [.funcs, .funcs, .data] true :=
  OpenClaim.laidByTextAt_later rfl rfl tie2 noOwnUnsafe
theorem exitsExamples_row_tie : Rows.exitsExamplesRow.laidByTextAt .later Tryd.pinned [.funcs, .funcs, .data] true :=
  OpenClaim.laidByTextAt_later rfl rfl tie2 noOwnUnsafe
theorem exitsTrue_row_tie : Rows.exitsTrueRow.laidByTextAt .later Tryd.pinned [.funcs, .funcs, .data] true :=
  OpenClaim.laidByTextAt_later rfl rfl tie2 noOwnUnsafe
theorem topSmoky_row_tie : Rows.topSmokyRow.laidByTextAt .later Tryd.pinned [.funcs, .funcs, .data] true :=
  OpenClaim.laidByTextAt_later rfl rfl tie2 noOwnUnsafe
theorem exitsEnds_row_tie : Rows.exitsEndsRow.laidByTextAt .later Tryd.pinned [.funcs, .funcs, .data] true :=
  OpenClaim.laidByTextAt_later rfl rfl tie2 noOwnUnsafe
theorem topAlarmed_row_tie : Rows.topAlarmedRow.laidByTextAt .later Tryd.pinned [.funcs, .funcs, .data] true :=
  OpenClaim.laidByTextAt_later rfl rfl tie2 noOwnUnsafe
theorem exitsShown_row_tie : Rows.exitsShownRow.laidByTextAt .later Tryd.pinned [.funcs, .funcs, .data] true :=
  OpenClaim.laidByTextAt_later rfl rfl tie2 noOwnUnsafe
theorem exitsLost_row_tie : Rows.exitsLostRow.laidByTextAt .later Tryd.pinned [.funcs, .funcs, .data] true :=
  OpenClaim.laidByTextAt_later rfl rfl tie2 noOwnUnsafe
theorem exitsLater_row_tie : Rows.exitsLaterRow.laidByTextAt .later Tryd.pinned [.funcs, .funcs, .data] true :=
  OpenClaim.laidByTextAt_later rfl rfl tie2 noOwnUnsafe
theorem exitsSlower_row_tie : Rows.exitsSlowerRow.laidByTextAt .later Tryd.pinned [.funcs, .funcs, .data] true :=
  OpenClaim.laidByTextAt_later rfl rfl tie2 noOwnUnsafe
theorem exitsMore_row_tie : Rows.exitsMoreRow.laidByTextAt .later Tryd.pinned [.funcs, .funcs, .data] true :=
  OpenClaim.laidByTextAt_later rfl rfl tie2 noOwnUnsafe
theorem exitsLeavesUpto_row_tie : Rows.exitsLeavesUptoRow.laidByTextAt .later Tryd.pinned [.funcs, .funcs] true :=
  OpenClaim.laidByTextAt_later rfl rfl tie noOwnUnsafe
theorem exitsSafesUpto_row_tie : Rows.exitsSafesUptoRow.laidByTextAt .later Tryd.pinned [.funcs, .funcs, .data] true :=
  OpenClaim.laidByTextAt_later rfl rfl tie2 noOwnUnsafe
theorem exitsExamplesUpto_row_tie : Rows.exitsExamplesUptoRow.laidByTextAt .later Tryd.pinned [.funcs, .funcs, .data] true :=
  OpenClaim.laidByTextAt_later rfl rfl tie2 noOwnUnsafe
theorem exitsTrueUpto_row_tie : Rows.exitsTrueUptoRow.laidByTextAt .later Tryd.pinned [.funcs, .funcs, .data] true :=
  OpenClaim.laidByTextAt_later rfl rfl tie2 noOwnUnsafe
theorem topSmokyUpto_row_tie : Rows.topSmokyUptoRow.laidByTextAt .later Tryd.pinned [.funcs, .funcs, .data] true :=
  OpenClaim.laidByTextAt_later rfl rfl tie2 noOwnUnsafe
theorem exitsEndsUpto_row_tie : Rows.exitsEndsUptoRow.laidByTextAt .later Tryd.pinned [.funcs, .funcs, .data] true :=
  OpenClaim.laidByTextAt_later rfl rfl tie2 noOwnUnsafe
theorem topAlarmedUpto_row_tie : Rows.topAlarmedUptoRow.laidByTextAt .later Tryd.pinned [.funcs, .funcs, .data] true :=
  OpenClaim.laidByTextAt_later rfl rfl tie2 noOwnUnsafe
theorem exitsShownUpto_row_tie : Rows.exitsShownUptoRow.laidByTextAt .later Tryd.pinned [.funcs, .funcs, .data] true :=
  OpenClaim.laidByTextAt_later rfl rfl tie2 noOwnUnsafe
theorem exitsLostUpto_row_tie : Rows.exitsLostUptoRow.laidByTextAt .later Tryd.pinned [.funcs, .funcs, .data] true :=
  OpenClaim.laidByTextAt_later rfl rfl tie2 noOwnUnsafe
theorem exitsLaterUpto_row_tie : Rows.exitsLaterUptoRow.laidByTextAt .later Tryd.pinned [.funcs, .funcs, .data] true :=
  OpenClaim.laidByTextAt_later rfl rfl tie2 noOwnUnsafe
theorem exitsSlowerUpto_row_tie : Rows.exitsSlowerUptoRow.laidByTextAt .later Tryd.pinned [.funcs, .funcs, .data] true :=
  OpenClaim.laidByTextAt_later rfl rfl tie2 noOwnUnsafe
theorem exitsMoreUpto_row_tie : Rows.exitsMoreUptoRow.laidByTextAt .later Tryd.pinned [.funcs, .funcs, .data] true :=
  OpenClaim.laidByTextAt_later rfl rfl tie2 noOwnUnsafe
end Go.Proofs.YtdeaccbolnlgpaaDoor
