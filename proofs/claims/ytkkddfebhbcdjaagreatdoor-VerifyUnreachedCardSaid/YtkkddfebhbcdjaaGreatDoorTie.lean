/-
  DERIVED. GIVEN WITH THE SEED: THE PROGRAM's TIES (one call each: nine closed facts by the kernel) AND EACH ROW's TIE, after the 31st guide's Derived/Test/Toyas{Tie, Card}.lean. No idea stands in it: it is a product of the set-up. Laid BY PROGRAM, IN A SANDBOX (cutbox-door.mjs). By AI agents, Wed Nov 11 2026. No macro, syntax, notation, axiom, sorry.
-/
import Derived.Test.YtkkddfebhbcdjaaGreatDoorRows
import Derived.LaidByTextLater
import Derived.SevenTiedAt
import Derived.LaidSub
import Derived.LaidOnce
namespace Go.Proofs.YtkkddfebhbcdjaaGreatDoor
open Go
set_option maxRecDepth 100000
theorem seatTie1 : Tryz.prog.laidByTextLater [("smartcard/loadfile.object", Rows.laid_smartcard_loadfile_object), ("smartcard/kinds.object", Rows.laid_smartcard_kinds_object), ("smartcard/kinds.shareable", Rows.laid_smartcard_kinds_shareable), ("smartcard/kinds.whole", Rows.laid_smartcard_kinds_whole), ("smartcard/verify.integer", Rows.laid_smartcard_verify_integer), ("smartcard/verify.null", Rows.laid_smartcard_verify_null), ("smartcard/verify.unused", Rows.laid_smartcard_verify_unused), ("smartcard/verify.object", Rows.laid_smartcard_verify_object)] [.data, .data, .data, .data, .data, .data, .data, .data] true :=
  Program.laidByTextLater_by_one 51 8 4 (by kernel_rfl) (by kernel_rfl) (by kernel_rfl) (by kernel_rfl) (by kernel_rfl) (by kernel_rfl) (fun _ _ => by kernel_rfl)
theorem noOwnUnsafe : Tryz.pinned.checked.prog.headLifts.contains "ownunsafe" = false := by kernel_rfl
theorem tie : Tryz.prog.laidByTextLater [("smartcard/loadfile.object", Rows.laid_smartcard_loadfile_object), ("smartcard/kinds.object", Rows.laid_smartcard_kinds_object), ("smartcard/kinds.shareable", Rows.laid_smartcard_kinds_shareable), ("smartcard/kinds.whole", Rows.laid_smartcard_kinds_whole), ("smartcard/verify.integer", Rows.laid_smartcard_verify_integer), ("smartcard/verify.null", Rows.laid_smartcard_verify_null), ("smartcard/verify.unused", Rows.laid_smartcard_verify_unused), ("smartcard/verify.object", Rows.laid_smartcard_verify_object)] [.data, .data, .data, .data, .data, .data, .data, .data] true :=
  Program.laidByTextLater.sub seatTie1 ["smartcard/loadfile.object", "smartcard/kinds.object", "smartcard/kinds.shareable", "smartcard/kinds.whole", "smartcard/verify.integer", "smartcard/verify.null", "smartcard/verify.unused", "smartcard/verify.object"] (by kernel_rfl) (by kernel_rfl)
theorem verifyMethods_row_tie : Rows.verifyMethodsRow.laidByTextAt .later Tryz.pinned [.data, .data, .data, .data, .data, .data, .data, .data] true :=
  OpenClaim.laidByTextAt_later rfl rfl tie noOwnUnsafe
theorem verifyTypes_row_tie : Rows.verifyTypesRow.laidByTextAt .later Tryz.pinned [.data, .data, .data, .data, .data, .data, .data, .data] true :=
  OpenClaim.laidByTextAt_later rfl rfl tie noOwnUnsafe
theorem verifySound_row_tie : Rows.verifySoundRow.laidByTextAt .later Tryz.pinned [.data, .data, .data, .data, .data, .data, .data, .data] true :=
  OpenClaim.laidByTextAt_later rfl rfl tie noOwnUnsafe
theorem verifyUnreached_row_tie : Rows.verifyUnreachedRow.laidByTextAt .later Tryz.pinned [.data, .data, .data, .data, .data, .data, .data, .data] true :=
  OpenClaim.laidByTextAt_later rfl rfl tie noOwnUnsafe
theorem verifyApart_row_tie : Rows.verifyApartRow.laidByTextAt .later Tryz.pinned [.data, .data, .data, .data, .data, .data, .data, .data] true :=
  OpenClaim.laidByTextAt_later rfl rfl tie noOwnUnsafe
theorem verifyPackages_row_tie : Rows.verifyPackagesRow.laidByTextAt .later Tryz.pinned [.data, .data, .data, .data, .data, .data, .data, .data] true :=
  OpenClaim.laidByTextAt_later rfl rfl tie noOwnUnsafe
theorem verifyMethodsUpto_row_tie : Rows.verifyMethodsUptoRow.laidByTextAt .later Tryz.pinned [.data, .data, .data, .data, .data, .data, .data, .data] true :=
  OpenClaim.laidByTextAt_later rfl rfl tie noOwnUnsafe
theorem verifyTypesUpto_row_tie : Rows.verifyTypesUptoRow.laidByTextAt .later Tryz.pinned [.data, .data, .data, .data, .data, .data, .data, .data] true :=
  OpenClaim.laidByTextAt_later rfl rfl tie noOwnUnsafe
theorem verifySoundUpto_row_tie : Rows.verifySoundUptoRow.laidByTextAt .later Tryz.pinned [.data, .data, .data, .data, .data, .data, .data, .data] true :=
  OpenClaim.laidByTextAt_later rfl rfl tie noOwnUnsafe
theorem verifyUnreachedUpto_row_tie : Rows.verifyUnreachedUptoRow.laidByTextAt .later Tryz.pinned [.data, .data, .data, .data, .data, .data, .data, .data] true :=
  OpenClaim.laidByTextAt_later rfl rfl tie noOwnUnsafe
theorem verifyApartUpto_row_tie : Rows.verifyApartUptoRow.laidByTextAt .later Tryz.pinned [.data, .data, .data, .data, .data, .data, .data, .data] true :=
  OpenClaim.laidByTextAt_later rfl rfl tie noOwnUnsafe
theorem verifyPackagesUpto_row_tie : Rows.verifyPackagesUptoRow.laidByTextAt .later Tryz.pinned [.data, .data, .data, .data, .data, .data, .data, .data] true :=
  OpenClaim.laidByTextAt_later rfl rfl tie noOwnUnsafe
end Go.Proofs.YtkkddfebhbcdjaaGreatDoor
