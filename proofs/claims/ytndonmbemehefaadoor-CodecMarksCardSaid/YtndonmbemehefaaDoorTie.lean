/-
  DERIVED. GIVEN WITH THE SEED: THE PROGRAM's TIES (one call each: nine closed facts by the kernel) AND EACH ROW's TIE, after the 31st guide's Derived/Test/Toyas{Tie, Card}.lean. No idea stands in it: it is a product of the set-up. Laid BY PROGRAM, IN A SANDBOX (cutbox-door.mjs). By AI agents, Wed Nov 11 2026. No macro, syntax, notation, axiom, sorry.
-/
import Derived.Test.YtndonmbemehefaaDoorRows
import Derived.LaidByTextLater
import Derived.SevenTiedAt
import Derived.LaidSub
import Derived.LaidOnce
namespace Go.Proofs.YtndonmbemehefaaDoor
open Go
set_option maxRecDepth 100000
theorem seatTie1 : Tryd.prog.laidByTextLater [("cresset/fp.modulus", Rows.laid_cresset_fp_modulus), ("cresset/fp.square", Rows.laid_cresset_fp_square), ("cresset/fr.modulus", Rows.laid_cresset_fr_modulus), ("cresset/fr.square", Rows.laid_cresset_fr_square)] [.data, .data, .data, .data] true :=
  Program.laidByTextLater_by_one 29 8 7 (by kernel_rfl) (by kernel_rfl) (by kernel_rfl) (by kernel_rfl) (by kernel_rfl) (by kernel_rfl) (fun _ _ => by kernel_rfl)
theorem noOwnUnsafe : Tryd.pinned.checked.prog.headLifts.contains "ownunsafe" = false := by kernel_rfl
theorem tie : Tryd.prog.laidByTextLater [("cresset/fp.modulus", Rows.laid_cresset_fp_modulus), ("cresset/fp.square", Rows.laid_cresset_fp_square)] [.data, .data] true :=
  Program.laidByTextLater.sub seatTie1 ["cresset/fp.modulus", "cresset/fp.square"] (by kernel_rfl) (by kernel_rfl)
theorem codecReads1_row_tie : Rows.codecReads1Row.laidByTextAt .later Tryd.pinned [.data, .data] true :=
  OpenClaim.laidByTextAt_later rfl rfl tie noOwnUnsafe
theorem codecReads2_row_tie : Rows.codecReads2Row.laidByTextAt .later Tryd.pinned [.data, .data] true :=
  OpenClaim.laidByTextAt_later rfl rfl tie noOwnUnsafe
theorem codecOneForm_row_tie : Rows.codecOneFormRow.laidByTextAt .later Tryd.pinned [.data, .data] true :=
  OpenClaim.laidByTextAt_later rfl rfl tie noOwnUnsafe
theorem dealSetups_row_tie : Rows.dealSetupsRow.laidByTextAt .later Tryd.pinned [.data, .data] true :=
  OpenClaim.laidByTextAt_later rfl rfl tie noOwnUnsafe
theorem tie2 : Tryd.prog.laidByTextLater [("cresset/fp.modulus", Rows.laid_cresset_fp_modulus), ("cresset/fp.square", Rows.laid_cresset_fp_square), ("cresset/fr.modulus", Rows.laid_cresset_fr_modulus), ("cresset/fr.square", Rows.laid_cresset_fr_square)] [.data, .data, .data, .data] true :=
  Program.laidByTextLater.sub seatTie1 ["cresset/fp.modulus", "cresset/fp.square", "cresset/fr.modulus", "cresset/fr.square"] (by kernel_rfl) (by kernel_rfl)
theorem codecBack_row_tie : Rows.codecBackRow.laidByTextAt .later Tryd.pinned [.data, .data, .data, .data] true :=
  OpenClaim.laidByTextAt_later rfl rfl tie2 noOwnUnsafe
theorem codecMarks_row_tie : Rows.codecMarksRow.laidByTextAt .later Tryd.pinned [.data, .data, .data, .data] true :=
  OpenClaim.laidByTextAt_later rfl rfl tie2 noOwnUnsafe
theorem codecReads1Upto_row_tie : Rows.codecReads1UptoRow.laidByTextAt .later Tryd.pinned [.data, .data] true :=
  OpenClaim.laidByTextAt_later rfl rfl tie noOwnUnsafe
theorem codecReads2Upto_row_tie : Rows.codecReads2UptoRow.laidByTextAt .later Tryd.pinned [.data, .data] true :=
  OpenClaim.laidByTextAt_later rfl rfl tie noOwnUnsafe
theorem codecOneFormUpto_row_tie : Rows.codecOneFormUptoRow.laidByTextAt .later Tryd.pinned [.data, .data] true :=
  OpenClaim.laidByTextAt_later rfl rfl tie noOwnUnsafe
theorem codecBackUpto_row_tie : Rows.codecBackUptoRow.laidByTextAt .later Tryd.pinned [.data, .data, .data, .data] true :=
  OpenClaim.laidByTextAt_later rfl rfl tie2 noOwnUnsafe
theorem codecMarksUpto_row_tie : Rows.codecMarksUptoRow.laidByTextAt .later Tryd.pinned [.data, .data, .data, .data] true :=
  OpenClaim.laidByTextAt_later rfl rfl tie2 noOwnUnsafe
theorem dealSetupsUpto_row_tie : Rows.dealSetupsUptoRow.laidByTextAt .later Tryd.pinned [.data, .data] true :=
  OpenClaim.laidByTextAt_later rfl rfl tie noOwnUnsafe
end Go.Proofs.YtndonmbemehefaaDoor
