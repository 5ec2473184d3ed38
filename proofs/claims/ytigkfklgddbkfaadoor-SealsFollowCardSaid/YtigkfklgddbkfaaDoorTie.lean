/-
  DERIVED. GIVEN WITH THE SEED: THE PROGRAM's TIES (one call each: nine closed facts by the kernel) AND EACH ROW's TIE, after the 31st guide's Derived/Test/Toyas{Tie, Card}.lean. No idea stands in it: it is a product of the set-up. Laid BY PROGRAM, IN A SANDBOX (cutbox-door.mjs). By AI agents, Wed Nov 11 2026. No macro, syntax, notation, axiom, sorry.
-/
import Derived.Test.YtigkfklgddbkfaaDoorRows
import Derived.LaidByTextLater
import Derived.SevenTiedAt
import Derived.LaidSub
import Derived.LaidOnce
namespace Go.Proofs.YtigkfklgddbkfaaDoor
open Go
set_option maxRecDepth 100000
theorem seatTie1 : Tryd.prog.laidByTextLater [("sealingwax/sums.table", Rows.laid_sealingwax_sums_table), ("sealingwax/sealingwaxref02.k", Rows.laid_sealingwax_sealingwaxref02_k), ("sealingwax/sha.table", Rows.laid_sealingwax_sha_table), ("sealingwax/sha.begin", Rows.laid_sealingwax_sha_begin)] [.data, .data, .data, .data] true :=
  Program.laidByTextLater_by_one 29 8 65 (by kernel_rfl) (by kernel_rfl) (by kernel_rfl) (by kernel_rfl) (by kernel_rfl) (by kernel_rfl) (fun _ _ => by kernel_rfl)
theorem noOwnUnsafe : Tryd.pinned.checked.prog.headLifts.contains "ownunsafe" = false := by kernel_rfl
theorem tie : Tryd.prog.laidByTextLater [("sealingwax/sha.table", Rows.laid_sealingwax_sha_table), ("sealingwax/sha.begin", Rows.laid_sealingwax_sha_begin)] [.data, .data] true :=
  Program.laidByTextLater.sub seatTie1 ["sealingwax/sha.table", "sealingwax/sha.begin"] (by kernel_rfl) (by kernel_rfl)
theorem sealsFollow_row_tie : Rows.sealsFollowRow.laidByTextAt .later Tryd.pinned [.data, .data] true :=
  OpenClaim.laidByTextAt_later rfl rfl tie noOwnUnsafe
theorem tie2 : Tryd.prog.laidByTextLater [("sealingwax/sums.table", Rows.laid_sealingwax_sums_table), ("sealingwax/sha.table", Rows.laid_sealingwax_sha_table), ("sealingwax/sha.begin", Rows.laid_sealingwax_sha_begin)] [.data, .data, .data] true :=
  Program.laidByTextLater.sub seatTie1 ["sealingwax/sums.table", "sealingwax/sha.table", "sealingwax/sha.begin"] (by kernel_rfl) (by kernel_rfl)
theorem sealsFields_row_tie : Rows.sealsFieldsRow.laidByTextAt .later Tryd.pinned [.data, .data, .data] true :=
  OpenClaim.laidByTextAt_later rfl rfl tie2 noOwnUnsafe
theorem sealsBack_row_tie : Rows.sealsBackRow.laidByTextAt .later Tryd.pinned [.data, .data, .data] true :=
  OpenClaim.laidByTextAt_later rfl rfl tie2 noOwnUnsafe
theorem sealsTorn_row_tie : Rows.sealsTornRow.laidByTextAt .later Tryd.pinned [.data, .data, .data] true :=
  OpenClaim.laidByTextAt_later rfl rfl tie2 noOwnUnsafe
theorem sealsBits_row_tie : Rows.sealsBitsRow.laidByTextAt .later Tryd.pinned [.data, .data, .data] true :=
  OpenClaim.laidByTextAt_later rfl rfl tie2 noOwnUnsafe
theorem tie3 : Tryd.prog.laidByTextLater [("sealingwax/sums.table", Rows.laid_sealingwax_sums_table), ("sealingwax/sealingwaxref02.k", Rows.laid_sealingwax_sealingwaxref02_k), ("sealingwax/sha.table", Rows.laid_sealingwax_sha_table), ("sealingwax/sha.begin", Rows.laid_sealingwax_sha_begin)] [.data, .data, .data, .data] true :=
  Program.laidByTextLater.sub seatTie1 ["sealingwax/sums.table", "sealingwax/sealingwaxref02.k", "sealingwax/sha.table", "sealingwax/sha.begin"] (by kernel_rfl) (by kernel_rfl)
theorem sealsBytes_row_tie : Rows.sealsBytesRow.laidByTextAt .later Tryd.pinned [.data, .data, .data, .data] true :=
  OpenClaim.laidByTextAt_later rfl rfl tie3 noOwnUnsafe
theorem sealsFollowUpto_row_tie : Rows.sealsFollowUptoRow.laidByTextAt .later Tryd.pinned [.data, .data] true :=
  OpenClaim.laidByTextAt_later rfl rfl tie noOwnUnsafe
theorem sealsFieldsUpto_row_tie : Rows.sealsFieldsUptoRow.laidByTextAt .later Tryd.pinned [.data, .data, .data] true :=
  OpenClaim.laidByTextAt_later rfl rfl tie2 noOwnUnsafe
theorem sealsBytesUpto_row_tie : Rows.sealsBytesUptoRow.laidByTextAt .later Tryd.pinned [.data, .data, .data, .data] true :=
  OpenClaim.laidByTextAt_later rfl rfl tie3 noOwnUnsafe
theorem sealsBackUpto_row_tie : Rows.sealsBackUptoRow.laidByTextAt .later Tryd.pinned [.data, .data, .data] true :=
  OpenClaim.laidByTextAt_later rfl rfl tie2 noOwnUnsafe
theorem sealsTornUpto_row_tie : Rows.sealsTornUptoRow.laidByTextAt .later Tryd.pinned [.data, .data, .data] true :=
  OpenClaim.laidByTextAt_later rfl rfl tie2 noOwnUnsafe
theorem sealsBitsUpto_row_tie : Rows.sealsBitsUptoRow.laidByTextAt .later Tryd.pinned [.data, .data, .data] true :=
  OpenClaim.laidByTextAt_later rfl rfl tie2 noOwnUnsafe
end Go.Proofs.YtigkfklgddbkfaaDoor
