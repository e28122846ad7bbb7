/-
  DERIVED. GIVEN WITH THE SEED: THE PROGRAM's TIES (one call each: nine closed facts by the kernel) AND EACH ROW's TIE, after the 31st guide's Derived/Test/Toyas{Tie, Card}.lean. No idea stands in it: it is a product of the set-up. Laid BY PROGRAM, IN A SANDBOX (cutbox-door.mjs). By AI agents, Wed Nov 11 2026. No macro, syntax, notation, axiom, sorry.
-/
import Derived.Test.YthdgbgleklkaiaaGreatDoorRows
import Derived.LaidByTextLater
import Derived.SevenTiedAt
import Derived.LaidSub
import Derived.LaidOnce
namespace Go.Proofs.YthdgbgleklkaiaaGreatDoor
open Go
set_option maxRecDepth 100000
theorem seatTie1 : Tryz.prog.laidByTextLater [("portcullis/portcullisref1.k256", Rows.laid_portcullis_portcullisref1_k256), ("portcullis/portcullisref1.k512", Rows.laid_portcullis_portcullisref1_k512), ("portcullis/portcullisref3.rootOfMinusOne", Rows.laid_portcullis_portcullisref3_rootOfMinusOne), ("portcullis/portcullisref3.order", Rows.laid_portcullis_portcullisref3_order), ("portcullis/portcullisref3.d", Rows.laid_portcullis_portcullisref3_d), ("portcullis/portcullisref3.baseX", Rows.laid_portcullis_portcullisref3_baseX), ("portcullis/portcullisref3.baseY", Rows.laid_portcullis_portcullisref3_baseY)] [.data, .data, .data, .data, .data, .data, .data] true :=
  Program.laidByTextLater_by_one 44 8 81 (by kernel_rfl) (by kernel_rfl) (by kernel_rfl) (by kernel_rfl) (by kernel_rfl) (by kernel_rfl) (fun _ _ => by kernel_rfl)
theorem seatTie2 : Tryz.prog.laidByTextLater [("portcullis/portcullisref1.k256", Rows.laid_portcullis_portcullisref1_k256)] [.data] true :=
  Program.laidByTextLater_by_one 44 8 81 (by kernel_rfl) (by kernel_rfl) (by kernel_rfl) (by kernel_rfl) (by kernel_rfl) (by kernel_rfl) (fun _ _ => by kernel_rfl)
theorem noOwnUnsafe : Tryz.pinned.checked.prog.headLifts.contains "ownunsafe" = false := by kernel_rfl
theorem tie : Tryz.prog.laidByTextLater [("portcullis/portcullisref1.k256", Rows.laid_portcullis_portcullisref1_k256), ("portcullis/portcullisref1.k512", Rows.laid_portcullis_portcullisref1_k512), ("portcullis/portcullisref3.rootOfMinusOne", Rows.laid_portcullis_portcullisref3_rootOfMinusOne), ("portcullis/portcullisref3.order", Rows.laid_portcullis_portcullisref3_order), ("portcullis/portcullisref3.d", Rows.laid_portcullis_portcullisref3_d), ("portcullis/portcullisref3.baseX", Rows.laid_portcullis_portcullisref3_baseX), ("portcullis/portcullisref3.baseY", Rows.laid_portcullis_portcullisref3_baseY)] [.data, .data, .data, .data, .data, .data, .data] true :=
  Program.laidByTextLater.sub seatTie1 ["portcullis/portcullisref1.k256", "portcullis/portcullisref1.k512", "portcullis/portcullisref3.rootOfMinusOne", "portcullis/portcullisref3.order", "portcullis/portcullisref3.d", "portcullis/portcullisref3.baseX", "portcullis/portcullisref3.baseY"] (by kernel_rfl) (by kernel_rfl)
theorem manifestReads_row_tie : Rows.manifestReadsRow.laidByTextAt .later Tryz.pinned [.data, .data, .data, .data, .data, .data, .data] true :=
  OpenClaim.laidByTextAt_later rfl rfl tie noOwnUnsafe
theorem manifestTurned_row_tie : Rows.manifestTurnedRow.laidByTextAt .later Tryz.pinned [.data, .data, .data, .data, .data, .data, .data] true :=
  OpenClaim.laidByTextAt_later rfl rfl tie noOwnUnsafe
theorem manifestSigns_row_tie : Rows.manifestSignsRow.laidByTextAt .later Tryz.pinned [.data, .data, .data, .data, .data, .data, .data] true :=
  OpenClaim.laidByTextAt_later rfl rfl tie noOwnUnsafe
theorem manifestWrong_row_tie : Rows.manifestWrongRow.laidByTextAt .later Tryz.pinned [.data, .data, .data, .data, .data, .data, .data] true :=
  OpenClaim.laidByTextAt_later rfl rfl tie noOwnUnsafe
theorem issueMakes_row_tie : Rows.issueMakesRow.laidByTextAt .later Tryz.pinned [.data, .data, .data, .data, .data, .data, .data] true :=
  OpenClaim.laidByTextAt_later rfl rfl tie noOwnUnsafe
theorem issueRight_row_tie : Rows.issueRightRow.laidByTextAt .later Tryz.pinned [.data, .data, .data, .data, .data, .data, .data] true :=
  OpenClaim.laidByTextAt_later rfl rfl tie noOwnUnsafe
theorem tie2 : Tryz.prog.laidByTextLater [("portcullis/portcullisref1.k256", Rows.laid_portcullis_portcullisref1_k256)] [.data] true :=
  Program.laidByTextLater.sub seatTie2 ["portcullis/portcullisref1.k256"] (by kernel_rfl) (by kernel_rfl)
theorem issueWrong_row_tie : Rows.issueWrongRow.laidByTextAt .later Tryz.pinned [.data] true :=
  OpenClaim.laidByTextAt_later rfl rfl tie2 noOwnUnsafe
theorem manifestReadsUpto_row_tie : Rows.manifestReadsUptoRow.laidByTextAt .later Tryz.pinned [.data, .data, .data, .data, .data, .data, .data] true :=
  OpenClaim.laidByTextAt_later rfl rfl tie noOwnUnsafe
theorem manifestTurnedUpto_row_tie : Rows.manifestTurnedUptoRow.laidByTextAt .later Tryz.pinned [.data, .data, .data, .data, .data, .data, .data] true :=
  OpenClaim.laidByTextAt_later rfl rfl tie noOwnUnsafe
theorem manifestSignsUpto_row_tie : Rows.manifestSignsUptoRow.laidByTextAt .later Tryz.pinned [.data, .data, .data, .data, .data, .data, .data] true :=
  OpenClaim.laidByTextAt_later rfl rfl tie noOwnUnsafe
theorem manifestWrongUpto_row_tie : Rows.manifestWrongUptoRow.laidByTextAt .later Tryz.pinned [.data, .data, .data, .data, .data, .data, .data] true :=
  OpenClaim.laidByTextAt_later rfl rfl tie noOwnUnsafe
theorem issueMakesUpto_row_tie : Rows.issueMakesUptoRow.laidByTextAt .later Tryz.pinned [.data, .data, .data, .data, .data, .data, .data] true :=
  OpenClaim.laidByTextAt_later rfl rfl tie noOwnUnsafe
theorem issueRightUpto_row_tie : Rows.issueRightUptoRow.laidByTextAt .later Tryz.pinned [.data, .data, .data, .data, .data, .data, .data] true :=
  OpenClaim.laidByTextAt_later rfl rfl tie noOwnUnsafe
theorem issueWrongUpto_row_tie : Rows.issueWrongUptoRow.laidByTextAt .later Tryz.pinned [.data] true :=
  OpenClaim.laidByTextAt_later rfl rfl tie2 noOwnUnsafe
end Go.Proofs.YthdgbgleklkaiaaGreatDoor
