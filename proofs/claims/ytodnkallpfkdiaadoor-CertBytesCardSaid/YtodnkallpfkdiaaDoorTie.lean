/-
  DERIVED. GIVEN WITH THE SEED: THE PROGRAM's TIES (one call each: nine closed facts by the kernel) AND EACH ROW's TIE, after the 31st guide's Derived/Test/Toyas{Tie, Card}.lean. No idea stands in it: it is a product of the set-up. Laid BY PROGRAM, IN A SANDBOX (cutbox-door.mjs). By AI agents, Wed Nov 11 2026. No macro, syntax, notation, axiom, sorry.
-/
import Derived.Test.YtodnkallpfkdiaaDoorRows
import Derived.LaidByTextLater
import Derived.SevenTiedAt
import Derived.LaidSub
import Derived.LaidOnce
namespace Go.Proofs.YtodnkallpfkdiaaDoor
open Go
set_option maxRecDepth 100000
theorem seatTie1 : Tryd.prog.laidByTextLater [("portcullis/portcullisref1.k256", Rows.laid_portcullis_portcullisref1_k256), ("portcullis/portcullisref1.k512", Rows.laid_portcullis_portcullisref1_k512), ("portcullis/portcullisref3.rootOfMinusOne", Rows.laid_portcullis_portcullisref3_rootOfMinusOne), ("portcullis/portcullisref3.order", Rows.laid_portcullis_portcullisref3_order), ("portcullis/portcullisref3.d", Rows.laid_portcullis_portcullisref3_d), ("portcullis/portcullisref3.baseX", Rows.laid_portcullis_portcullisref3_baseX), ("portcullis/portcullisref3.baseY", Rows.laid_portcullis_portcullisref3_baseY)] [.data, .data, .data, .data, .data, .data, .data] true :=
  Program.laidByTextLater_by_one 44 8 81 (by kernel_rfl) (by kernel_rfl) (by kernel_rfl) (by kernel_rfl) (by kernel_rfl) (by kernel_rfl) (fun _ _ => by kernel_rfl)
theorem seatTie2 : Tryd.prog.laidByTextLater [("portcullis/portcullisref1.k512", Rows.laid_portcullis_portcullisref1_k512), ("portcullis/portcullisref3.rootOfMinusOne", Rows.laid_portcullis_portcullisref3_rootOfMinusOne), ("portcullis/portcullisref3.order", Rows.laid_portcullis_portcullisref3_order), ("portcullis/portcullisref3.d", Rows.laid_portcullis_portcullisref3_d), ("portcullis/portcullisref3.baseX", Rows.laid_portcullis_portcullisref3_baseX), ("portcullis/portcullisref3.baseY", Rows.laid_portcullis_portcullisref3_baseY)] [.data, .data, .data, .data, .data, .data] true :=
  Program.laidByTextLater_by_one 44 8 81 (by kernel_rfl) (by kernel_rfl) (by kernel_rfl) (by kernel_rfl) (by kernel_rfl) (by kernel_rfl) (fun _ _ => by kernel_rfl)
theorem noOwnUnsafe : Tryd.pinned.checked.prog.headLifts.contains "ownunsafe" = false := by kernel_rfl
theorem tie : Tryd.prog.laidByTextLater [("portcullis/portcullisref1.k256", Rows.laid_portcullis_portcullisref1_k256), ("portcullis/portcullisref1.k512", Rows.laid_portcullis_portcullisref1_k512), ("portcullis/portcullisref3.rootOfMinusOne", Rows.laid_portcullis_portcullisref3_rootOfMinusOne), ("portcullis/portcullisref3.order", Rows.laid_portcullis_portcullisref3_order), ("portcullis/portcullisref3.d", Rows.laid_portcullis_portcullisref3_d), ("portcullis/portcullisref3.baseX", Rows.laid_portcullis_portcullisref3_baseX), ("portcullis/portcullisref3.baseY", Rows.laid_portcullis_portcullisref3_baseY)] [.data, .data, .data, .data, .data, .data, .data] true :=
  Program.laidByTextLater.sub seatTie1 ["portcullis/portcullisref1.k256", "portcullis/portcullisref1.k512", "portcullis/portcullisref3.rootOfMinusOne", "portcullis/portcullisref3.order", "portcullis/portcullisref3.d", "portcullis/portcullisref3.baseX", "portcullis/portcullisref3.baseY"] (by kernel_rfl) (by kernel_rfl)
theorem manifestCuts_row_tie : Rows.manifestCutsRow.laidByTextAt .later Tryd.pinned [.data, .data, .data, .data, .data, .data, .data] true :=
  OpenClaim.laidByTextAt_later rfl rfl tie noOwnUnsafe
theorem manifestPacks_row_tie : Rows.manifestPacksRow.laidByTextAt .later Tryd.pinned [.data, .data, .data, .data, .data, .data, .data] true :=
  OpenClaim.laidByTextAt_later rfl rfl tie noOwnUnsafe
theorem tie2 : Tryd.prog.laidByTextLater [("portcullis/portcullisref1.k512", Rows.laid_portcullis_portcullisref1_k512), ("portcullis/portcullisref3.rootOfMinusOne", Rows.laid_portcullis_portcullisref3_rootOfMinusOne), ("portcullis/portcullisref3.order", Rows.laid_portcullis_portcullisref3_order), ("portcullis/portcullisref3.d", Rows.laid_portcullis_portcullisref3_d), ("portcullis/portcullisref3.baseX", Rows.laid_portcullis_portcullisref3_baseX), ("portcullis/portcullisref3.baseY", Rows.laid_portcullis_portcullisref3_baseY)] [.data, .data, .data, .data, .data, .data] true :=
  Program.laidByTextLater.sub seatTie2 ["portcullis/portcullisref1.k512", "portcullis/portcullisref3.rootOfMinusOne", "portcullis/portcullisref3.order", "portcullis/portcullisref3.d", "portcullis/portcullisref3.baseX", "portcullis/portcullisref3.baseY"] (by kernel_rfl) (by kernel_rfl)
theorem certSigns_row_tie : Rows.certSignsRow.laidByTextAt .later Tryd.pinned [.data, .data, .data, .data, .data, .data] true :=
  OpenClaim.laidByTextAt_later rfl rfl tie2 noOwnUnsafe
theorem certChecks_row_tie : Rows.certChecksRow.laidByTextAt .later Tryd.pinned [.data, .data, .data, .data, .data, .data] true :=
  OpenClaim.laidByTextAt_later rfl rfl tie2 noOwnUnsafe
theorem certTurned_row_tie : Rows.certTurnedRow.laidByTextAt .later Tryd.pinned [.data, .data, .data, .data, .data, .data] true :=
  OpenClaim.laidByTextAt_later rfl rfl tie2 noOwnUnsafe
theorem tie3 : Tryd.prog.laidByTextLater [("portcullis/portcullisref1.k512", Rows.laid_portcullis_portcullisref1_k512), ("portcullis/portcullisref3.d", Rows.laid_portcullis_portcullisref3_d), ("portcullis/portcullisref3.baseX", Rows.laid_portcullis_portcullisref3_baseX), ("portcullis/portcullisref3.baseY", Rows.laid_portcullis_portcullisref3_baseY)] [.data, .data, .data, .data] true :=
  Program.laidByTextLater.sub seatTie2 ["portcullis/portcullisref1.k512", "portcullis/portcullisref3.d", "portcullis/portcullisref3.baseX", "portcullis/portcullisref3.baseY"] (by kernel_rfl) (by kernel_rfl)
theorem certReads_row_tie : Rows.certReadsRow.laidByTextAt .later Tryd.pinned [.data, .data, .data, .data] true :=
  OpenClaim.laidByTextAt_later rfl rfl tie3 noOwnUnsafe
theorem certBytes_row_tie : Rows.certBytesRow.laidByTextAt .later Tryd.pinned [.data, .data, .data, .data] true :=
  OpenClaim.laidByTextAt_later rfl rfl tie3 noOwnUnsafe
theorem tie4 : Tryd.prog.laidByTextLater [("portcullis/portcullisref1.k512", Rows.laid_portcullis_portcullisref1_k512), ("portcullis/portcullisref3.rootOfMinusOne", Rows.laid_portcullis_portcullisref3_rootOfMinusOne), ("portcullis/portcullisref3.d", Rows.laid_portcullis_portcullisref3_d), ("portcullis/portcullisref3.baseX", Rows.laid_portcullis_portcullisref3_baseX), ("portcullis/portcullisref3.baseY", Rows.laid_portcullis_portcullisref3_baseY)] [.data, .data, .data, .data, .data] true :=
  Program.laidByTextLater.sub seatTie2 ["portcullis/portcullisref1.k512", "portcullis/portcullisref3.rootOfMinusOne", "portcullis/portcullisref3.d", "portcullis/portcullisref3.baseX", "portcullis/portcullisref3.baseY"] (by kernel_rfl) (by kernel_rfl)
theorem certNone_row_tie : Rows.certNoneRow.laidByTextAt .later Tryd.pinned [.data, .data, .data, .data, .data] true :=
  OpenClaim.laidByTextAt_later rfl rfl tie4 noOwnUnsafe
theorem tie5 : Tryd.prog.laidByTextLater [("portcullis/portcullisref1.k512", Rows.laid_portcullis_portcullisref1_k512), ("portcullis/portcullisref3.order", Rows.laid_portcullis_portcullisref3_order), ("portcullis/portcullisref3.d", Rows.laid_portcullis_portcullisref3_d), ("portcullis/portcullisref3.baseX", Rows.laid_portcullis_portcullisref3_baseX), ("portcullis/portcullisref3.baseY", Rows.laid_portcullis_portcullisref3_baseY)] [.data, .data, .data, .data, .data] true :=
  Program.laidByTextLater.sub seatTie2 ["portcullis/portcullisref1.k512", "portcullis/portcullisref3.order", "portcullis/portcullisref3.d", "portcullis/portcullisref3.baseX", "portcullis/portcullisref3.baseY"] (by kernel_rfl) (by kernel_rfl)
theorem certStops_row_tie : Rows.certStopsRow.laidByTextAt .later Tryd.pinned [.data, .data, .data, .data, .data] true :=
  OpenClaim.laidByTextAt_later rfl rfl tie5 noOwnUnsafe
theorem manifestCutsUpto_row_tie : Rows.manifestCutsUptoRow.laidByTextAt .later Tryd.pinned [.data, .data, .data, .data, .data, .data, .data] true :=
  OpenClaim.laidByTextAt_later rfl rfl tie noOwnUnsafe
theorem manifestPacksUpto_row_tie : Rows.manifestPacksUptoRow.laidByTextAt .later Tryd.pinned [.data, .data, .data, .data, .data, .data, .data] true :=
  OpenClaim.laidByTextAt_later rfl rfl tie noOwnUnsafe
theorem certSignsUpto_row_tie : Rows.certSignsUptoRow.laidByTextAt .later Tryd.pinned [.data, .data, .data, .data, .data, .data] true :=
  OpenClaim.laidByTextAt_later rfl rfl tie2 noOwnUnsafe
theorem certChecksUpto_row_tie : Rows.certChecksUptoRow.laidByTextAt .later Tryd.pinned [.data, .data, .data, .data, .data, .data] true :=
  OpenClaim.laidByTextAt_later rfl rfl tie2 noOwnUnsafe
theorem certTurnedUpto_row_tie : Rows.certTurnedUptoRow.laidByTextAt .later Tryd.pinned [.data, .data, .data, .data, .data, .data] true :=
  OpenClaim.laidByTextAt_later rfl rfl tie2 noOwnUnsafe
theorem certReadsUpto_row_tie : Rows.certReadsUptoRow.laidByTextAt .later Tryd.pinned [.data, .data, .data, .data] true :=
  OpenClaim.laidByTextAt_later rfl rfl tie3 noOwnUnsafe
theorem certBytesUpto_row_tie : Rows.certBytesUptoRow.laidByTextAt .later Tryd.pinned [.data, .data, .data, .data] true :=
  OpenClaim.laidByTextAt_later rfl rfl tie3 noOwnUnsafe
theorem certNoneUpto_row_tie : Rows.certNoneUptoRow.laidByTextAt .later Tryd.pinned [.data, .data, .data, .data, .data] true :=
  OpenClaim.laidByTextAt_later rfl rfl tie4 noOwnUnsafe
theorem certStopsUpto_row_tie : Rows.certStopsUptoRow.laidByTextAt .later Tryd.pinned [.data, .data, .data, .data, .data] true :=
  OpenClaim.laidByTextAt_later rfl rfl tie5 noOwnUnsafe
end Go.Proofs.YtodnkallpfkdiaaDoor
