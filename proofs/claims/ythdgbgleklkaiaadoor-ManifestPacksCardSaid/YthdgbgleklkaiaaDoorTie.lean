/-
  DERIVED. GIVEN WITH THE SEED: THE PROGRAM's TIES (one call each: nine closed facts by the kernel) AND EACH ROW's TIE, after the 31st guide's Derived/Test/Toyas{Tie, Card}.lean. No idea stands in it: it is a product of the set-up. Laid BY PROGRAM, IN A SANDBOX (cutbox-door.mjs). By AI agents, Wed Nov 11 2026. No macro, syntax, notation, axiom, sorry.
-/
import Derived.Test.YthdgbgleklkaiaaDoorRows
import Derived.LaidByTextLater
import Derived.SevenTiedAt
import Derived.LaidSub
import Derived.LaidOnce
namespace Go.Proofs.YthdgbgleklkaiaaDoor
open Go
set_option maxRecDepth 100000
theorem seatTie1 : Tryd.prog.laidByTextLater [("portcullis/portcullisref1.k256", Rows.laid_portcullis_portcullisref1_k256), ("portcullis/portcullisref1.k512", Rows.laid_portcullis_portcullisref1_k512), ("portcullis/portcullisref3.rootOfMinusOne", Rows.laid_portcullis_portcullisref3_rootOfMinusOne), ("portcullis/portcullisref3.order", Rows.laid_portcullis_portcullisref3_order), ("portcullis/portcullisref3.d", Rows.laid_portcullis_portcullisref3_d), ("portcullis/portcullisref3.baseX", Rows.laid_portcullis_portcullisref3_baseX), ("portcullis/portcullisref3.baseY", Rows.laid_portcullis_portcullisref3_baseY)] [.data, .data, .data, .data, .data, .data, .data] true :=
  Program.laidByTextLater_by_one 44 8 81 (by kernel_rfl) (by kernel_rfl) (by kernel_rfl) (by kernel_rfl) (by kernel_rfl) (by kernel_rfl) (fun _ _ => by kernel_rfl)
theorem noOwnUnsafe : Tryd.pinned.checked.prog.headLifts.contains "ownunsafe" = false := by kernel_rfl
theorem tie : Tryd.prog.laidByTextLater [("portcullis/portcullisref1.k256", Rows.laid_portcullis_portcullisref1_k256), ("portcullis/portcullisref1.k512", Rows.laid_portcullis_portcullisref1_k512), ("portcullis/portcullisref3.rootOfMinusOne", Rows.laid_portcullis_portcullisref3_rootOfMinusOne), ("portcullis/portcullisref3.order", Rows.laid_portcullis_portcullisref3_order), ("portcullis/portcullisref3.d", Rows.laid_portcullis_portcullisref3_d), ("portcullis/portcullisref3.baseX", Rows.laid_portcullis_portcullisref3_baseX), ("portcullis/portcullisref3.baseY", Rows.laid_portcullis_portcullisref3_baseY)] [.data, .data, .data, .data, .data, .data, .data] true :=
  Program.laidByTextLater.sub seatTie1 ["portcullis/portcullisref1.k256", "portcullis/portcullisref1.k512", "portcullis/portcullisref3.rootOfMinusOne", "portcullis/portcullisref3.order", "portcullis/portcullisref3.d", "portcullis/portcullisref3.baseX", "portcullis/portcullisref3.baseY"] (by kernel_rfl) (by kernel_rfl)
theorem manifestCuts_row_tie : Rows.manifestCutsRow.laidByTextAt .later Tryd.pinned [.data, .data, .data, .data, .data, .data, .data] true :=
  OpenClaim.laidByTextAt_later rfl rfl tie noOwnUnsafe
theorem manifestPacks_row_tie : Rows.manifestPacksRow.laidByTextAt .later Tryd.pinned [.data, .data, .data, .data, .data, .data, .data] true :=
  OpenClaim.laidByTextAt_later rfl rfl tie noOwnUnsafe
theorem manifestCutsUpto_row_tie : Rows.manifestCutsUptoRow.laidByTextAt .later Tryd.pinned [.data, .data, .data, .data, .data, .data, .data] true :=
  OpenClaim.laidByTextAt_later rfl rfl tie noOwnUnsafe
theorem manifestPacksUpto_row_tie : Rows.manifestPacksUptoRow.laidByTextAt .later Tryd.pinned [.data, .data, .data, .data, .data, .data, .data] true :=
  OpenClaim.laidByTextAt_later rfl rfl tie noOwnUnsafe
end Go.Proofs.YthdgbgleklkaiaaDoor
