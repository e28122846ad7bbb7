/-
  DERIVED. GIVEN WITH THE SEED: THE PROGRAM's TIES (one call each: nine closed facts by the kernel) AND EACH ROW's TIE, after the 31st guide's Derived/Test/Toyas{Tie, Card}.lean. No idea stands in it: it is a product of the set-up. Laid BY PROGRAM, IN A SANDBOX (cutbox-door.mjs). By AI agents, Wed Nov 11 2026. No macro, syntax, notation, axiom, sorry.
-/
import Derived.Test.YtanjhngehfbpbaaDoorRows
import Derived.LaidByTextLater
import Derived.SevenTiedAt
import Derived.LaidSub
import Derived.LaidOnce
namespace Go.Proofs.YtanjhngehfbpbaaDoor
open Go
set_option maxRecDepth 100000
theorem seatTie1 : Tryd.prog.laidByTextLater [("portcullis/portcullisref1.k512", Rows.laid_portcullis_portcullisref1_k512), ("portcullis/portcullisref3.rootOfMinusOne", Rows.laid_portcullis_portcullisref3_rootOfMinusOne), ("portcullis/portcullisref3.order", Rows.laid_portcullis_portcullisref3_order), ("portcullis/portcullisref3.d", Rows.laid_portcullis_portcullisref3_d), ("portcullis/portcullisref3.baseX", Rows.laid_portcullis_portcullisref3_baseX), ("portcullis/portcullisref3.baseY", Rows.laid_portcullis_portcullisref3_baseY)] [.data, .data, .data, .data, .data, .data] true :=
  Program.laidByTextLater_by_one 44 8 81 (by kernel_rfl) (by kernel_rfl) (by kernel_rfl) (by kernel_rfl) (by kernel_rfl) (by kernel_rfl) (fun _ _ => by kernel_rfl)
theorem seatTie2 : Tryd.prog.laidByTextLater [("portcullis/portcullisref1.k256", Rows.laid_portcullis_portcullisref1_k256)] [.data] true :=
  Program.laidByTextLater_by_one 44 8 81 (by kernel_rfl) (by kernel_rfl) (by kernel_rfl) (by kernel_rfl) (by kernel_rfl) (by kernel_rfl) (fun _ _ => by kernel_rfl)
theorem noOwnUnsafe : Tryd.pinned.checked.prog.headLifts.contains "ownunsafe" = false := by kernel_rfl
theorem tie : Tryd.prog.laidByTextLater [("portcullis/portcullisref1.k512", Rows.laid_portcullis_portcullisref1_k512), ("portcullis/portcullisref3.d", Rows.laid_portcullis_portcullisref3_d), ("portcullis/portcullisref3.baseX", Rows.laid_portcullis_portcullisref3_baseX), ("portcullis/portcullisref3.baseY", Rows.laid_portcullis_portcullisref3_baseY)] [.data, .data, .data, .data] true :=
  Program.laidByTextLater.sub seatTie1 ["portcullis/portcullisref1.k512", "portcullis/portcullisref3.d", "portcullis/portcullisref3.baseX", "portcullis/portcullisref3.baseY"] (by kernel_rfl) (by kernel_rfl)
theorem curvePublics_row_tie : Rows.curvePublicsRow.laidByTextAt .later Tryd.pinned [.data, .data, .data, .data] true :=
  OpenClaim.laidByTextAt_later rfl rfl tie noOwnUnsafe
theorem tie2 : Tryd.prog.laidByTextLater [("portcullis/portcullisref1.k512", Rows.laid_portcullis_portcullisref1_k512), ("portcullis/portcullisref3.order", Rows.laid_portcullis_portcullisref3_order), ("portcullis/portcullisref3.d", Rows.laid_portcullis_portcullisref3_d), ("portcullis/portcullisref3.baseX", Rows.laid_portcullis_portcullisref3_baseX), ("portcullis/portcullisref3.baseY", Rows.laid_portcullis_portcullisref3_baseY)] [.data, .data, .data, .data, .data] true :=
  Program.laidByTextLater.sub seatTie1 ["portcullis/portcullisref1.k512", "portcullis/portcullisref3.order", "portcullis/portcullisref3.d", "portcullis/portcullisref3.baseX", "portcullis/portcullisref3.baseY"] (by kernel_rfl) (by kernel_rfl)
theorem curveSigns_row_tie : Rows.curveSignsRow.laidByTextAt .later Tryd.pinned [.data, .data, .data, .data, .data] true :=
  OpenClaim.laidByTextAt_later rfl rfl tie2 noOwnUnsafe
theorem tie3 : Tryd.prog.laidByTextLater [("portcullis/portcullisref1.k512", Rows.laid_portcullis_portcullisref1_k512), ("portcullis/portcullisref3.rootOfMinusOne", Rows.laid_portcullis_portcullisref3_rootOfMinusOne), ("portcullis/portcullisref3.order", Rows.laid_portcullis_portcullisref3_order), ("portcullis/portcullisref3.d", Rows.laid_portcullis_portcullisref3_d), ("portcullis/portcullisref3.baseX", Rows.laid_portcullis_portcullisref3_baseX), ("portcullis/portcullisref3.baseY", Rows.laid_portcullis_portcullisref3_baseY)] [.data, .data, .data, .data, .data, .data] true :=
  Program.laidByTextLater.sub seatTie1 ["portcullis/portcullisref1.k512", "portcullis/portcullisref3.rootOfMinusOne", "portcullis/portcullisref3.order", "portcullis/portcullisref3.d", "portcullis/portcullisref3.baseX", "portcullis/portcullisref3.baseY"] (by kernel_rfl) (by kernel_rfl)
theorem curveTurned_row_tie : Rows.curveTurnedRow.laidByTextAt .later Tryd.pinned [.data, .data, .data, .data, .data, .data] true :=
  OpenClaim.laidByTextAt_later rfl rfl tie3 noOwnUnsafe
theorem tie4 : Tryd.prog.laidByTextLater [("portcullis/portcullisref1.k256", Rows.laid_portcullis_portcullisref1_k256)] [.data] true :=
  Program.laidByTextLater.sub seatTie2 ["portcullis/portcullisref1.k256"] (by kernel_rfl) (by kernel_rfl)
theorem wrapWraps_row_tie : Rows.wrapWrapsRow.laidByTextAt .later Tryd.pinned [.data] true :=
  OpenClaim.laidByTextAt_later rfl rfl tie4 noOwnUnsafe
theorem wrapOpens_row_tie : Rows.wrapOpensRow.laidByTextAt .later Tryd.pinned [.data] true :=
  OpenClaim.laidByTextAt_later rfl rfl tie4 noOwnUnsafe
theorem wrapOther_row_tie : Rows.wrapOtherRow.laidByTextAt .later Tryd.pinned [.data] true :=
  OpenClaim.laidByTextAt_later rfl rfl tie4 noOwnUnsafe
theorem curvePublicsUpto_row_tie : Rows.curvePublicsUptoRow.laidByTextAt .later Tryd.pinned [.data, .data, .data, .data] true :=
  OpenClaim.laidByTextAt_later rfl rfl tie noOwnUnsafe
theorem curveSignsUpto_row_tie : Rows.curveSignsUptoRow.laidByTextAt .later Tryd.pinned [.data, .data, .data, .data, .data] true :=
  OpenClaim.laidByTextAt_later rfl rfl tie2 noOwnUnsafe
theorem curveTurnedUpto_row_tie : Rows.curveTurnedUptoRow.laidByTextAt .later Tryd.pinned [.data, .data, .data, .data, .data, .data] true :=
  OpenClaim.laidByTextAt_later rfl rfl tie3 noOwnUnsafe
theorem wrapWrapsUpto_row_tie : Rows.wrapWrapsUptoRow.laidByTextAt .later Tryd.pinned [.data] true :=
  OpenClaim.laidByTextAt_later rfl rfl tie4 noOwnUnsafe
theorem wrapOpensUpto_row_tie : Rows.wrapOpensUptoRow.laidByTextAt .later Tryd.pinned [.data] true :=
  OpenClaim.laidByTextAt_later rfl rfl tie4 noOwnUnsafe
theorem wrapOtherUpto_row_tie : Rows.wrapOtherUptoRow.laidByTextAt .later Tryd.pinned [.data] true :=
  OpenClaim.laidByTextAt_later rfl rfl tie4 noOwnUnsafe
end Go.Proofs.YtanjhngehfbpbaaDoor
