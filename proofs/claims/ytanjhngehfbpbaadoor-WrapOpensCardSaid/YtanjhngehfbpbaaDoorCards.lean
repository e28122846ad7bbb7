/-
  DERIVED. GIVEN WITH THE SEED: THE CARDS: each row of YtanjhngehfbpbaaDoorRows.lean that lists a variable, with what it lists TIED to the program's text (the seventh form; the later family's looks); each row that meets fmt, with fmt's text TOLD by the authors' own Lean function (tested against real Go, not proved from fmt's source: count such statements apart). THE CARD IS WHAT COUNTS. Prove the row's statement (the work); the ties are given (YtanjhngehfbpbaaDoorTie.lean); close each card by the builder's one call (the guide's Derived/Test/ToyasCard.lean, 'card_holds'). Laid BY PROGRAM, IN A SANDBOX (cutbox-door.mjs). By AI agents, Wed Nov 11 2026. No macro, syntax, notation, axiom, sorry.
-/
import Derived.Test.YtanjhngehfbpbaaDoorRows
import GoSem.ClaimSeven
namespace Go.Proofs.YtanjhngehfbpbaaDoor
namespace Rows

/-- THE TIED CARD OF 'portcullislaw13.CurvePublics'. -/
def curvePublicsCard : Claim7 := { stood := { row := curvePublicsRow, standIns := [], harness := (true, "82905cbca9261ac2b6a233f0d1379bd6670fa4bd51f47a18833960badfcdd897"), looks := false }, kinds := [], alts := [], laidByText := true, laidKinds := [.data, .data, .data, .data], laidTests := true, laidLooks := .later }
def CurvePublicsCardSaid : Prop := Claim7.holds Tryd.pinned (.plain (OpenSpec.ofChange curvePublicsSpec)) curvePublicsCard

/-- THE TIED CARD OF 'portcullislaw13.CurveSigns'. -/
def curveSignsCard : Claim7 := { stood := { row := curveSignsRow, standIns := [], harness := (true, "82905cbca9261ac2b6a233f0d1379bd6670fa4bd51f47a18833960badfcdd897"), looks := false }, kinds := [], alts := [], laidByText := true, laidKinds := [.data, .data, .data, .data, .data], laidTests := true, laidLooks := .later }
def CurveSignsCardSaid : Prop := Claim7.holds Tryd.pinned (.plain (OpenSpec.ofChange curveSignsSpec)) curveSignsCard

/-- THE TIED CARD OF 'portcullislaw13.CurveTurned'. -/
def curveTurnedCard : Claim7 := { stood := { row := curveTurnedRow, standIns := [], harness := (true, "82905cbca9261ac2b6a233f0d1379bd6670fa4bd51f47a18833960badfcdd897"), looks := false }, kinds := [], alts := [], laidByText := true, laidKinds := [.data, .data, .data, .data, .data, .data], laidTests := true, laidLooks := .later }
def CurveTurnedCardSaid : Prop := Claim7.holds Tryd.pinned (.plain (OpenSpec.ofChange curveTurnedSpec)) curveTurnedCard

/-- THE TIED CARD OF 'portcullislaw14.WrapWraps'. -/
def wrapWrapsCard : Claim7 := { stood := { row := wrapWrapsRow, standIns := [], harness := (true, "82905cbca9261ac2b6a233f0d1379bd6670fa4bd51f47a18833960badfcdd897"), looks := false }, kinds := [], alts := [], laidByText := true, laidKinds := [.data], laidTests := true, laidLooks := .later }
def WrapWrapsCardSaid : Prop := Claim7.holds Tryd.pinned (.plain (OpenSpec.ofChange wrapWrapsSpec)) wrapWrapsCard

/-- THE TIED CARD OF 'portcullislaw14.WrapOpens'. -/
def wrapOpensCard : Claim7 := { stood := { row := wrapOpensRow, standIns := [], harness := (true, "82905cbca9261ac2b6a233f0d1379bd6670fa4bd51f47a18833960badfcdd897"), looks := false }, kinds := [], alts := [], laidByText := true, laidKinds := [.data], laidTests := true, laidLooks := .later }
def WrapOpensCardSaid : Prop := Claim7.holds Tryd.pinned (.plain (OpenSpec.ofChange wrapOpensSpec)) wrapOpensCard

/-- THE TIED CARD OF 'portcullislaw14.WrapOther'. -/
def wrapOtherCard : Claim7 := { stood := { row := wrapOtherRow, standIns := [], harness := (true, "82905cbca9261ac2b6a233f0d1379bd6670fa4bd51f47a18833960badfcdd897"), looks := false }, kinds := [], alts := [], laidByText := true, laidKinds := [.data], laidTests := true, laidLooks := .later }
def WrapOtherCardSaid : Prop := Claim7.holds Tryd.pinned (.plain (OpenSpec.ofChange wrapOtherSpec)) wrapOtherCard

/-- THE SECOND FORM's CARD OF 'portcullislaw13.CurvePublics'. -/
def curvePublicsUptoCard : Claim7 := { stood := { row := curvePublicsUptoRow, standIns := [], harness := (true, "82905cbca9261ac2b6a233f0d1379bd6670fa4bd51f47a18833960badfcdd897"), looks := false }, kinds := [], alts := [], laidByText := true, laidKinds := [.data, .data, .data, .data], laidTests := true, laidLooks := .later }
def CurvePublicsUptoCardSaid : Prop := Claim7.holds Tryd.pinned (.plain (OpenSpec.upto curvePublicsSpec)) curvePublicsUptoCard

/-- THE SECOND FORM's CARD OF 'portcullislaw13.CurveSigns'. -/
def curveSignsUptoCard : Claim7 := { stood := { row := curveSignsUptoRow, standIns := [], harness := (true, "82905cbca9261ac2b6a233f0d1379bd6670fa4bd51f47a18833960badfcdd897"), looks := false }, kinds := [], alts := [], laidByText := true, laidKinds := [.data, .data, .data, .data, .data], laidTests := true, laidLooks := .later }
def CurveSignsUptoCardSaid : Prop := Claim7.holds Tryd.pinned (.plain (OpenSpec.upto curveSignsSpec)) curveSignsUptoCard

/-- THE SECOND FORM's CARD OF 'portcullislaw13.CurveTurned'. -/
def curveTurnedUptoCard : Claim7 := { stood := { row := curveTurnedUptoRow, standIns := [], harness := (true, "82905cbca9261ac2b6a233f0d1379bd6670fa4bd51f47a18833960badfcdd897"), looks := false }, kinds := [], alts := [], laidByText := true, laidKinds := [.data, .data, .data, .data, .data, .data], laidTests := true, laidLooks := .later }
def CurveTurnedUptoCardSaid : Prop := Claim7.holds Tryd.pinned (.plain (OpenSpec.upto curveTurnedSpec)) curveTurnedUptoCard

/-- THE SECOND FORM's CARD OF 'portcullislaw14.WrapWraps'. -/
def wrapWrapsUptoCard : Claim7 := { stood := { row := wrapWrapsUptoRow, standIns := [], harness := (true, "82905cbca9261ac2b6a233f0d1379bd6670fa4bd51f47a18833960badfcdd897"), looks := false }, kinds := [], alts := [], laidByText := true, laidKinds := [.data], laidTests := true, laidLooks := .later }
def WrapWrapsUptoCardSaid : Prop := Claim7.holds Tryd.pinned (.plain (OpenSpec.upto wrapWrapsSpec)) wrapWrapsUptoCard

/-- THE SECOND FORM's CARD OF 'portcullislaw14.WrapOpens'. -/
def wrapOpensUptoCard : Claim7 := { stood := { row := wrapOpensUptoRow, standIns := [], harness := (true, "82905cbca9261ac2b6a233f0d1379bd6670fa4bd51f47a18833960badfcdd897"), looks := false }, kinds := [], alts := [], laidByText := true, laidKinds := [.data], laidTests := true, laidLooks := .later }
def WrapOpensUptoCardSaid : Prop := Claim7.holds Tryd.pinned (.plain (OpenSpec.upto wrapOpensSpec)) wrapOpensUptoCard

/-- THE SECOND FORM's CARD OF 'portcullislaw14.WrapOther'. -/
def wrapOtherUptoCard : Claim7 := { stood := { row := wrapOtherUptoRow, standIns := [], harness := (true, "82905cbca9261ac2b6a233f0d1379bd6670fa4bd51f47a18833960badfcdd897"), looks := false }, kinds := [], alts := [], laidByText := true, laidKinds := [.data], laidTests := true, laidLooks := .later }
def WrapOtherUptoCardSaid : Prop := Claim7.holds Tryd.pinned (.plain (OpenSpec.upto wrapOtherSpec)) wrapOtherUptoCard
end Rows
end Go.Proofs.YtanjhngehfbpbaaDoor
