/-
  DERIVED. GIVEN WITH THE SEED: THE CARDS: each row of YtgnkamcockmhiaaDoorRows.lean that lists a variable, with what it lists TIED to the program's text (the seventh form; the later family's looks); each row that meets fmt, with fmt's text TOLD by the authors' own Lean function (tested against real Go, not proved from fmt's source: count such statements apart). THE CARD IS WHAT COUNTS. Prove the row's statement (the work); the ties are given (YtgnkamcockmhiaaDoorTie.lean); close each card by the builder's one call (the guide's Derived/Test/ToyasCard.lean, 'card_holds'). Laid BY PROGRAM, IN A SANDBOX (cutbox-door.mjs). By AI agents, Wed Nov 11 2026. No macro, syntax, notation, axiom, sorry.
-/
import Derived.Test.YtgnkamcockmhiaaDoorRows
import GoSem.ClaimSeven
namespace Go.Proofs.YtgnkamcockmhiaaDoor
namespace Rows

/-- THE TIED CARD OF 'portcullislaw28.IssueSets'. -/
def issueSetsCard : Claim7 := { stood := { row := issueSetsRow, standIns := [], harness := (true, "86088fda1a4e56c9614350d82bdc99b7cce8fe76668ff574e7095706ce628570"), looks := false }, kinds := [], alts := [], laidByText := true, laidKinds := [.data], laidTests := true, laidLooks := .later }
def IssueSetsCardSaid : Prop := Claim7.holds Tryd.pinned (.plain (OpenSpec.ofChange issueSetsSpec)) issueSetsCard

/-- THE TIED CARD OF 'portcullislaw13.CurvePublics'. -/
def curvePublicsCard : Claim7 := { stood := { row := curvePublicsRow, standIns := [], harness := (true, "86088fda1a4e56c9614350d82bdc99b7cce8fe76668ff574e7095706ce628570"), looks := false }, kinds := [], alts := [], laidByText := true, laidKinds := [.data, .data, .data, .data], laidTests := true, laidLooks := .later }
def CurvePublicsCardSaid : Prop := Claim7.holds Tryd.pinned (.plain (OpenSpec.ofChange curvePublicsSpec)) curvePublicsCard

/-- THE TIED CARD OF 'portcullislaw13.CurveSigns'. -/
def curveSignsCard : Claim7 := { stood := { row := curveSignsRow, standIns := [], harness := (true, "86088fda1a4e56c9614350d82bdc99b7cce8fe76668ff574e7095706ce628570"), looks := false }, kinds := [], alts := [], laidByText := true, laidKinds := [.data, .data, .data, .data, .data], laidTests := true, laidLooks := .later }
def CurveSignsCardSaid : Prop := Claim7.holds Tryd.pinned (.plain (OpenSpec.ofChange curveSignsSpec)) curveSignsCard

/-- THE TIED CARD OF 'portcullislaw13.CurveVerifies'. -/
def curveVerifiesCard : Claim7 := { stood := { row := curveVerifiesRow, standIns := [], harness := (true, "86088fda1a4e56c9614350d82bdc99b7cce8fe76668ff574e7095706ce628570"), looks := false }, kinds := [], alts := [], laidByText := true, laidKinds := [.data, .data, .data, .data, .data, .data], laidTests := true, laidLooks := .later }
def CurveVerifiesCardSaid : Prop := Claim7.holds Tryd.pinned (.plain (OpenSpec.ofChange curveVerifiesSpec)) curveVerifiesCard

/-- THE TIED CARD OF 'portcullislaw13.CurveTurned'. -/
def curveTurnedCard : Claim7 := { stood := { row := curveTurnedRow, standIns := [], harness := (true, "86088fda1a4e56c9614350d82bdc99b7cce8fe76668ff574e7095706ce628570"), looks := false }, kinds := [], alts := [], laidByText := true, laidKinds := [.data, .data, .data, .data, .data, .data], laidTests := true, laidLooks := .later }
def CurveTurnedCardSaid : Prop := Claim7.holds Tryd.pinned (.plain (OpenSpec.ofChange curveTurnedSpec)) curveTurnedCard

/-- THE TIED CARD OF 'portcullislaw13.CurvePoints'. -/
def curvePointsCard : Claim7 := { stood := { row := curvePointsRow, standIns := [], harness := (true, "86088fda1a4e56c9614350d82bdc99b7cce8fe76668ff574e7095706ce628570"), looks := false }, kinds := [], alts := [], laidByText := true, laidKinds := [.data, .data], laidTests := true, laidLooks := .later }
def CurvePointsCardSaid : Prop := Claim7.holds Tryd.pinned (.plain (OpenSpec.ofChange curvePointsSpec)) curvePointsCard

/-- THE TIED CARD OF 'portcullislaw13.CurveOther'. -/
def curveOtherCard : Claim7 := { stood := { row := curveOtherRow, standIns := [], harness := (true, "86088fda1a4e56c9614350d82bdc99b7cce8fe76668ff574e7095706ce628570"), looks := false }, kinds := [], alts := [], laidByText := true, laidKinds := [.data, .data, .data, .data, .data, .data], laidTests := true, laidLooks := .later }
def CurveOtherCardSaid : Prop := Claim7.holds Tryd.pinned (.plain (OpenSpec.ofChange curveOtherSpec)) curveOtherCard

/-- THE SECOND FORM's CARD OF 'portcullislaw28.IssueSets'. -/
def issueSetsUptoCard : Claim7 := { stood := { row := issueSetsUptoRow, standIns := [], harness := (true, "86088fda1a4e56c9614350d82bdc99b7cce8fe76668ff574e7095706ce628570"), looks := false }, kinds := [], alts := [], laidByText := true, laidKinds := [.data], laidTests := true, laidLooks := .later }
def IssueSetsUptoCardSaid : Prop := Claim7.holds Tryd.pinned (.plain (OpenSpec.upto issueSetsSpec)) issueSetsUptoCard

/-- THE SECOND FORM's CARD OF 'portcullislaw13.CurvePublics'. -/
def curvePublicsUptoCard : Claim7 := { stood := { row := curvePublicsUptoRow, standIns := [], harness := (true, "86088fda1a4e56c9614350d82bdc99b7cce8fe76668ff574e7095706ce628570"), looks := false }, kinds := [], alts := [], laidByText := true, laidKinds := [.data, .data, .data, .data], laidTests := true, laidLooks := .later }
def CurvePublicsUptoCardSaid : Prop := Claim7.holds Tryd.pinned (.plain (OpenSpec.upto curvePublicsSpec)) curvePublicsUptoCard

/-- THE SECOND FORM's CARD OF 'portcullislaw13.CurveSigns'. -/
def curveSignsUptoCard : Claim7 := { stood := { row := curveSignsUptoRow, standIns := [], harness := (true, "86088fda1a4e56c9614350d82bdc99b7cce8fe76668ff574e7095706ce628570"), looks := false }, kinds := [], alts := [], laidByText := true, laidKinds := [.data, .data, .data, .data, .data], laidTests := true, laidLooks := .later }
def CurveSignsUptoCardSaid : Prop := Claim7.holds Tryd.pinned (.plain (OpenSpec.upto curveSignsSpec)) curveSignsUptoCard

/-- THE SECOND FORM's CARD OF 'portcullislaw13.CurveVerifies'. -/
def curveVerifiesUptoCard : Claim7 := { stood := { row := curveVerifiesUptoRow, standIns := [], harness := (true, "86088fda1a4e56c9614350d82bdc99b7cce8fe76668ff574e7095706ce628570"), looks := false }, kinds := [], alts := [], laidByText := true, laidKinds := [.data, .data, .data, .data, .data, .data], laidTests := true, laidLooks := .later }
def CurveVerifiesUptoCardSaid : Prop := Claim7.holds Tryd.pinned (.plain (OpenSpec.upto curveVerifiesSpec)) curveVerifiesUptoCard

/-- THE SECOND FORM's CARD OF 'portcullislaw13.CurveTurned'. -/
def curveTurnedUptoCard : Claim7 := { stood := { row := curveTurnedUptoRow, standIns := [], harness := (true, "86088fda1a4e56c9614350d82bdc99b7cce8fe76668ff574e7095706ce628570"), looks := false }, kinds := [], alts := [], laidByText := true, laidKinds := [.data, .data, .data, .data, .data, .data], laidTests := true, laidLooks := .later }
def CurveTurnedUptoCardSaid : Prop := Claim7.holds Tryd.pinned (.plain (OpenSpec.upto curveTurnedSpec)) curveTurnedUptoCard

/-- THE SECOND FORM's CARD OF 'portcullislaw13.CurvePoints'. -/
def curvePointsUptoCard : Claim7 := { stood := { row := curvePointsUptoRow, standIns := [], harness := (true, "86088fda1a4e56c9614350d82bdc99b7cce8fe76668ff574e7095706ce628570"), looks := false }, kinds := [], alts := [], laidByText := true, laidKinds := [.data, .data], laidTests := true, laidLooks := .later }
def CurvePointsUptoCardSaid : Prop := Claim7.holds Tryd.pinned (.plain (OpenSpec.upto curvePointsSpec)) curvePointsUptoCard

/-- THE SECOND FORM's CARD OF 'portcullislaw13.CurveOther'. -/
def curveOtherUptoCard : Claim7 := { stood := { row := curveOtherUptoRow, standIns := [], harness := (true, "86088fda1a4e56c9614350d82bdc99b7cce8fe76668ff574e7095706ce628570"), looks := false }, kinds := [], alts := [], laidByText := true, laidKinds := [.data, .data, .data, .data, .data, .data], laidTests := true, laidLooks := .later }
def CurveOtherUptoCardSaid : Prop := Claim7.holds Tryd.pinned (.plain (OpenSpec.upto curveOtherSpec)) curveOtherUptoCard
end Rows
end Go.Proofs.YtgnkamcockmhiaaDoor
