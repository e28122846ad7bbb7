/-
  DERIVED. GIVEN WITH THE SEED: THE CARDS: each row of YtjbgcbmgjdkpgaaDoorRows.lean that lists a variable, with what it lists TIED to the program's text (the seventh form; the later family's looks); each row that meets fmt, with fmt's text TOLD by the authors' own Lean function (tested against real Go, not proved from fmt's source: count such statements apart). THE CARD IS WHAT COUNTS. Prove the row's statement (the work); the ties are given (YtjbgcbmgjdkpgaaDoorTie.lean); close each card by the builder's one call (the guide's Derived/Test/ToyasCard.lean, 'card_holds'). Laid BY PROGRAM, IN A SANDBOX (cutbox-door.mjs). By AI agents, Wed Nov 11 2026. No macro, syntax, notation, axiom, sorry.
-/
import Derived.Test.YtjbgcbmgjdkpgaaDoorRows
import GoSem.ClaimSeven
namespace Go.Proofs.YtjbgcbmgjdkpgaaDoor
namespace Rows

/-- THE TIED CARD OF 'portcullislaw13.CurveVerifies'. -/
def curveVerifiesCard : Claim7 := { stood := { row := curveVerifiesRow, standIns := [], harness := (true, "dcaff71fdd2dbe55fc5b9bf0f7274fb9c89a784df4b6108c6b18e7bda17eef8b"), looks := false }, kinds := [], alts := [], laidByText := true, laidKinds := [.data, .data, .data, .data, .data, .data], laidTests := true, laidLooks := .later }
def CurveVerifiesCardSaid : Prop := Claim7.holds Tryd.pinned (.plain (OpenSpec.ofChange curveVerifiesSpec)) curveVerifiesCard

/-- THE TIED CARD OF 'portcullislaw13.CurveTurned'. -/
def curveTurnedCard : Claim7 := { stood := { row := curveTurnedRow, standIns := [], harness := (true, "dcaff71fdd2dbe55fc5b9bf0f7274fb9c89a784df4b6108c6b18e7bda17eef8b"), looks := false }, kinds := [], alts := [], laidByText := true, laidKinds := [.data, .data, .data, .data, .data, .data], laidTests := true, laidLooks := .later }
def CurveTurnedCardSaid : Prop := Claim7.holds Tryd.pinned (.plain (OpenSpec.ofChange curveTurnedSpec)) curveTurnedCard

/-- THE TIED CARD OF 'portcullislaw13.CurvePoints'. -/
def curvePointsCard : Claim7 := { stood := { row := curvePointsRow, standIns := [], harness := (true, "dcaff71fdd2dbe55fc5b9bf0f7274fb9c89a784df4b6108c6b18e7bda17eef8b"), looks := false }, kinds := [], alts := [], laidByText := true, laidKinds := [.data, .data], laidTests := true, laidLooks := .later }
def CurvePointsCardSaid : Prop := Claim7.holds Tryd.pinned (.plain (OpenSpec.ofChange curvePointsSpec)) curvePointsCard

/-- THE TIED CARD OF 'portcullislaw13.CurveOther'. -/
def curveOtherCard : Claim7 := { stood := { row := curveOtherRow, standIns := [], harness := (true, "dcaff71fdd2dbe55fc5b9bf0f7274fb9c89a784df4b6108c6b18e7bda17eef8b"), looks := false }, kinds := [], alts := [], laidByText := true, laidKinds := [.data, .data, .data, .data, .data, .data], laidTests := true, laidLooks := .later }
def CurveOtherCardSaid : Prop := Claim7.holds Tryd.pinned (.plain (OpenSpec.ofChange curveOtherSpec)) curveOtherCard

/-- THE TIED CARD OF 'portcullislaw14.WrapWraps'. -/
def wrapWrapsCard : Claim7 := { stood := { row := wrapWrapsRow, standIns := [], harness := (true, "dcaff71fdd2dbe55fc5b9bf0f7274fb9c89a784df4b6108c6b18e7bda17eef8b"), looks := false }, kinds := [], alts := [], laidByText := true, laidKinds := [.data], laidTests := true, laidLooks := .later }
def WrapWrapsCardSaid : Prop := Claim7.holds Tryd.pinned (.plain (OpenSpec.ofChange wrapWrapsSpec)) wrapWrapsCard

/-- THE TIED CARD OF 'portcullislaw14.WrapOpens'. -/
def wrapOpensCard : Claim7 := { stood := { row := wrapOpensRow, standIns := [], harness := (true, "dcaff71fdd2dbe55fc5b9bf0f7274fb9c89a784df4b6108c6b18e7bda17eef8b"), looks := false }, kinds := [], alts := [], laidByText := true, laidKinds := [.data], laidTests := true, laidLooks := .later }
def WrapOpensCardSaid : Prop := Claim7.holds Tryd.pinned (.plain (OpenSpec.ofChange wrapOpensSpec)) wrapOpensCard

/-- THE SECOND FORM's CARD OF 'portcullislaw13.CurveVerifies'. -/
def curveVerifiesUptoCard : Claim7 := { stood := { row := curveVerifiesUptoRow, standIns := [], harness := (true, "dcaff71fdd2dbe55fc5b9bf0f7274fb9c89a784df4b6108c6b18e7bda17eef8b"), looks := false }, kinds := [], alts := [], laidByText := true, laidKinds := [.data, .data, .data, .data, .data, .data], laidTests := true, laidLooks := .later }
def CurveVerifiesUptoCardSaid : Prop := Claim7.holds Tryd.pinned (.plain (OpenSpec.upto curveVerifiesSpec)) curveVerifiesUptoCard

/-- THE SECOND FORM's CARD OF 'portcullislaw13.CurveTurned'. -/
def curveTurnedUptoCard : Claim7 := { stood := { row := curveTurnedUptoRow, standIns := [], harness := (true, "dcaff71fdd2dbe55fc5b9bf0f7274fb9c89a784df4b6108c6b18e7bda17eef8b"), looks := false }, kinds := [], alts := [], laidByText := true, laidKinds := [.data, .data, .data, .data, .data, .data], laidTests := true, laidLooks := .later }
def CurveTurnedUptoCardSaid : Prop := Claim7.holds Tryd.pinned (.plain (OpenSpec.upto curveTurnedSpec)) curveTurnedUptoCard

/-- THE SECOND FORM's CARD OF 'portcullislaw13.CurvePoints'. -/
def curvePointsUptoCard : Claim7 := { stood := { row := curvePointsUptoRow, standIns := [], harness := (true, "dcaff71fdd2dbe55fc5b9bf0f7274fb9c89a784df4b6108c6b18e7bda17eef8b"), looks := false }, kinds := [], alts := [], laidByText := true, laidKinds := [.data, .data], laidTests := true, laidLooks := .later }
def CurvePointsUptoCardSaid : Prop := Claim7.holds Tryd.pinned (.plain (OpenSpec.upto curvePointsSpec)) curvePointsUptoCard

/-- THE SECOND FORM's CARD OF 'portcullislaw13.CurveOther'. -/
def curveOtherUptoCard : Claim7 := { stood := { row := curveOtherUptoRow, standIns := [], harness := (true, "dcaff71fdd2dbe55fc5b9bf0f7274fb9c89a784df4b6108c6b18e7bda17eef8b"), looks := false }, kinds := [], alts := [], laidByText := true, laidKinds := [.data, .data, .data, .data, .data, .data], laidTests := true, laidLooks := .later }
def CurveOtherUptoCardSaid : Prop := Claim7.holds Tryd.pinned (.plain (OpenSpec.upto curveOtherSpec)) curveOtherUptoCard

/-- THE SECOND FORM's CARD OF 'portcullislaw14.WrapWraps'. -/
def wrapWrapsUptoCard : Claim7 := { stood := { row := wrapWrapsUptoRow, standIns := [], harness := (true, "dcaff71fdd2dbe55fc5b9bf0f7274fb9c89a784df4b6108c6b18e7bda17eef8b"), looks := false }, kinds := [], alts := [], laidByText := true, laidKinds := [.data], laidTests := true, laidLooks := .later }
def WrapWrapsUptoCardSaid : Prop := Claim7.holds Tryd.pinned (.plain (OpenSpec.upto wrapWrapsSpec)) wrapWrapsUptoCard

/-- THE SECOND FORM's CARD OF 'portcullislaw14.WrapOpens'. -/
def wrapOpensUptoCard : Claim7 := { stood := { row := wrapOpensUptoRow, standIns := [], harness := (true, "dcaff71fdd2dbe55fc5b9bf0f7274fb9c89a784df4b6108c6b18e7bda17eef8b"), looks := false }, kinds := [], alts := [], laidByText := true, laidKinds := [.data], laidTests := true, laidLooks := .later }
def WrapOpensUptoCardSaid : Prop := Claim7.holds Tryd.pinned (.plain (OpenSpec.upto wrapOpensSpec)) wrapOpensUptoCard
end Rows
end Go.Proofs.YtjbgcbmgjdkpgaaDoor
