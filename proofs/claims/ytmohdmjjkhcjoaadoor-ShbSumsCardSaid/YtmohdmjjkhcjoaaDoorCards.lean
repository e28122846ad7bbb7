/-
  DERIVED. GIVEN WITH THE SEED: THE CARDS: each row of YtmohdmjjkhcjoaaDoorRows.lean that lists a variable, with what it lists TIED to the program's text (the seventh form; the later family's looks); each row that meets fmt, with fmt's text TOLD by the authors' own Lean function (tested against real Go, not proved from fmt's source: count such statements apart). THE CARD IS WHAT COUNTS. Prove the row's statement (the work); the ties are given (YtmohdmjjkhcjoaaDoorTie.lean); close each card by the builder's one call (the guide's Derived/Test/ToyasCard.lean, 'card_holds'). Laid BY PROGRAM, IN A SANDBOX (cutbox-door.mjs). By AI agents, Wed Nov 11 2026. No macro, syntax, notation, axiom, sorry.
-/
import Derived.Test.YtmohdmjjkhcjoaaDoorRows
import GoSem.ClaimSeven
namespace Go.Proofs.YtmohdmjjkhcjoaaDoor
namespace Rows

/-- THE TIED CARD OF 'portcullislaw6.ShbSums'. -/
def shbSumsCard : Claim7 := { stood := { row := shbSumsRow, standIns := [], harness := (true, "bae43f86dbe9728849deffc4025a01f9e34cec643895bbc50976d35cc3f3aca4"), looks := false }, kinds := [], alts := [], laidByText := true, laidKinds := [.data], laidTests := true, laidLooks := .later }
def ShbSumsCardSaid : Prop := Claim7.holds Tryd.pinned (.plain (OpenSpec.ofChange shbSumsSpec)) shbSumsCard

/-- THE TIED CARD OF 'portcullislaw6.ShbLengths'. -/
def shbLengthsCard : Claim7 := { stood := { row := shbLengthsRow, standIns := [], harness := (true, "bae43f86dbe9728849deffc4025a01f9e34cec643895bbc50976d35cc3f3aca4"), looks := false }, kinds := [], alts := [], laidByText := true, laidKinds := [.data], laidTests := true, laidLooks := .later }
def ShbLengthsCardSaid : Prop := Claim7.holds Tryd.pinned (.plain (OpenSpec.ofChange shbLengthsSpec)) shbLengthsCard

/-- THE TIED CARD OF 'portcullislaw6.ShbCuts'. -/
def shbCutsCard : Claim7 := { stood := { row := shbCutsRow, standIns := [], harness := (true, "bae43f86dbe9728849deffc4025a01f9e34cec643895bbc50976d35cc3f3aca4"), looks := false }, kinds := [], alts := [], laidByText := true, laidKinds := [.data], laidTests := true, laidLooks := .later }
def ShbCutsCardSaid : Prop := Claim7.holds Tryd.pinned (.plain (OpenSpec.ofChange shbCutsSpec)) shbCutsCard

/-- THE TIED CARD OF 'portcullislaw28.IssueSets'. -/
def issueSetsCard : Claim7 := { stood := { row := issueSetsRow, standIns := [], harness := (true, "bae43f86dbe9728849deffc4025a01f9e34cec643895bbc50976d35cc3f3aca4"), looks := false }, kinds := [], alts := [], laidByText := true, laidKinds := [.data], laidTests := true, laidLooks := .later }
def IssueSetsCardSaid : Prop := Claim7.holds Tryd.pinned (.plain (OpenSpec.ofChange issueSetsSpec)) issueSetsCard

/-- THE SECOND FORM's CARD OF 'portcullislaw6.ShbSums'. -/
def shbSumsUptoCard : Claim7 := { stood := { row := shbSumsUptoRow, standIns := [], harness := (true, "bae43f86dbe9728849deffc4025a01f9e34cec643895bbc50976d35cc3f3aca4"), looks := false }, kinds := [], alts := [], laidByText := true, laidKinds := [.data], laidTests := true, laidLooks := .later }
def ShbSumsUptoCardSaid : Prop := Claim7.holds Tryd.pinned (.plain (OpenSpec.upto shbSumsSpec)) shbSumsUptoCard

/-- THE SECOND FORM's CARD OF 'portcullislaw6.ShbLengths'. -/
def shbLengthsUptoCard : Claim7 := { stood := { row := shbLengthsUptoRow, standIns := [], harness := (true, "bae43f86dbe9728849deffc4025a01f9e34cec643895bbc50976d35cc3f3aca4"), looks := false }, kinds := [], alts := [], laidByText := true, laidKinds := [.data], laidTests := true, laidLooks := .later }
def ShbLengthsUptoCardSaid : Prop := Claim7.holds Tryd.pinned (.plain (OpenSpec.upto shbLengthsSpec)) shbLengthsUptoCard

/-- THE SECOND FORM's CARD OF 'portcullislaw6.ShbCuts'. -/
def shbCutsUptoCard : Claim7 := { stood := { row := shbCutsUptoRow, standIns := [], harness := (true, "bae43f86dbe9728849deffc4025a01f9e34cec643895bbc50976d35cc3f3aca4"), looks := false }, kinds := [], alts := [], laidByText := true, laidKinds := [.data], laidTests := true, laidLooks := .later }
def ShbCutsUptoCardSaid : Prop := Claim7.holds Tryd.pinned (.plain (OpenSpec.upto shbCutsSpec)) shbCutsUptoCard

/-- THE SECOND FORM's CARD OF 'portcullislaw28.IssueSets'. -/
def issueSetsUptoCard : Claim7 := { stood := { row := issueSetsUptoRow, standIns := [], harness := (true, "bae43f86dbe9728849deffc4025a01f9e34cec643895bbc50976d35cc3f3aca4"), looks := false }, kinds := [], alts := [], laidByText := true, laidKinds := [.data], laidTests := true, laidLooks := .later }
def IssueSetsUptoCardSaid : Prop := Claim7.holds Tryd.pinned (.plain (OpenSpec.upto issueSetsSpec)) issueSetsUptoCard
end Rows
end Go.Proofs.YtmohdmjjkhcjoaaDoor
