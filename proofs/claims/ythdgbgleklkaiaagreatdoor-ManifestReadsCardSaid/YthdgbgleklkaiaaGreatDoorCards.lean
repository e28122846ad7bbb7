/-
  DERIVED. GIVEN WITH THE SEED: THE CARDS: each row of YthdgbgleklkaiaaGreatDoorRows.lean that lists a variable, with what it lists TIED to the program's text (the seventh form; the later family's looks); each row that meets fmt, with fmt's text TOLD by the authors' own Lean function (tested against real Go, not proved from fmt's source: count such statements apart). THE CARD IS WHAT COUNTS. Prove the row's statement (the work); the ties are given (YthdgbgleklkaiaaGreatDoorTie.lean); close each card by the builder's one call (the guide's Derived/Test/ToyasCard.lean, 'card_holds'). Laid BY PROGRAM, IN A SANDBOX (cutbox-door.mjs). By AI agents, Wed Nov 11 2026. No macro, syntax, notation, axiom, sorry.
-/
import Derived.Test.YthdgbgleklkaiaaGreatDoorRows
import GoSem.ClaimSeven
namespace Go.Proofs.YthdgbgleklkaiaaGreatDoor
namespace Rows

/-- THE TIED CARD OF 'portcullislaw17.ManifestReads'. -/
def manifestReadsCard : Claim7 := { stood := { row := manifestReadsRow, standIns := [], harness := (true, "b23d698bea41b48d72bf8642366dc72792ab9e366d8936cf5725e7d3d9ee2d38"), looks := false }, kinds := [], alts := [], laidByText := true, laidKinds := [.data, .data, .data, .data, .data, .data, .data], laidTests := true, laidLooks := .later }
def ManifestReadsCardSaid : Prop := Claim7.holds Tryz.pinned (.plain (OpenSpec.ofChange manifestReadsSpec)) manifestReadsCard

/-- THE TIED CARD OF 'portcullislaw17.ManifestTurned'. -/
def manifestTurnedCard : Claim7 := { stood := { row := manifestTurnedRow, standIns := [], harness := (true, "b23d698bea41b48d72bf8642366dc72792ab9e366d8936cf5725e7d3d9ee2d38"), looks := false }, kinds := [], alts := [], laidByText := true, laidKinds := [.data, .data, .data, .data, .data, .data, .data], laidTests := true, laidLooks := .later }
def ManifestTurnedCardSaid : Prop := Claim7.holds Tryz.pinned (.plain (OpenSpec.ofChange manifestTurnedSpec)) manifestTurnedCard

/-- THE TIED CARD OF 'portcullislaw17.ManifestSigns'. -/
def manifestSignsCard : Claim7 := { stood := { row := manifestSignsRow, standIns := [], harness := (true, "b23d698bea41b48d72bf8642366dc72792ab9e366d8936cf5725e7d3d9ee2d38"), looks := false }, kinds := [], alts := [], laidByText := true, laidKinds := [.data, .data, .data, .data, .data, .data, .data], laidTests := true, laidLooks := .later }
def ManifestSignsCardSaid : Prop := Claim7.holds Tryz.pinned (.plain (OpenSpec.ofChange manifestSignsSpec)) manifestSignsCard

/-- THE TIED CARD OF 'portcullislaw17.ManifestWrong'. -/
def manifestWrongCard : Claim7 := { stood := { row := manifestWrongRow, standIns := [], harness := (true, "b23d698bea41b48d72bf8642366dc72792ab9e366d8936cf5725e7d3d9ee2d38"), looks := false }, kinds := [], alts := [], laidByText := true, laidKinds := [.data, .data, .data, .data, .data, .data, .data], laidTests := true, laidLooks := .later }
def ManifestWrongCardSaid : Prop := Claim7.holds Tryz.pinned (.plain (OpenSpec.ofChange manifestWrongSpec)) manifestWrongCard

/-- THE TIED CARD OF 'portcullislaw28.IssueMakes'. -/
def issueMakesCard : Claim7 := { stood := { row := issueMakesRow, standIns := [], harness := (true, "b23d698bea41b48d72bf8642366dc72792ab9e366d8936cf5725e7d3d9ee2d38"), looks := false }, kinds := [], alts := [], laidByText := true, laidKinds := [.data, .data, .data, .data, .data, .data, .data], laidTests := true, laidLooks := .later }
def IssueMakesCardSaid : Prop := Claim7.holds Tryz.pinned (.plain (OpenSpec.ofChange issueMakesSpec)) issueMakesCard

/-- THE TIED CARD OF 'portcullislaw28.IssueRight'. -/
def issueRightCard : Claim7 := { stood := { row := issueRightRow, standIns := [], harness := (true, "b23d698bea41b48d72bf8642366dc72792ab9e366d8936cf5725e7d3d9ee2d38"), looks := false }, kinds := [], alts := [], laidByText := true, laidKinds := [.data, .data, .data, .data, .data, .data, .data], laidTests := true, laidLooks := .later }
def IssueRightCardSaid : Prop := Claim7.holds Tryz.pinned (.plain (OpenSpec.ofChange issueRightSpec)) issueRightCard

/-- THE TIED CARD OF 'portcullislaw28.IssueWrong'. -/
def issueWrongCard : Claim7 := { stood := { row := issueWrongRow, standIns := [], harness := (true, "b23d698bea41b48d72bf8642366dc72792ab9e366d8936cf5725e7d3d9ee2d38"), looks := false }, kinds := [], alts := [], laidByText := true, laidKinds := [.data], laidTests := true, laidLooks := .later }
def IssueWrongCardSaid : Prop := Claim7.holds Tryz.pinned (.plain (OpenSpec.ofChange issueWrongSpec)) issueWrongCard

/-- THE SECOND FORM's CARD OF 'portcullislaw17.ManifestReads'. -/
def manifestReadsUptoCard : Claim7 := { stood := { row := manifestReadsUptoRow, standIns := [], harness := (true, "b23d698bea41b48d72bf8642366dc72792ab9e366d8936cf5725e7d3d9ee2d38"), looks := false }, kinds := [], alts := [], laidByText := true, laidKinds := [.data, .data, .data, .data, .data, .data, .data], laidTests := true, laidLooks := .later }
def ManifestReadsUptoCardSaid : Prop := Claim7.holds Tryz.pinned (.plain (OpenSpec.upto manifestReadsSpec)) manifestReadsUptoCard

/-- THE SECOND FORM's CARD OF 'portcullislaw17.ManifestTurned'. -/
def manifestTurnedUptoCard : Claim7 := { stood := { row := manifestTurnedUptoRow, standIns := [], harness := (true, "b23d698bea41b48d72bf8642366dc72792ab9e366d8936cf5725e7d3d9ee2d38"), looks := false }, kinds := [], alts := [], laidByText := true, laidKinds := [.data, .data, .data, .data, .data, .data, .data], laidTests := true, laidLooks := .later }
def ManifestTurnedUptoCardSaid : Prop := Claim7.holds Tryz.pinned (.plain (OpenSpec.upto manifestTurnedSpec)) manifestTurnedUptoCard

/-- THE SECOND FORM's CARD OF 'portcullislaw17.ManifestSigns'. -/
def manifestSignsUptoCard : Claim7 := { stood := { row := manifestSignsUptoRow, standIns := [], harness := (true, "b23d698bea41b48d72bf8642366dc72792ab9e366d8936cf5725e7d3d9ee2d38"), looks := false }, kinds := [], alts := [], laidByText := true, laidKinds := [.data, .data, .data, .data, .data, .data, .data], laidTests := true, laidLooks := .later }
def ManifestSignsUptoCardSaid : Prop := Claim7.holds Tryz.pinned (.plain (OpenSpec.upto manifestSignsSpec)) manifestSignsUptoCard

/-- THE SECOND FORM's CARD OF 'portcullislaw17.ManifestWrong'. -/
def manifestWrongUptoCard : Claim7 := { stood := { row := manifestWrongUptoRow, standIns := [], harness := (true, "b23d698bea41b48d72bf8642366dc72792ab9e366d8936cf5725e7d3d9ee2d38"), looks := false }, kinds := [], alts := [], laidByText := true, laidKinds := [.data, .data, .data, .data, .data, .data, .data], laidTests := true, laidLooks := .later }
def ManifestWrongUptoCardSaid : Prop := Claim7.holds Tryz.pinned (.plain (OpenSpec.upto manifestWrongSpec)) manifestWrongUptoCard

/-- THE SECOND FORM's CARD OF 'portcullislaw28.IssueMakes'. -/
def issueMakesUptoCard : Claim7 := { stood := { row := issueMakesUptoRow, standIns := [], harness := (true, "b23d698bea41b48d72bf8642366dc72792ab9e366d8936cf5725e7d3d9ee2d38"), looks := false }, kinds := [], alts := [], laidByText := true, laidKinds := [.data, .data, .data, .data, .data, .data, .data], laidTests := true, laidLooks := .later }
def IssueMakesUptoCardSaid : Prop := Claim7.holds Tryz.pinned (.plain (OpenSpec.upto issueMakesSpec)) issueMakesUptoCard

/-- THE SECOND FORM's CARD OF 'portcullislaw28.IssueRight'. -/
def issueRightUptoCard : Claim7 := { stood := { row := issueRightUptoRow, standIns := [], harness := (true, "b23d698bea41b48d72bf8642366dc72792ab9e366d8936cf5725e7d3d9ee2d38"), looks := false }, kinds := [], alts := [], laidByText := true, laidKinds := [.data, .data, .data, .data, .data, .data, .data], laidTests := true, laidLooks := .later }
def IssueRightUptoCardSaid : Prop := Claim7.holds Tryz.pinned (.plain (OpenSpec.upto issueRightSpec)) issueRightUptoCard

/-- THE SECOND FORM's CARD OF 'portcullislaw28.IssueWrong'. -/
def issueWrongUptoCard : Claim7 := { stood := { row := issueWrongUptoRow, standIns := [], harness := (true, "b23d698bea41b48d72bf8642366dc72792ab9e366d8936cf5725e7d3d9ee2d38"), looks := false }, kinds := [], alts := [], laidByText := true, laidKinds := [.data], laidTests := true, laidLooks := .later }
def IssueWrongUptoCardSaid : Prop := Claim7.holds Tryz.pinned (.plain (OpenSpec.upto issueWrongSpec)) issueWrongUptoCard
end Rows
end Go.Proofs.YthdgbgleklkaiaaGreatDoor
