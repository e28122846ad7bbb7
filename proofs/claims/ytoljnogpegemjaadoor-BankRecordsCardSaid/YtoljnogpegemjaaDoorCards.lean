/-
  DERIVED. GIVEN WITH THE SEED: THE CARDS: each row of YtoljnogpegemjaaDoorRows.lean that lists a variable, with what it lists TIED to the program's text (the seventh form; the later family's looks); each row that meets fmt, with fmt's text TOLD by the authors' own Lean function (tested against real Go, not proved from fmt's source: count such statements apart). THE CARD IS WHAT COUNTS. Prove the row's statement (the work); the ties are given (YtoljnogpegemjaaDoorTie.lean); close each card by the builder's one call (the guide's Derived/Test/ToyasCard.lean, 'card_holds'). Laid BY PROGRAM, IN A SANDBOX (cutbox-door.mjs). By AI agents, Wed Nov 11 2026. No macro, syntax, notation, axiom, sorry.
-/
import Derived.Test.YtoljnogpegemjaaDoorRows
import GoSem.ClaimSeven
namespace Go.Proofs.YtoljnogpegemjaaDoor
namespace Rows

/-- THE TIED CARD OF 'portcullislaw17.ManifestCuts'. -/
def manifestCutsCard : Claim7 := { stood := { row := manifestCutsRow, standIns := [], harness := (true, "88bc9f73021e91e3900b44babf148d891e6608503fc2a3763bb6628df4900653"), looks := false }, kinds := [], alts := [], laidByText := true, laidKinds := [.data, .data, .data, .data, .data, .data, .data], laidTests := true, laidLooks := .later }
def ManifestCutsCardSaid : Prop := Claim7.holds Tryd.pinned (.plain (OpenSpec.ofChange manifestCutsSpec)) manifestCutsCard

/-- THE TIED CARD OF 'portcullislaw17.ManifestPacks'. -/
def manifestPacksCard : Claim7 := { stood := { row := manifestPacksRow, standIns := [], harness := (true, "88bc9f73021e91e3900b44babf148d891e6608503fc2a3763bb6628df4900653"), looks := false }, kinds := [], alts := [], laidByText := true, laidKinds := [.data, .data, .data, .data, .data, .data, .data], laidTests := true, laidLooks := .later }
def ManifestPacksCardSaid : Prop := Claim7.holds Tryd.pinned (.plain (OpenSpec.ofChange manifestPacksSpec)) manifestPacksCard

/-- THE TIED CARD OF 'portcullislaw21.BankRecords'. -/
def bankRecordsCard : Claim7 := { stood := { row := bankRecordsRow, standIns := [], harness := (true, "88bc9f73021e91e3900b44babf148d891e6608503fc2a3763bb6628df4900653"), looks := false }, kinds := [], alts := [], laidByText := true, laidKinds := [.data], laidTests := true, laidLooks := .later }
def BankRecordsCardSaid : Prop := Claim7.holds Tryd.pinned (.plain (OpenSpec.ofChange bankRecordsSpec)) bankRecordsCard

/-- THE TIED CARD OF 'portcullislaw21.BankTurned'. -/
def bankTurnedCard : Claim7 := { stood := { row := bankTurnedRow, standIns := [], harness := (true, "88bc9f73021e91e3900b44babf148d891e6608503fc2a3763bb6628df4900653"), looks := false }, kinds := [], alts := [], laidByText := true, laidKinds := [.data], laidTests := true, laidLooks := .later }
def BankTurnedCardSaid : Prop := Claim7.holds Tryd.pinned (.plain (OpenSpec.ofChange bankTurnedSpec)) bankTurnedCard

/-- THE TIED CARD OF 'portcullislaw21.BankReplays'. -/
def bankReplaysCard : Claim7 := { stood := { row := bankReplaysRow, standIns := [], harness := (true, "88bc9f73021e91e3900b44babf148d891e6608503fc2a3763bb6628df4900653"), looks := false }, kinds := [], alts := [], laidByText := true, laidKinds := [.data], laidTests := true, laidLooks := .later }
def BankReplaysCardSaid : Prop := Claim7.holds Tryd.pinned (.plain (OpenSpec.ofChange bankReplaysSpec)) bankReplaysCard

/-- THE TIED CARD OF 'portcullislaw21.BankPlays'. -/
def bankPlaysCard : Claim7 := { stood := { row := bankPlaysRow, standIns := [], harness := (true, "88bc9f73021e91e3900b44babf148d891e6608503fc2a3763bb6628df4900653"), looks := false }, kinds := [], alts := [], laidByText := true, laidKinds := [.data], laidTests := true, laidLooks := .later }
def BankPlaysCardSaid : Prop := Claim7.holds Tryd.pinned (.plain (OpenSpec.ofChange bankPlaysSpec)) bankPlaysCard

/-- THE TIED CARD OF 'portcullislaw25.VerityReads'. -/
def verityReadsCard : Claim7 := { stood := { row := verityReadsRow, standIns := [], harness := (true, "88bc9f73021e91e3900b44babf148d891e6608503fc2a3763bb6628df4900653"), looks := false }, kinds := [], alts := [], laidByText := true, laidKinds := [.data], laidTests := true, laidLooks := .later }
def VerityReadsCardSaid : Prop := Claim7.holds Tryd.pinned (.plain (OpenSpec.ofChange verityReadsSpec)) verityReadsCard

/-- THE SECOND FORM's CARD OF 'portcullislaw17.ManifestCuts'. -/
def manifestCutsUptoCard : Claim7 := { stood := { row := manifestCutsUptoRow, standIns := [], harness := (true, "88bc9f73021e91e3900b44babf148d891e6608503fc2a3763bb6628df4900653"), looks := false }, kinds := [], alts := [], laidByText := true, laidKinds := [.data, .data, .data, .data, .data, .data, .data], laidTests := true, laidLooks := .later }
def ManifestCutsUptoCardSaid : Prop := Claim7.holds Tryd.pinned (.plain (OpenSpec.upto manifestCutsSpec)) manifestCutsUptoCard

/-- THE SECOND FORM's CARD OF 'portcullislaw17.ManifestPacks'. -/
def manifestPacksUptoCard : Claim7 := { stood := { row := manifestPacksUptoRow, standIns := [], harness := (true, "88bc9f73021e91e3900b44babf148d891e6608503fc2a3763bb6628df4900653"), looks := false }, kinds := [], alts := [], laidByText := true, laidKinds := [.data, .data, .data, .data, .data, .data, .data], laidTests := true, laidLooks := .later }
def ManifestPacksUptoCardSaid : Prop := Claim7.holds Tryd.pinned (.plain (OpenSpec.upto manifestPacksSpec)) manifestPacksUptoCard

/-- THE SECOND FORM's CARD OF 'portcullislaw21.BankRecords'. -/
def bankRecordsUptoCard : Claim7 := { stood := { row := bankRecordsUptoRow, standIns := [], harness := (true, "88bc9f73021e91e3900b44babf148d891e6608503fc2a3763bb6628df4900653"), looks := false }, kinds := [], alts := [], laidByText := true, laidKinds := [.data], laidTests := true, laidLooks := .later }
def BankRecordsUptoCardSaid : Prop := Claim7.holds Tryd.pinned (.plain (OpenSpec.upto bankRecordsSpec)) bankRecordsUptoCard

/-- THE SECOND FORM's CARD OF 'portcullislaw21.BankTurned'. -/
def bankTurnedUptoCard : Claim7 := { stood := { row := bankTurnedUptoRow, standIns := [], harness := (true, "88bc9f73021e91e3900b44babf148d891e6608503fc2a3763bb6628df4900653"), looks := false }, kinds := [], alts := [], laidByText := true, laidKinds := [.data], laidTests := true, laidLooks := .later }
def BankTurnedUptoCardSaid : Prop := Claim7.holds Tryd.pinned (.plain (OpenSpec.upto bankTurnedSpec)) bankTurnedUptoCard

/-- THE SECOND FORM's CARD OF 'portcullislaw21.BankReplays'. -/
def bankReplaysUptoCard : Claim7 := { stood := { row := bankReplaysUptoRow, standIns := [], harness := (true, "88bc9f73021e91e3900b44babf148d891e6608503fc2a3763bb6628df4900653"), looks := false }, kinds := [], alts := [], laidByText := true, laidKinds := [.data], laidTests := true, laidLooks := .later }
def BankReplaysUptoCardSaid : Prop := Claim7.holds Tryd.pinned (.plain (OpenSpec.upto bankReplaysSpec)) bankReplaysUptoCard

/-- THE SECOND FORM's CARD OF 'portcullislaw21.BankPlays'. -/
def bankPlaysUptoCard : Claim7 := { stood := { row := bankPlaysUptoRow, standIns := [], harness := (true, "88bc9f73021e91e3900b44babf148d891e6608503fc2a3763bb6628df4900653"), looks := false }, kinds := [], alts := [], laidByText := true, laidKinds := [.data], laidTests := true, laidLooks := .later }
def BankPlaysUptoCardSaid : Prop := Claim7.holds Tryd.pinned (.plain (OpenSpec.upto bankPlaysSpec)) bankPlaysUptoCard

/-- THE SECOND FORM's CARD OF 'portcullislaw25.VerityReads'. -/
def verityReadsUptoCard : Claim7 := { stood := { row := verityReadsUptoRow, standIns := [], harness := (true, "88bc9f73021e91e3900b44babf148d891e6608503fc2a3763bb6628df4900653"), looks := false }, kinds := [], alts := [], laidByText := true, laidKinds := [.data], laidTests := true, laidLooks := .later }
def VerityReadsUptoCardSaid : Prop := Claim7.holds Tryd.pinned (.plain (OpenSpec.upto verityReadsSpec)) verityReadsUptoCard
end Rows
end Go.Proofs.YtoljnogpegemjaaDoor
