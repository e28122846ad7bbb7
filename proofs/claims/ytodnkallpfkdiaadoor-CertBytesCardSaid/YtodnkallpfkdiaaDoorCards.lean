/-
  DERIVED. GIVEN WITH THE SEED: THE CARDS: each row of YtodnkallpfkdiaaDoorRows.lean that lists a variable, with what it lists TIED to the program's text (the seventh form; the later family's looks); each row that meets fmt, with fmt's text TOLD by the authors' own Lean function (tested against real Go, not proved from fmt's source: count such statements apart). THE CARD IS WHAT COUNTS. Prove the row's statement (the work); the ties are given (YtodnkallpfkdiaaDoorTie.lean); close each card by the builder's one call (the guide's Derived/Test/ToyasCard.lean, 'card_holds'). Laid BY PROGRAM, IN A SANDBOX (cutbox-door.mjs). By AI agents, Wed Nov 11 2026. No macro, syntax, notation, axiom, sorry.
-/
import Derived.Test.YtodnkallpfkdiaaDoorRows
import GoSem.ClaimSeven
namespace Go.Proofs.YtodnkallpfkdiaaDoor
namespace Rows

/-- THE TIED CARD OF 'portcullislaw17.ManifestCuts'. -/
def manifestCutsCard : Claim7 := { stood := { row := manifestCutsRow, standIns := [], harness := (true, "2ef80421d3ceb126fcca3ad62b411917ca4fd3c26750f123a8172b24ac255073"), looks := false }, kinds := [], alts := [], laidByText := true, laidKinds := [.data, .data, .data, .data, .data, .data, .data], laidTests := true, laidLooks := .later }
def ManifestCutsCardSaid : Prop := Claim7.holds Tryd.pinned (.plain (OpenSpec.ofChange manifestCutsSpec)) manifestCutsCard

/-- THE TIED CARD OF 'portcullislaw17.ManifestPacks'. -/
def manifestPacksCard : Claim7 := { stood := { row := manifestPacksRow, standIns := [], harness := (true, "2ef80421d3ceb126fcca3ad62b411917ca4fd3c26750f123a8172b24ac255073"), looks := false }, kinds := [], alts := [], laidByText := true, laidKinds := [.data, .data, .data, .data, .data, .data, .data], laidTests := true, laidLooks := .later }
def ManifestPacksCardSaid : Prop := Claim7.holds Tryd.pinned (.plain (OpenSpec.ofChange manifestPacksSpec)) manifestPacksCard

/-- THE TIED CARD OF 'portcullislaw16.CertSigns'. -/
def certSignsCard : Claim7 := { stood := { row := certSignsRow, standIns := [], harness := (true, "2ef80421d3ceb126fcca3ad62b411917ca4fd3c26750f123a8172b24ac255073"), looks := false }, kinds := [], alts := [], laidByText := true, laidKinds := [.data, .data, .data, .data, .data, .data], laidTests := true, laidLooks := .later }
def CertSignsCardSaid : Prop := Claim7.holds Tryd.pinned (.plain (OpenSpec.ofChange certSignsSpec)) certSignsCard

/-- THE TIED CARD OF 'portcullislaw16.CertChecks'. -/
def certChecksCard : Claim7 := { stood := { row := certChecksRow, standIns := [], harness := (true, "2ef80421d3ceb126fcca3ad62b411917ca4fd3c26750f123a8172b24ac255073"), looks := false }, kinds := [], alts := [], laidByText := true, laidKinds := [.data, .data, .data, .data, .data, .data], laidTests := true, laidLooks := .later }
def CertChecksCardSaid : Prop := Claim7.holds Tryd.pinned (.plain (OpenSpec.ofChange certChecksSpec)) certChecksCard

/-- THE TIED CARD OF 'portcullislaw16.CertTurned'. -/
def certTurnedCard : Claim7 := { stood := { row := certTurnedRow, standIns := [], harness := (true, "2ef80421d3ceb126fcca3ad62b411917ca4fd3c26750f123a8172b24ac255073"), looks := false }, kinds := [], alts := [], laidByText := true, laidKinds := [.data, .data, .data, .data, .data, .data], laidTests := true, laidLooks := .later }
def CertTurnedCardSaid : Prop := Claim7.holds Tryd.pinned (.plain (OpenSpec.ofChange certTurnedSpec)) certTurnedCard

/-- THE TIED CARD OF 'portcullislaw16.CertReads'. -/
def certReadsCard : Claim7 := { stood := { row := certReadsRow, standIns := [], harness := (true, "2ef80421d3ceb126fcca3ad62b411917ca4fd3c26750f123a8172b24ac255073"), looks := false }, kinds := [], alts := [], laidByText := true, laidKinds := [.data, .data, .data, .data], laidTests := true, laidLooks := .later }
def CertReadsCardSaid : Prop := Claim7.holds Tryd.pinned (.plain (OpenSpec.ofChange certReadsSpec)) certReadsCard

/-- THE TIED CARD OF 'portcullislaw16.CertBytes'. -/
def certBytesCard : Claim7 := { stood := { row := certBytesRow, standIns := [], harness := (true, "2ef80421d3ceb126fcca3ad62b411917ca4fd3c26750f123a8172b24ac255073"), looks := false }, kinds := [], alts := [], laidByText := true, laidKinds := [.data, .data, .data, .data], laidTests := true, laidLooks := .later }
def CertBytesCardSaid : Prop := Claim7.holds Tryd.pinned (.plain (OpenSpec.ofChange certBytesSpec)) certBytesCard

/-- THE TIED CARD OF 'portcullislaw16.CertNone'. -/
def certNoneCard : Claim7 := { stood := { row := certNoneRow, standIns := [], harness := (true, "2ef80421d3ceb126fcca3ad62b411917ca4fd3c26750f123a8172b24ac255073"), looks := false }, kinds := [], alts := [], laidByText := true, laidKinds := [.data, .data, .data, .data, .data], laidTests := true, laidLooks := .later }
def CertNoneCardSaid : Prop := Claim7.holds Tryd.pinned (.plain (OpenSpec.ofChange certNoneSpec)) certNoneCard

/-- THE TIED CARD OF 'portcullislaw16.CertStops'. -/
def certStopsCard : Claim7 := { stood := { row := certStopsRow, standIns := [], harness := (true, "2ef80421d3ceb126fcca3ad62b411917ca4fd3c26750f123a8172b24ac255073"), looks := false }, kinds := [], alts := [], laidByText := true, laidKinds := [.data, .data, .data, .data, .data], laidTests := true, laidLooks := .later }
def CertStopsCardSaid : Prop := Claim7.holds Tryd.pinned (.plain (OpenSpec.ofChange certStopsSpec)) certStopsCard

/-- THE SECOND FORM's CARD OF 'portcullislaw17.ManifestCuts'. -/
def manifestCutsUptoCard : Claim7 := { stood := { row := manifestCutsUptoRow, standIns := [], harness := (true, "2ef80421d3ceb126fcca3ad62b411917ca4fd3c26750f123a8172b24ac255073"), looks := false }, kinds := [], alts := [], laidByText := true, laidKinds := [.data, .data, .data, .data, .data, .data, .data], laidTests := true, laidLooks := .later }
def ManifestCutsUptoCardSaid : Prop := Claim7.holds Tryd.pinned (.plain (OpenSpec.upto manifestCutsSpec)) manifestCutsUptoCard

/-- THE SECOND FORM's CARD OF 'portcullislaw17.ManifestPacks'. -/
def manifestPacksUptoCard : Claim7 := { stood := { row := manifestPacksUptoRow, standIns := [], harness := (true, "2ef80421d3ceb126fcca3ad62b411917ca4fd3c26750f123a8172b24ac255073"), looks := false }, kinds := [], alts := [], laidByText := true, laidKinds := [.data, .data, .data, .data, .data, .data, .data], laidTests := true, laidLooks := .later }
def ManifestPacksUptoCardSaid : Prop := Claim7.holds Tryd.pinned (.plain (OpenSpec.upto manifestPacksSpec)) manifestPacksUptoCard

/-- THE SECOND FORM's CARD OF 'portcullislaw16.CertSigns'. -/
def certSignsUptoCard : Claim7 := { stood := { row := certSignsUptoRow, standIns := [], harness := (true, "2ef80421d3ceb126fcca3ad62b411917ca4fd3c26750f123a8172b24ac255073"), looks := false }, kinds := [], alts := [], laidByText := true, laidKinds := [.data, .data, .data, .data, .data, .data], laidTests := true, laidLooks := .later }
def CertSignsUptoCardSaid : Prop := Claim7.holds Tryd.pinned (.plain (OpenSpec.upto certSignsSpec)) certSignsUptoCard

/-- THE SECOND FORM's CARD OF 'portcullislaw16.CertChecks'. -/
def certChecksUptoCard : Claim7 := { stood := { row := certChecksUptoRow, standIns := [], harness := (true, "2ef80421d3ceb126fcca3ad62b411917ca4fd3c26750f123a8172b24ac255073"), looks := false }, kinds := [], alts := [], laidByText := true, laidKinds := [.data, .data, .data, .data, .data, .data], laidTests := true, laidLooks := .later }
def CertChecksUptoCardSaid : Prop := Claim7.holds Tryd.pinned (.plain (OpenSpec.upto certChecksSpec)) certChecksUptoCard

/-- THE SECOND FORM's CARD OF 'portcullislaw16.CertTurned'. -/
def certTurnedUptoCard : Claim7 := { stood := { row := certTurnedUptoRow, standIns := [], harness := (true, "2ef80421d3ceb126fcca3ad62b411917ca4fd3c26750f123a8172b24ac255073"), looks := false }, kinds := [], alts := [], laidByText := true, laidKinds := [.data, .data, .data, .data, .data, .data], laidTests := true, laidLooks := .later }
def CertTurnedUptoCardSaid : Prop := Claim7.holds Tryd.pinned (.plain (OpenSpec.upto certTurnedSpec)) certTurnedUptoCard

/-- THE SECOND FORM's CARD OF 'portcullislaw16.CertReads'. -/
def certReadsUptoCard : Claim7 := { stood := { row := certReadsUptoRow, standIns := [], harness := (true, "2ef80421d3ceb126fcca3ad62b411917ca4fd3c26750f123a8172b24ac255073"), looks := false }, kinds := [], alts := [], laidByText := true, laidKinds := [.data, .data, .data, .data], laidTests := true, laidLooks := .later }
def CertReadsUptoCardSaid : Prop := Claim7.holds Tryd.pinned (.plain (OpenSpec.upto certReadsSpec)) certReadsUptoCard

/-- THE SECOND FORM's CARD OF 'portcullislaw16.CertBytes'. -/
def certBytesUptoCard : Claim7 := { stood := { row := certBytesUptoRow, standIns := [], harness := (true, "2ef80421d3ceb126fcca3ad62b411917ca4fd3c26750f123a8172b24ac255073"), looks := false }, kinds := [], alts := [], laidByText := true, laidKinds := [.data, .data, .data, .data], laidTests := true, laidLooks := .later }
def CertBytesUptoCardSaid : Prop := Claim7.holds Tryd.pinned (.plain (OpenSpec.upto certBytesSpec)) certBytesUptoCard

/-- THE SECOND FORM's CARD OF 'portcullislaw16.CertNone'. -/
def certNoneUptoCard : Claim7 := { stood := { row := certNoneUptoRow, standIns := [], harness := (true, "2ef80421d3ceb126fcca3ad62b411917ca4fd3c26750f123a8172b24ac255073"), looks := false }, kinds := [], alts := [], laidByText := true, laidKinds := [.data, .data, .data, .data, .data], laidTests := true, laidLooks := .later }
def CertNoneUptoCardSaid : Prop := Claim7.holds Tryd.pinned (.plain (OpenSpec.upto certNoneSpec)) certNoneUptoCard

/-- THE SECOND FORM's CARD OF 'portcullislaw16.CertStops'. -/
def certStopsUptoCard : Claim7 := { stood := { row := certStopsUptoRow, standIns := [], harness := (true, "2ef80421d3ceb126fcca3ad62b411917ca4fd3c26750f123a8172b24ac255073"), looks := false }, kinds := [], alts := [], laidByText := true, laidKinds := [.data, .data, .data, .data, .data], laidTests := true, laidLooks := .later }
def CertStopsUptoCardSaid : Prop := Claim7.holds Tryd.pinned (.plain (OpenSpec.upto certStopsSpec)) certStopsUptoCard
end Rows
end Go.Proofs.YtodnkallpfkdiaaDoor
