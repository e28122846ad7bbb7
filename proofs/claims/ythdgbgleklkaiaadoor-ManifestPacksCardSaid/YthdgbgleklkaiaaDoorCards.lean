/-
  DERIVED. GIVEN WITH THE SEED: THE CARDS: each row of YthdgbgleklkaiaaDoorRows.lean that lists a variable, with what it lists TIED to the program's text (the seventh form; the later family's looks); each row that meets fmt, with fmt's text TOLD by the authors' own Lean function (tested against real Go, not proved from fmt's source: count such statements apart). THE CARD IS WHAT COUNTS. Prove the row's statement (the work); the ties are given (YthdgbgleklkaiaaDoorTie.lean); close each card by the builder's one call (the guide's Derived/Test/ToyasCard.lean, 'card_holds'). Laid BY PROGRAM, IN A SANDBOX (cutbox-door.mjs). By AI agents, Wed Nov 11 2026. No macro, syntax, notation, axiom, sorry.
-/
import Derived.Test.YthdgbgleklkaiaaDoorRows
import GoSem.ClaimSeven
namespace Go.Proofs.YthdgbgleklkaiaaDoor
namespace Rows

/-- THE TIED CARD OF 'portcullislaw17.ManifestCuts'. -/
def manifestCutsCard : Claim7 := { stood := { row := manifestCutsRow, standIns := [], harness := (true, "b202f6b378e9e18bad40b53f28dd14cd235bd92823b2eb52325156d8c973e170"), looks := false }, kinds := [], alts := [], laidByText := true, laidKinds := [.data, .data, .data, .data, .data, .data, .data], laidTests := true, laidLooks := .later }
def ManifestCutsCardSaid : Prop := Claim7.holds Tryd.pinned (.plain (OpenSpec.ofChange manifestCutsSpec)) manifestCutsCard

/-- THE TIED CARD OF 'portcullislaw17.ManifestPacks'. -/
def manifestPacksCard : Claim7 := { stood := { row := manifestPacksRow, standIns := [], harness := (true, "b202f6b378e9e18bad40b53f28dd14cd235bd92823b2eb52325156d8c973e170"), looks := false }, kinds := [], alts := [], laidByText := true, laidKinds := [.data, .data, .data, .data, .data, .data, .data], laidTests := true, laidLooks := .later }
def ManifestPacksCardSaid : Prop := Claim7.holds Tryd.pinned (.plain (OpenSpec.ofChange manifestPacksSpec)) manifestPacksCard

/-- THE SECOND FORM's CARD OF 'portcullislaw17.ManifestCuts'. -/
def manifestCutsUptoCard : Claim7 := { stood := { row := manifestCutsUptoRow, standIns := [], harness := (true, "b202f6b378e9e18bad40b53f28dd14cd235bd92823b2eb52325156d8c973e170"), looks := false }, kinds := [], alts := [], laidByText := true, laidKinds := [.data, .data, .data, .data, .data, .data, .data], laidTests := true, laidLooks := .later }
def ManifestCutsUptoCardSaid : Prop := Claim7.holds Tryd.pinned (.plain (OpenSpec.upto manifestCutsSpec)) manifestCutsUptoCard

/-- THE SECOND FORM's CARD OF 'portcullislaw17.ManifestPacks'. -/
def manifestPacksUptoCard : Claim7 := { stood := { row := manifestPacksUptoRow, standIns := [], harness := (true, "b202f6b378e9e18bad40b53f28dd14cd235bd92823b2eb52325156d8c973e170"), looks := false }, kinds := [], alts := [], laidByText := true, laidKinds := [.data, .data, .data, .data, .data, .data, .data], laidTests := true, laidLooks := .later }
def ManifestPacksUptoCardSaid : Prop := Claim7.holds Tryd.pinned (.plain (OpenSpec.upto manifestPacksSpec)) manifestPacksUptoCard
end Rows
end Go.Proofs.YthdgbgleklkaiaaDoor
