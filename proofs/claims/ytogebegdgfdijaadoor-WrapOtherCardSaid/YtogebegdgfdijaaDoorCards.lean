/-
  DERIVED. GIVEN WITH THE SEED: THE CARDS: each row of YtogebegdgfdijaaDoorRows.lean that lists a variable, with what it lists TIED to the program's text (the seventh form; the later family's looks); each row that meets fmt, with fmt's text TOLD by the authors' own Lean function (tested against real Go, not proved from fmt's source: count such statements apart). THE CARD IS WHAT COUNTS. Prove the row's statement (the work); the ties are given (YtogebegdgfdijaaDoorTie.lean); close each card by the builder's one call (the guide's Derived/Test/ToyasCard.lean, 'card_holds'). Laid BY PROGRAM, IN A SANDBOX (cutbox-door.mjs). By AI agents, Wed Nov 11 2026. No macro, syntax, notation, axiom, sorry.
-/
import Derived.Test.YtogebegdgfdijaaDoorRows
import GoSem.ClaimSeven
namespace Go.Proofs.YtogebegdgfdijaaDoor
namespace Rows

/-- THE TIED CARD OF 'portcullislaw14.WrapOther'. -/
def wrapOtherCard : Claim7 := { stood := { row := wrapOtherRow, standIns := [], harness := (true, "2e710b04c472d95b38ba2dea739ede5a0e723c830c2e287440dde5a7185a9722"), looks := false }, kinds := [], alts := [], laidByText := true, laidKinds := [.data], laidTests := true, laidLooks := .later }
def WrapOtherCardSaid : Prop := Claim7.holds Tryd.pinned (.plain (OpenSpec.ofChange wrapOtherSpec)) wrapOtherCard

/-- THE SECOND FORM's CARD OF 'portcullislaw14.WrapOther'. -/
def wrapOtherUptoCard : Claim7 := { stood := { row := wrapOtherUptoRow, standIns := [], harness := (true, "2e710b04c472d95b38ba2dea739ede5a0e723c830c2e287440dde5a7185a9722"), looks := false }, kinds := [], alts := [], laidByText := true, laidKinds := [.data], laidTests := true, laidLooks := .later }
def WrapOtherUptoCardSaid : Prop := Claim7.holds Tryd.pinned (.plain (OpenSpec.upto wrapOtherSpec)) wrapOtherUptoCard
end Rows
end Go.Proofs.YtogebegdgfdijaaDoor
