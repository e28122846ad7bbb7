/-
  No cell of these rows narrows 'for every input' (looked for: loops, veiled, ifaces, maps, wideKeys, modest, calm, conditions, laid).
  DERIVED. THE GIVEN ROWS OF THIS SEAT. 10 by the template 'for every input the law returns true; each argument reads behind the call as it read before'; 0 by the template 'total and deterministic' (their statements: YtdaaigodpglnnaaTotals.lean).
  GIVEN WITH THE SEED: the statements are not yours to turn. If you find one false, say at which input.
  Laid BY PROGRAM, IN A SANDBOX (cutbox-rows.mjs): the forced cells as the released guide's own fill.sh prints them over the translation 3065ef330692fb79… (all of the seat's roots in one cut). By AI agents, Wed Nov 11 2026. No macro, syntax, notation, axiom, sorry.
-/
import Derived.Test.YtdaaigodpglnnaaChecked
import GoSem.Claim
import GoSem.ClaimJoined
import GoSem.ClaimMapViews
import Derived.JoinedTies
import Derived.KernelRfl
namespace Go.Proofs.Ytdaaigodpglnnaa
/- THE CELL 'sum', in the pinned program and in every row, IS THE sha256 OF THE DUMP (.gsa) THAT YtdaaigodpglnnaaProg.lean LOADS. Nothing in Lean hashes anything: it is a label: what it is worth is what the hold of that sum in a sandbox is worth. -/
noncomputable def Try.pinned : Pinned := { name := "ytdaaigodpglnnaa", sum := "3065ef330692fb7979182a256d4f7cdd287884d4f8369ae4369a8bb1dd1dcdb2", checked := Try.checked }
namespace Rows
def none {H : Type} : Left H := { results := [], args := [] }

/-- 'portcullislaw18.ImageCuts': WHATEVER THE INPUT: true; the input reads as it did. -/
def imageCutsSpec : ChangeSpec := { name := "imageCuts", fn := fun _ => fun
  | [d] => { results := [.lit (.bool true)], args := [d] }
  | _ => none }
def imageCutsRow : OpenClaim := { program := "ytdaaigodpglnnaa", sum := "3065ef330692fb7979182a256d4f7cdd287884d4f8369ae4369a8bb1dd1dcdb2", func := "portcullis/portcullislaw18.ImageCuts", spec := "imageCuts", unfollowed := true, recurses := true, apart := false }
def ImageCutsSaid : Prop := imageCutsRow.holds Try.pinned (OpenSpec.ofChange imageCutsSpec)

/-- ITS FALSE NEIGHBOUR: 'it returns false'. Refute it at one input. -/
def imageCutsWrong : ChangeSpec := { name := "imageCuts", fn := fun _ => fun
  | [d] => { results := [.lit (.bool false)], args := [d] }
  | _ => none }
def ImageCutsWrongFalsely : Prop := imageCutsRow.holds Try.pinned (OpenSpec.ofChange imageCutsWrong)

/-- 'portcullislaw18.ImageEnds': WHATEVER THE INPUT: true; the input reads as it did. -/
def imageEndsSpec : ChangeSpec := { name := "imageEnds", fn := fun _ => fun
  | [d1, d2] => { results := [.lit (.bool true)], args := [d1, d2] }
  | _ => none }
def imageEndsRow : OpenClaim := { program := "ytdaaigodpglnnaa", sum := "3065ef330692fb7979182a256d4f7cdd287884d4f8369ae4369a8bb1dd1dcdb2", func := "portcullis/portcullislaw18.ImageEnds", spec := "imageEnds", unfollowed := true, recurses := true, apart := false }
def ImageEndsSaid : Prop := imageEndsRow.holds Try.pinned (OpenSpec.ofChange imageEndsSpec)

/-- ITS FALSE NEIGHBOUR: 'it returns false'. Refute it at one input. -/
def imageEndsWrong : ChangeSpec := { name := "imageEnds", fn := fun _ => fun
  | [d1, d2] => { results := [.lit (.bool false)], args := [d1, d2] }
  | _ => none }
def ImageEndsWrongFalsely : Prop := imageEndsRow.holds Try.pinned (OpenSpec.ofChange imageEndsWrong)

/-- 'portcullislaw11.AeadSeals': WHATEVER THE INPUT: true; the input reads as it did. -/
def aeadSealsSpec : ChangeSpec := { name := "aeadSeals", fn := fun _ => fun
  | [d1, d2, d3, d4] => { results := [.lit (.bool true)], args := [d1, d2, d3, d4] }
  | _ => none }
def aeadSealsRow : OpenClaim := { program := "ytdaaigodpglnnaa", sum := "3065ef330692fb7979182a256d4f7cdd287884d4f8369ae4369a8bb1dd1dcdb2", func := "portcullis/portcullislaw11.AeadSeals", spec := "aeadSeals", inPlace := ["math/bits.Add64", "math/bits.Sub64"], apart := false }
def AeadSealsSaid : Prop := aeadSealsRow.holds Try.pinned (OpenSpec.ofChange aeadSealsSpec)

/-- ITS FALSE NEIGHBOUR: 'it returns false'. Refute it at one input. -/
def aeadSealsWrong : ChangeSpec := { name := "aeadSeals", fn := fun _ => fun
  | [d1, d2, d3, d4] => { results := [.lit (.bool false)], args := [d1, d2, d3, d4] }
  | _ => none }
def AeadSealsWrongFalsely : Prop := aeadSealsRow.holds Try.pinned (OpenSpec.ofChange aeadSealsWrong)

/-- 'portcullislaw11.AeadOpens': WHATEVER THE INPUT: true; the input reads as it did. -/
def aeadOpensSpec : ChangeSpec := { name := "aeadOpens", fn := fun _ => fun
  | [d1, d2, d3, d4] => { results := [.lit (.bool true)], args := [d1, d2, d3, d4] }
  | _ => none }
def aeadOpensRow : OpenClaim := { program := "ytdaaigodpglnnaa", sum := "3065ef330692fb7979182a256d4f7cdd287884d4f8369ae4369a8bb1dd1dcdb2", func := "portcullis/portcullislaw11.AeadOpens", spec := "aeadOpens", inPlace := ["math/bits.Add64", "math/bits.Sub64"], apart := false }
def AeadOpensSaid : Prop := aeadOpensRow.holds Try.pinned (OpenSpec.ofChange aeadOpensSpec)

/-- ITS FALSE NEIGHBOUR: 'it returns false'. Refute it at one input. -/
def aeadOpensWrong : ChangeSpec := { name := "aeadOpens", fn := fun _ => fun
  | [d1, d2, d3, d4] => { results := [.lit (.bool false)], args := [d1, d2, d3, d4] }
  | _ => none }
def AeadOpensWrongFalsely : Prop := aeadOpensRow.holds Try.pinned (OpenSpec.ofChange aeadOpensWrong)

/-- 'portcullislaw11.AeadTurned': WHATEVER THE INPUT: true; the input reads as it did. -/
def aeadTurnedSpec : ChangeSpec := { name := "aeadTurned", fn := fun _ => fun
  | [d1, d2, d3, d4, d5, d6] => { results := [.lit (.bool true)], args := [d1, d2, d3, d4, d5, d6] }
  | _ => none }
def aeadTurnedRow : OpenClaim := { program := "ytdaaigodpglnnaa", sum := "3065ef330692fb7979182a256d4f7cdd287884d4f8369ae4369a8bb1dd1dcdb2", func := "portcullis/portcullislaw11.AeadTurned", spec := "aeadTurned", inPlace := ["math/bits.Add64", "math/bits.Sub64"], apart := false }
def AeadTurnedSaid : Prop := aeadTurnedRow.holds Try.pinned (OpenSpec.ofChange aeadTurnedSpec)

/-- ITS FALSE NEIGHBOUR: 'it returns false'. Refute it at one input. -/
def aeadTurnedWrong : ChangeSpec := { name := "aeadTurned", fn := fun _ => fun
  | [d1, d2, d3, d4, d5, d6] => { results := [.lit (.bool false)], args := [d1, d2, d3, d4, d5, d6] }
  | _ => none }
def AeadTurnedWrongFalsely : Prop := aeadTurnedRow.holds Try.pinned (OpenSpec.ofChange aeadTurnedWrong)

/-- 'portcullislaw11.AeadMade': WHATEVER THE INPUT: true; the input reads as it did. -/
def aeadMadeSpec : ChangeSpec := { name := "aeadMade", fn := fun _ => fun
  | [d1, d2, d3, d4] => { results := [.lit (.bool true)], args := [d1, d2, d3, d4] }
  | _ => none }
def aeadMadeRow : OpenClaim := { program := "ytdaaigodpglnnaa", sum := "3065ef330692fb7979182a256d4f7cdd287884d4f8369ae4369a8bb1dd1dcdb2", func := "portcullis/portcullislaw11.AeadMade", spec := "aeadMade", inPlace := ["math/bits.Add64", "math/bits.Sub64"], apart := false }
def AeadMadeSaid : Prop := aeadMadeRow.holds Try.pinned (OpenSpec.ofChange aeadMadeSpec)

/-- ITS FALSE NEIGHBOUR: 'it returns false'. Refute it at one input. -/
def aeadMadeWrong : ChangeSpec := { name := "aeadMade", fn := fun _ => fun
  | [d1, d2, d3, d4] => { results := [.lit (.bool false)], args := [d1, d2, d3, d4] }
  | _ => none }
def AeadMadeWrongFalsely : Prop := aeadMadeRow.holds Try.pinned (OpenSpec.ofChange aeadMadeWrong)

/-- 'portcullislaw11.AeadShort': WHATEVER THE INPUT: true; the input reads as it did. -/
def aeadShortSpec : ChangeSpec := { name := "aeadShort", fn := fun _ => fun
  | [d1, d2, d3, d4] => { results := [.lit (.bool true)], args := [d1, d2, d3, d4] }
  | _ => none }
def aeadShortRow : OpenClaim := { program := "ytdaaigodpglnnaa", sum := "3065ef330692fb7979182a256d4f7cdd287884d4f8369ae4369a8bb1dd1dcdb2", func := "portcullis/portcullislaw11.AeadShort", spec := "aeadShort", inPlace := ["math/bits.Add64", "math/bits.Sub64"], apart := false }
def AeadShortSaid : Prop := aeadShortRow.holds Try.pinned (OpenSpec.ofChange aeadShortSpec)

/-- ITS FALSE NEIGHBOUR: 'it returns false'. Refute it at one input. -/
def aeadShortWrong : ChangeSpec := { name := "aeadShort", fn := fun _ => fun
  | [d1, d2, d3, d4] => { results := [.lit (.bool false)], args := [d1, d2, d3, d4] }
  | _ => none }
def AeadShortWrongFalsely : Prop := aeadShortRow.holds Try.pinned (OpenSpec.ofChange aeadShortWrong)

/-- 'portcullislaw18.ImageOpens': WHATEVER THE INPUT: true; the input reads as it did. -/
def imageOpensSpec : ChangeSpec := { name := "imageOpens", fn := fun _ => fun
  | [d1, d2, d3, d4, d5] => { results := [.lit (.bool true)], args := [d1, d2, d3, d4, d5] }
  | _ => none }
def imageOpensRow : OpenClaim := { program := "ytdaaigodpglnnaa", sum := "3065ef330692fb7979182a256d4f7cdd287884d4f8369ae4369a8bb1dd1dcdb2", func := "portcullis/portcullislaw18.ImageOpens", spec := "imageOpens", inPlace := ["math/bits.Add64", "math/bits.Sub64"], unfollowed := true, recurses := true, apart := false }
def ImageOpensSaid : Prop := imageOpensRow.holds Try.pinned (OpenSpec.ofChange imageOpensSpec)

/-- ITS FALSE NEIGHBOUR: 'it returns false'. Refute it at one input. -/
def imageOpensWrong : ChangeSpec := { name := "imageOpens", fn := fun _ => fun
  | [d1, d2, d3, d4, d5] => { results := [.lit (.bool false)], args := [d1, d2, d3, d4, d5] }
  | _ => none }
def ImageOpensWrongFalsely : Prop := imageOpensRow.holds Try.pinned (OpenSpec.ofChange imageOpensWrong)

/-- 'portcullislaw18.ImagePlaces': WHATEVER THE INPUT: true; the input reads as it did. -/
def imagePlacesSpec : ChangeSpec := { name := "imagePlaces", fn := fun _ => fun
  | [d1, d2, d3, d4, d5, d6, d7] => { results := [.lit (.bool true)], args := [d1, d2, d3, d4, d5, d6, d7] }
  | _ => none }
def imagePlacesRow : OpenClaim := { program := "ytdaaigodpglnnaa", sum := "3065ef330692fb7979182a256d4f7cdd287884d4f8369ae4369a8bb1dd1dcdb2", func := "portcullis/portcullislaw18.ImagePlaces", spec := "imagePlaces", inPlace := ["math/bits.Add64", "math/bits.Sub64"], unfollowed := true, recurses := true, apart := false }
def ImagePlacesSaid : Prop := imagePlacesRow.holds Try.pinned (OpenSpec.ofChange imagePlacesSpec)

/-- ITS FALSE NEIGHBOUR: 'it returns false'. Refute it at one input. -/
def imagePlacesWrong : ChangeSpec := { name := "imagePlaces", fn := fun _ => fun
  | [d1, d2, d3, d4, d5, d6, d7] => { results := [.lit (.bool false)], args := [d1, d2, d3, d4, d5, d6, d7] }
  | _ => none }
def ImagePlacesWrongFalsely : Prop := imagePlacesRow.holds Try.pinned (OpenSpec.ofChange imagePlacesWrong)

/-- 'portcullislaw18.ImageMakes': WHATEVER THE INPUT: true; the input reads as it did. -/
def imageMakesSpec : ChangeSpec := { name := "imageMakes", fn := fun _ => fun
  | [d1, d2, d3] => { results := [.lit (.bool true)], args := [d1, d2, d3] }
  | _ => none }
def imageMakesRow : OpenClaim := { program := "ytdaaigodpglnnaa", sum := "3065ef330692fb7979182a256d4f7cdd287884d4f8369ae4369a8bb1dd1dcdb2", func := "portcullis/portcullislaw18.ImageMakes", spec := "imageMakes", inPlace := ["math/bits.Add64", "math/bits.Sub64"], unfollowed := true, recurses := true, apart := false }
def ImageMakesSaid : Prop := imageMakesRow.holds Try.pinned (OpenSpec.ofChange imageMakesSpec)

/-- ITS FALSE NEIGHBOUR: 'it returns false'. Refute it at one input. -/
def imageMakesWrong : ChangeSpec := { name := "imageMakes", fn := fun _ => fun
  | [d1, d2, d3] => { results := [.lit (.bool false)], args := [d1, d2, d3] }
  | _ => none }
def ImageMakesWrongFalsely : Prop := imageMakesRow.holds Try.pinned (OpenSpec.ofChange imageMakesWrong)

/- THE SECOND FORM. 'bulk': how many values and letters a reading holds, each counted each time it is reached (what is shared counts as often as it is met; a slice's spare places count too). A statement '..UptoSaid' is the law's where the arguments, and the package variables that the reading takes, are together of bulk at most 1048576: NARROWER than '..Said'. Prove '..Said' where nothing that the law and all that it calls make is longer than what came in: it says more and counts as full. Else prove '..UptoSaid'. A law counts once. -/
mutual
def uptoBulk {H : Type} : DataW H → Nat
  | .lit (.string bytes) => bytes.length + 1
  | .lit _ => 1
  | .nil => 1
  | .ptr d => uptoBulk d + 1
  | .slice elems spare => uptoBulkAll elems + uptoBulkAll spare + 1
  | .agg parts => uptoBulkAll parts + 1
  | .iface _ d => uptoBulk d + 1
  | .map entries => uptoBulkEntries entries + 1
  | .held _ => 1
def uptoBulkAll {H : Type} : List (DataW H) → Nat
  | [] => 0
  | d :: r => uptoBulk d + uptoBulkAll r
def uptoBulkEntries {H : Type} : List (Lit × DataW H) → Nat
  | [] => 0
  | x :: r => uptoBulkEntry x + uptoBulkEntries r
def uptoBulkEntry {H : Type} : Lit × DataW H → Nat
  | (.string bytes, d) => bytes.length + uptoBulk d + 1
  | (_, d) => uptoBulk d + 1
 end
def uptoSmall : (H : Type) → List (DataW H) → Bool := fun _ ds => decide (uptoBulkAll ds ≤ 1048576)
def OpenSpec.upto (s : _root_.Go.ChangeSpec) : _root_.Go.OpenSpec := { _root_.Go.OpenSpec.ofChange s with cond := some uptoSmall }

/-- 'portcullislaw18.ImageCuts', WHERE WHAT IT READS IS OF BULK AT MOST 1048576: true; the input reads as it did. -/
def imageCutsUptoRow : OpenClaim := { program := "ytdaaigodpglnnaa", sum := "3065ef330692fb7979182a256d4f7cdd287884d4f8369ae4369a8bb1dd1dcdb2", func := "portcullis/portcullislaw18.ImageCuts", spec := "imageCuts", unfollowed := true, recurses := true, apart := false, narrowed := true }
def ImageCutsUptoSaid : Prop := imageCutsUptoRow.holds Try.pinned (OpenSpec.upto imageCutsSpec)

/-- 'portcullislaw18.ImageEnds', WHERE WHAT IT READS IS OF BULK AT MOST 1048576: true; the input reads as it did. -/
def imageEndsUptoRow : OpenClaim := { program := "ytdaaigodpglnnaa", sum := "3065ef330692fb7979182a256d4f7cdd287884d4f8369ae4369a8bb1dd1dcdb2", func := "portcullis/portcullislaw18.ImageEnds", spec := "imageEnds", unfollowed := true, recurses := true, apart := false, narrowed := true }
def ImageEndsUptoSaid : Prop := imageEndsUptoRow.holds Try.pinned (OpenSpec.upto imageEndsSpec)

/-- 'portcullislaw11.AeadSeals', WHERE WHAT IT READS IS OF BULK AT MOST 1048576: true; the input reads as it did. -/
def aeadSealsUptoRow : OpenClaim := { program := "ytdaaigodpglnnaa", sum := "3065ef330692fb7979182a256d4f7cdd287884d4f8369ae4369a8bb1dd1dcdb2", func := "portcullis/portcullislaw11.AeadSeals", spec := "aeadSeals", inPlace := ["math/bits.Add64", "math/bits.Sub64"], apart := false, narrowed := true }
def AeadSealsUptoSaid : Prop := aeadSealsUptoRow.holds Try.pinned (OpenSpec.upto aeadSealsSpec)

/-- 'portcullislaw11.AeadOpens', WHERE WHAT IT READS IS OF BULK AT MOST 1048576: true; the input reads as it did. -/
def aeadOpensUptoRow : OpenClaim := { program := "ytdaaigodpglnnaa", sum := "3065ef330692fb7979182a256d4f7cdd287884d4f8369ae4369a8bb1dd1dcdb2", func := "portcullis/portcullislaw11.AeadOpens", spec := "aeadOpens", inPlace := ["math/bits.Add64", "math/bits.Sub64"], apart := false, narrowed := true }
def AeadOpensUptoSaid : Prop := aeadOpensUptoRow.holds Try.pinned (OpenSpec.upto aeadOpensSpec)

/-- 'portcullislaw11.AeadTurned', WHERE WHAT IT READS IS OF BULK AT MOST 1048576: true; the input reads as it did. -/
def aeadTurnedUptoRow : OpenClaim := { program := "ytdaaigodpglnnaa", sum := "3065ef330692fb7979182a256d4f7cdd287884d4f8369ae4369a8bb1dd1dcdb2", func := "portcullis/portcullislaw11.AeadTurned", spec := "aeadTurned", inPlace := ["math/bits.Add64", "math/bits.Sub64"], apart := false, narrowed := true }
def AeadTurnedUptoSaid : Prop := aeadTurnedUptoRow.holds Try.pinned (OpenSpec.upto aeadTurnedSpec)

/-- 'portcullislaw11.AeadMade', WHERE WHAT IT READS IS OF BULK AT MOST 1048576: true; the input reads as it did. -/
def aeadMadeUptoRow : OpenClaim := { program := "ytdaaigodpglnnaa", sum := "3065ef330692fb7979182a256d4f7cdd287884d4f8369ae4369a8bb1dd1dcdb2", func := "portcullis/portcullislaw11.AeadMade", spec := "aeadMade", inPlace := ["math/bits.Add64", "math/bits.Sub64"], apart := false, narrowed := true }
def AeadMadeUptoSaid : Prop := aeadMadeUptoRow.holds Try.pinned (OpenSpec.upto aeadMadeSpec)

/-- 'portcullislaw11.AeadShort', WHERE WHAT IT READS IS OF BULK AT MOST 1048576: true; the input reads as it did. -/
def aeadShortUptoRow : OpenClaim := { program := "ytdaaigodpglnnaa", sum := "3065ef330692fb7979182a256d4f7cdd287884d4f8369ae4369a8bb1dd1dcdb2", func := "portcullis/portcullislaw11.AeadShort", spec := "aeadShort", inPlace := ["math/bits.Add64", "math/bits.Sub64"], apart := false, narrowed := true }
def AeadShortUptoSaid : Prop := aeadShortUptoRow.holds Try.pinned (OpenSpec.upto aeadShortSpec)

/-- 'portcullislaw18.ImageOpens', WHERE WHAT IT READS IS OF BULK AT MOST 1048576: true; the input reads as it did. -/
def imageOpensUptoRow : OpenClaim := { program := "ytdaaigodpglnnaa", sum := "3065ef330692fb7979182a256d4f7cdd287884d4f8369ae4369a8bb1dd1dcdb2", func := "portcullis/portcullislaw18.ImageOpens", spec := "imageOpens", inPlace := ["math/bits.Add64", "math/bits.Sub64"], unfollowed := true, recurses := true, apart := false, narrowed := true }
def ImageOpensUptoSaid : Prop := imageOpensUptoRow.holds Try.pinned (OpenSpec.upto imageOpensSpec)

/-- 'portcullislaw18.ImagePlaces', WHERE WHAT IT READS IS OF BULK AT MOST 1048576: true; the input reads as it did. -/
def imagePlacesUptoRow : OpenClaim := { program := "ytdaaigodpglnnaa", sum := "3065ef330692fb7979182a256d4f7cdd287884d4f8369ae4369a8bb1dd1dcdb2", func := "portcullis/portcullislaw18.ImagePlaces", spec := "imagePlaces", inPlace := ["math/bits.Add64", "math/bits.Sub64"], unfollowed := true, recurses := true, apart := false, narrowed := true }
def ImagePlacesUptoSaid : Prop := imagePlacesUptoRow.holds Try.pinned (OpenSpec.upto imagePlacesSpec)

/-- 'portcullislaw18.ImageMakes', WHERE WHAT IT READS IS OF BULK AT MOST 1048576: true; the input reads as it did. -/
def imageMakesUptoRow : OpenClaim := { program := "ytdaaigodpglnnaa", sum := "3065ef330692fb7979182a256d4f7cdd287884d4f8369ae4369a8bb1dd1dcdb2", func := "portcullis/portcullislaw18.ImageMakes", spec := "imageMakes", inPlace := ["math/bits.Add64", "math/bits.Sub64"], unfollowed := true, recurses := true, apart := false, narrowed := true }
def ImageMakesUptoSaid : Prop := imageMakesUptoRow.holds Try.pinned (OpenSpec.upto imageMakesSpec)

end Rows
end Go.Proofs.Ytdaaigodpglnnaa
