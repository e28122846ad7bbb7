/-
  No cell of these rows narrows 'for every input' (looked for: loops, veiled, ifaces, maps, wideKeys, modest, calm, conditions, laid).
  DERIVED. THE GIVEN ROWS OF THIS SEAT. 10 by the template 'for every input the law returns true; each argument reads behind the call as it read before'; 0 by the template 'total and deterministic' (their statements: YtimlgkfhfofpbaaTotals.lean).
  GIVEN WITH THE SEED: the statements are not yours to turn. If you find one false, say at which input.
  Laid BY PROGRAM, IN A SANDBOX (cutbox-rows.mjs): the forced cells as the released guide's own fill.sh prints them over the translation 0445ab6ad330e80d… (all of the seat's roots in one cut). By AI agents, Wed Nov 11 2026. No macro, syntax, notation, axiom, sorry.
-/
import Derived.Test.YtimlgkfhfofpbaaChecked
import GoSem.Claim
import GoSem.ClaimJoined
import GoSem.ClaimMapViews
import Derived.JoinedTies
import Derived.KernelRfl
namespace Go.Proofs.Ytimlgkfhfofpbaa
/- THE CELL 'sum', in the pinned program and in every row, IS THE sha256 OF THE DUMP (.gsa) THAT YtimlgkfhfofpbaaProg.lean LOADS. Nothing in Lean hashes anything: it is a label: what it is worth is what the hold of that sum in a sandbox is worth. -/
noncomputable def Try.pinned : Pinned := { name := "ytimlgkfhfofpbaa", sum := "0445ab6ad330e80d96bf7935f83c955cc5bb040f4b761a84221c74fc945522bd", checked := Try.checked }
namespace Rows
def none {H : Type} : Left H := { results := [], args := [] }

/-- 'portcullislaw20.OtpApart': WHATEVER THE INPUT: true; the input reads as it did. -/
def otpApartSpec : ChangeSpec := { name := "otpApart", fn := fun _ => fun
  | [d1, d2, d3] => { results := [.lit (.bool true)], args := [d1, d2, d3] }
  | _ => none }
def otpApartRow : OpenClaim := { program := "ytimlgkfhfofpbaa", sum := "0445ab6ad330e80d96bf7935f83c955cc5bb040f4b761a84221c74fc945522bd", func := "portcullis/portcullislaw20.OtpApart", spec := "otpApart", inPlace := ["internal/bytealg.MakeNoZero"], apart := false }
def OtpApartSaid : Prop := otpApartRow.holds Try.pinned (OpenSpec.ofChange otpApartSpec)

/-- ITS FALSE NEIGHBOUR: 'it returns false'. Refute it at one input. -/
def otpApartWrong : ChangeSpec := { name := "otpApart", fn := fun _ => fun
  | [d1, d2, d3] => { results := [.lit (.bool false)], args := [d1, d2, d3] }
  | _ => none }
def OtpApartWrongFalsely : Prop := otpApartRow.holds Try.pinned (OpenSpec.ofChange otpApartWrong)

/-- 'portcullislaw20.OtpCounts': WHATEVER THE INPUT: true; the input reads as it did. -/
def otpCountsSpec : ChangeSpec := { name := "otpCounts", fn := fun _ => fun
  | [d1, d2, d3, d4, d5] => { results := [.lit (.bool true)], args := [d1, d2, d3, d4, d5] }
  | _ => none }
def otpCountsRow : OpenClaim := { program := "ytimlgkfhfofpbaa", sum := "0445ab6ad330e80d96bf7935f83c955cc5bb040f4b761a84221c74fc945522bd", func := "portcullis/portcullislaw20.OtpCounts", spec := "otpCounts", inPlace := ["internal/bytealg.MakeNoZero"], apart := false }
def OtpCountsSaid : Prop := otpCountsRow.holds Try.pinned (OpenSpec.ofChange otpCountsSpec)

/-- ITS FALSE NEIGHBOUR: 'it returns false'. Refute it at one input. -/
def otpCountsWrong : ChangeSpec := { name := "otpCounts", fn := fun _ => fun
  | [d1, d2, d3, d4, d5] => { results := [.lit (.bool false)], args := [d1, d2, d3, d4, d5] }
  | _ => none }
def OtpCountsWrongFalsely : Prop := otpCountsRow.holds Try.pinned (OpenSpec.ofChange otpCountsWrong)

/-- 'portcullislaw19.FlashClears': WHATEVER THE INPUT: true; the input reads as it did. -/
def flashClearsSpec : ChangeSpec := { name := "flashClears", fn := fun _ => fun
  | [d1, d2] => { results := [.lit (.bool true)], args := [d1, d2] }
  | _ => none }
def flashClearsRow : OpenClaim := { program := "ytimlgkfhfofpbaa", sum := "0445ab6ad330e80d96bf7935f83c955cc5bb040f4b761a84221c74fc945522bd", func := "portcullis/portcullislaw19.FlashClears", spec := "flashClears", inPlace := ["internal/bytealg.MakeNoZero"], apart := false }
def FlashClearsSaid : Prop := flashClearsRow.holds Try.pinned (OpenSpec.ofChange flashClearsSpec)

/-- ITS FALSE NEIGHBOUR: 'it returns false'. Refute it at one input. -/
def flashClearsWrong : ChangeSpec := { name := "flashClears", fn := fun _ => fun
  | [d1, d2] => { results := [.lit (.bool false)], args := [d1, d2] }
  | _ => none }
def FlashClearsWrongFalsely : Prop := flashClearsRow.holds Try.pinned (OpenSpec.ofChange flashClearsWrong)

/-- 'portcullislaw19.FlashPokes': WHATEVER THE INPUT: true; the input reads as it did. -/
def flashPokesSpec : ChangeSpec := { name := "flashPokes", fn := fun _ => fun
  | [d1, d2, d3] => { results := [.lit (.bool true)], args := [d1, d2, d3] }
  | _ => none }
def flashPokesRow : OpenClaim := { program := "ytimlgkfhfofpbaa", sum := "0445ab6ad330e80d96bf7935f83c955cc5bb040f4b761a84221c74fc945522bd", func := "portcullis/portcullislaw19.FlashPokes", spec := "flashPokes", inPlace := ["internal/bytealg.MakeNoZero"], apart := false }
def FlashPokesSaid : Prop := flashPokesRow.holds Try.pinned (OpenSpec.ofChange flashPokesSpec)

/-- ITS FALSE NEIGHBOUR: 'it returns false'. Refute it at one input. -/
def flashPokesWrong : ChangeSpec := { name := "flashPokes", fn := fun _ => fun
  | [d1, d2, d3] => { results := [.lit (.bool false)], args := [d1, d2, d3] }
  | _ => none }
def FlashPokesWrongFalsely : Prop := flashPokesRow.holds Try.pinned (OpenSpec.ofChange flashPokesWrong)

/-- 'portcullislaw19.FlashTears': WHATEVER THE INPUT: true; the input reads as it did. -/
def flashTearsSpec : ChangeSpec := { name := "flashTears", fn := fun _ => fun
  | [d1, d2, d3, d4] => { results := [.lit (.bool true)], args := [d1, d2, d3, d4] }
  | _ => none }
def flashTearsRow : OpenClaim := { program := "ytimlgkfhfofpbaa", sum := "0445ab6ad330e80d96bf7935f83c955cc5bb040f4b761a84221c74fc945522bd", func := "portcullis/portcullislaw19.FlashTears", spec := "flashTears", inPlace := ["internal/bytealg.MakeNoZero"], apart := false }
def FlashTearsSaid : Prop := flashTearsRow.holds Try.pinned (OpenSpec.ofChange flashTearsSpec)

/-- ITS FALSE NEIGHBOUR: 'it returns false'. Refute it at one input. -/
def flashTearsWrong : ChangeSpec := { name := "flashTears", fn := fun _ => fun
  | [d1, d2, d3, d4] => { results := [.lit (.bool false)], args := [d1, d2, d3, d4] }
  | _ => none }
def FlashTearsWrongFalsely : Prop := flashTearsRow.holds Try.pinned (OpenSpec.ofChange flashTearsWrong)

/-- 'portcullislaw19.FlashBounds': WHATEVER THE INPUT: true; the input reads as it did. -/
def flashBoundsSpec : ChangeSpec := { name := "flashBounds", fn := fun _ => fun
  | [d1, d2, d3] => { results := [.lit (.bool true)], args := [d1, d2, d3] }
  | _ => none }
def flashBoundsRow : OpenClaim := { program := "ytimlgkfhfofpbaa", sum := "0445ab6ad330e80d96bf7935f83c955cc5bb040f4b761a84221c74fc945522bd", func := "portcullis/portcullislaw19.FlashBounds", spec := "flashBounds", inPlace := ["internal/bytealg.MakeNoZero"], apart := false }
def FlashBoundsSaid : Prop := flashBoundsRow.holds Try.pinned (OpenSpec.ofChange flashBoundsSpec)

/-- ITS FALSE NEIGHBOUR: 'it returns false'. Refute it at one input. -/
def flashBoundsWrong : ChangeSpec := { name := "flashBounds", fn := fun _ => fun
  | [d1, d2, d3] => { results := [.lit (.bool false)], args := [d1, d2, d3] }
  | _ => none }
def FlashBoundsWrongFalsely : Prop := flashBoundsRow.holds Try.pinned (OpenSpec.ofChange flashBoundsWrong)

/-- 'portcullislaw19.FlashPlans': WHATEVER THE INPUT: true; the input reads as it did. -/
def flashPlansSpec : ChangeSpec := { name := "flashPlans", fn := fun _ => fun
  | [d1, d2, d3] => { results := [.lit (.bool true)], args := [d1, d2, d3] }
  | _ => none }
def flashPlansRow : OpenClaim := { program := "ytimlgkfhfofpbaa", sum := "0445ab6ad330e80d96bf7935f83c955cc5bb040f4b761a84221c74fc945522bd", func := "portcullis/portcullislaw19.FlashPlans", spec := "flashPlans", inPlace := ["internal/bytealg.MakeNoZero"], apart := false }
def FlashPlansSaid : Prop := flashPlansRow.holds Try.pinned (OpenSpec.ofChange flashPlansSpec)

/-- ITS FALSE NEIGHBOUR: 'it returns false'. Refute it at one input. -/
def flashPlansWrong : ChangeSpec := { name := "flashPlans", fn := fun _ => fun
  | [d1, d2, d3] => { results := [.lit (.bool false)], args := [d1, d2, d3] }
  | _ => none }
def FlashPlansWrongFalsely : Prop := flashPlansRow.holds Try.pinned (OpenSpec.ofChange flashPlansWrong)

/-- 'portcullislaw25.VerityNone': WHATEVER THE INPUT: true; the input reads as it did. -/
def verityNoneSpec : ChangeSpec := { name := "verityNone", fn := fun _ => fun
  | [d1, d2] => { results := [.lit (.bool true)], args := [d1, d2] }
  | _ => none }
def verityNoneRow : OpenClaim := { program := "ytimlgkfhfofpbaa", sum := "0445ab6ad330e80d96bf7935f83c955cc5bb040f4b761a84221c74fc945522bd", func := "portcullis/portcullislaw25.VerityNone", spec := "verityNone", inPlace := ["internal/bytealg.MakeNoZero"], apart := false }
def VerityNoneSaid : Prop := verityNoneRow.holds Try.pinned (OpenSpec.ofChange verityNoneSpec)

/-- ITS FALSE NEIGHBOUR: 'it returns false'. Refute it at one input. -/
def verityNoneWrong : ChangeSpec := { name := "verityNone", fn := fun _ => fun
  | [d1, d2] => { results := [.lit (.bool false)], args := [d1, d2] }
  | _ => none }
def VerityNoneWrongFalsely : Prop := verityNoneRow.holds Try.pinned (OpenSpec.ofChange verityNoneWrong)

/-- 'portcullislaw25.VerityApart': WHATEVER THE INPUT: true; the input reads as it did. -/
def verityApartSpec : ChangeSpec := { name := "verityApart", fn := fun _ => fun
  | [d1, d2, d3, d4, d5, d6] => { results := [.lit (.bool true)], args := [d1, d2, d3, d4, d5, d6] }
  | _ => none }
def verityApartRow : OpenClaim := { program := "ytimlgkfhfofpbaa", sum := "0445ab6ad330e80d96bf7935f83c955cc5bb040f4b761a84221c74fc945522bd", func := "portcullis/portcullislaw25.VerityApart", spec := "verityApart", inPlace := ["internal/bytealg.MakeNoZero"], apart := false }
def VerityApartSaid : Prop := verityApartRow.holds Try.pinned (OpenSpec.ofChange verityApartSpec)

/-- ITS FALSE NEIGHBOUR: 'it returns false'. Refute it at one input. -/
def verityApartWrong : ChangeSpec := { name := "verityApart", fn := fun _ => fun
  | [d1, d2, d3, d4, d5, d6] => { results := [.lit (.bool false)], args := [d1, d2, d3, d4, d5, d6] }
  | _ => none }
def VerityApartWrongFalsely : Prop := verityApartRow.holds Try.pinned (OpenSpec.ofChange verityApartWrong)

/-- 'portcullislaw19.FlashPlays': WHATEVER THE INPUT: true; the input reads as it did. -/
def flashPlaysSpec : ChangeSpec := { name := "flashPlays", fn := fun _ => fun
  | [d1, d2] => { results := [.lit (.bool true)], args := [d1, d2] }
  | _ => none }
def flashPlaysRow : OpenClaim := { program := "ytimlgkfhfofpbaa", sum := "0445ab6ad330e80d96bf7935f83c955cc5bb040f4b761a84221c74fc945522bd", func := "portcullis/portcullislaw19.FlashPlays", spec := "flashPlays", inPlace := ["internal/bytealg.MakeNoZero"], apart := false }
def FlashPlaysSaid : Prop := flashPlaysRow.holds Try.pinned (OpenSpec.ofChange flashPlaysSpec)

/-- ITS FALSE NEIGHBOUR: 'it returns false'. Refute it at one input. -/
def flashPlaysWrong : ChangeSpec := { name := "flashPlays", fn := fun _ => fun
  | [d1, d2] => { results := [.lit (.bool false)], args := [d1, d2] }
  | _ => none }
def FlashPlaysWrongFalsely : Prop := flashPlaysRow.holds Try.pinned (OpenSpec.ofChange flashPlaysWrong)

/- THE SECOND FORM. 'bulk': how many values and letters a reading holds, each counted each time it is reached (what is shared counts as often as it is met; a slice's spare places count too). A statement '..UptoSaid' is the law's where the arguments, and the package variables that the reading takes, are together of bulk at most 1048576: NARROWER than '..Said'. Prove '..Said' where nothing that the law and all that it calls make is longer than what came in: it says more and counts as full. Else prove '..UptoSaid'. A law counts once. -/
mutual
def uptoBulk {H : Type} : DataW H → Nat
  | .lit (.string bytes) => bytes.length + 1
  | .lit _ => 1
  | .nil => 1
  | .ptr d => uptoBulk d + 1
  | .slice elems spare => uptoBulkAll elems + uptoBulkAll spare + 1
  | .agg parts => uptoBulkAll parts + 1
  | .iface _ d => uptoBulk d + 1
  | .map entries => uptoBulkEntries entries + 1
  | .held _ => 1
def uptoBulkAll {H : Type} : List (DataW H) → Nat
  | [] => 0
  | d :: r => uptoBulk d + uptoBulkAll r
def uptoBulkEntries {H : Type} : List (Lit × DataW H) → Nat
  | [] => 0
  | x :: r => uptoBulkEntry x + uptoBulkEntries r
def uptoBulkEntry {H : Type} : Lit × DataW H → Nat
  | (.string bytes, d) => bytes.length + uptoBulk d + 1
  | (_, d) => uptoBulk d + 1
 end
def uptoSmall : (H : Type) → List (DataW H) → Bool := fun _ ds => decide (uptoBulkAll ds ≤ 1048576)
def OpenSpec.upto (s : _root_.Go.ChangeSpec) : _root_.Go.OpenSpec := { _root_.Go.OpenSpec.ofChange s with cond := some uptoSmall }

/-- 'portcullislaw20.OtpApart', WHERE WHAT IT READS IS OF BULK AT MOST 1048576: true; the input reads as it did. -/
def otpApartUptoRow : OpenClaim := { program := "ytimlgkfhfofpbaa", sum := "0445ab6ad330e80d96bf7935f83c955cc5bb040f4b761a84221c74fc945522bd", func := "portcullis/portcullislaw20.OtpApart", spec := "otpApart", inPlace := ["internal/bytealg.MakeNoZero"], apart := false, narrowed := true }
def OtpApartUptoSaid : Prop := otpApartUptoRow.holds Try.pinned (OpenSpec.upto otpApartSpec)

/-- 'portcullislaw20.OtpCounts', WHERE WHAT IT READS IS OF BULK AT MOST 1048576: true; the input reads as it did. -/
def otpCountsUptoRow : OpenClaim := { program := "ytimlgkfhfofpbaa", sum := "0445ab6ad330e80d96bf7935f83c955cc5bb040f4b761a84221c74fc945522bd", func := "portcullis/portcullislaw20.OtpCounts", spec := "otpCounts", inPlace := ["internal/bytealg.MakeNoZero"], apart := false, narrowed := true }
def OtpCountsUptoSaid : Prop := otpCountsUptoRow.holds Try.pinned (OpenSpec.upto otpCountsSpec)

/-- 'portcullislaw19.FlashClears', WHERE WHAT IT READS IS OF BULK AT MOST 1048576: true; the input reads as it did. -/
def flashClearsUptoRow : OpenClaim := { program := "ytimlgkfhfofpbaa", sum := "0445ab6ad330e80d96bf7935f83c955cc5bb040f4b761a84221c74fc945522bd", func := "portcullis/portcullislaw19.FlashClears", spec := "flashClears", inPlace := ["internal/bytealg.MakeNoZero"], apart := false, narrowed := true }
def FlashClearsUptoSaid : Prop := flashClearsUptoRow.holds Try.pinned (OpenSpec.upto flashClearsSpec)

/-- 'portcullislaw19.FlashPokes', WHERE WHAT IT READS IS OF BULK AT MOST 1048576: true; the input reads as it did. -/
def flashPokesUptoRow : OpenClaim := { program := "ytimlgkfhfofpbaa", sum := "0445ab6ad330e80d96bf7935f83c955cc5bb040f4b761a84221c74fc945522bd", func := "portcullis/portcullislaw19.FlashPokes", spec := "flashPokes", inPlace := ["internal/bytealg.MakeNoZero"], apart := false, narrowed := true }
def FlashPokesUptoSaid : Prop := flashPokesUptoRow.holds Try.pinned (OpenSpec.upto flashPokesSpec)

/-- 'portcullislaw19.FlashTears', WHERE WHAT IT READS IS OF BULK AT MOST 1048576: true; the input reads as it did. -/
def flashTearsUptoRow : OpenClaim := { program := "ytimlgkfhfofpbaa", sum := "0445ab6ad330e80d96bf7935f83c955cc5bb040f4b761a84221c74fc945522bd", func := "portcullis/portcullislaw19.FlashTears", spec := "flashTears", inPlace := ["internal/bytealg.MakeNoZero"], apart := false, narrowed := true }
def FlashTearsUptoSaid : Prop := flashTearsUptoRow.holds Try.pinned (OpenSpec.upto flashTearsSpec)

/-- 'portcullislaw19.FlashBounds', WHERE WHAT IT READS IS OF BULK AT MOST 1048576: true; the input reads as it did. -/
def flashBoundsUptoRow : OpenClaim := { program := "ytimlgkfhfofpbaa", sum := "0445ab6ad330e80d96bf7935f83c955cc5bb040f4b761a84221c74fc945522bd", func := "portcullis/portcullislaw19.FlashBounds", spec := "flashBounds", inPlace := ["internal/bytealg.MakeNoZero"], apart := false, narrowed := true }
def FlashBoundsUptoSaid : Prop := flashBoundsUptoRow.holds Try.pinned (OpenSpec.upto flashBoundsSpec)

/-- 'portcullislaw19.FlashPlans', WHERE WHAT IT READS IS OF BULK AT MOST 1048576: true; the input reads as it did. -/
def flashPlansUptoRow : OpenClaim := { program := "ytimlgkfhfofpbaa", sum := "0445ab6ad330e80d96bf7935f83c955cc5bb040f4b761a84221c74fc945522bd", func := "portcullis/portcullislaw19.FlashPlans", spec := "flashPlans", inPlace := ["internal/bytealg.MakeNoZero"], apart := false, narrowed := true }
def FlashPlansUptoSaid : Prop := flashPlansUptoRow.holds Try.pinned (OpenSpec.upto flashPlansSpec)

/-- 'portcullislaw25.VerityNone', WHERE WHAT IT READS IS OF BULK AT MOST 1048576: true; the input reads as it did. -/
def verityNoneUptoRow : OpenClaim := { program := "ytimlgkfhfofpbaa", sum := "0445ab6ad330e80d96bf7935f83c955cc5bb040f4b761a84221c74fc945522bd", func := "portcullis/portcullislaw25.VerityNone", spec := "verityNone", inPlace := ["internal/bytealg.MakeNoZero"], apart := false, narrowed := true }
def VerityNoneUptoSaid : Prop := verityNoneUptoRow.holds Try.pinned (OpenSpec.upto verityNoneSpec)

/-- 'portcullislaw25.VerityApart', WHERE WHAT IT READS IS OF BULK AT MOST 1048576: true; the input reads as it did. -/
def verityApartUptoRow : OpenClaim := { program := "ytimlgkfhfofpbaa", sum := "0445ab6ad330e80d96bf7935f83c955cc5bb040f4b761a84221c74fc945522bd", func := "portcullis/portcullislaw25.VerityApart", spec := "verityApart", inPlace := ["internal/bytealg.MakeNoZero"], apart := false, narrowed := true }
def VerityApartUptoSaid : Prop := verityApartUptoRow.holds Try.pinned (OpenSpec.upto verityApartSpec)

/-- 'portcullislaw19.FlashPlays', WHERE WHAT IT READS IS OF BULK AT MOST 1048576: true; the input reads as it did. -/
def flashPlaysUptoRow : OpenClaim := { program := "ytimlgkfhfofpbaa", sum := "0445ab6ad330e80d96bf7935f83c955cc5bb040f4b761a84221c74fc945522bd", func := "portcullis/portcullislaw19.FlashPlays", spec := "flashPlays", inPlace := ["internal/bytealg.MakeNoZero"], apart := false, narrowed := true }
def FlashPlaysUptoSaid : Prop := flashPlaysUptoRow.holds Try.pinned (OpenSpec.upto flashPlaysSpec)

end Rows
end Go.Proofs.Ytimlgkfhfofpbaa
