/- What the laws on the flash share: bytes as a string; the document's example (alive). No condition. -/
import Derived.Test.YtcecgbjpmegljaaFlH
import Derived.Laws.BytesArg
namespace Go.Proofs.Ytcecgbjpmegljaa
open Go.RowKit

theorem else_new {w : World} {p g : Nat} {s : Fl} (h : IsFl w p g s) (n : Nat) : elseW (some ⟨w.heap.size, 0, none⟩) n p g := by
  intro a ha
  cases ha
  have := h.lt
  exact .inr ⟨by show w.heap.size ≠ p; omega, by show w.heap.size ≠ g; omega⟩

/-- The steps of the example on plain data. -/
def al1 : Fl := (Fl.new 1).prog 0 [240]
def al2 : Fl := al1.prog 0 [15]
theorem al_facts : (Fl.new 1).progOk 0 ((1 : Nat) : Int) = true ∧ al1.progOk 0 ((1 : Nat) : Int) = true ∧ al2.readOk 0 2 = true ∧ al2.read 0 2 = [0, 255] ∧ al2.er = 0 ∧ al2.pr = 2 := by decide +kernel
theorem al_str : strOfNums [0, 255] = ⟨#[0, 255]⟩ := by decide +kernel
theorem al_flt : flt 0 = 0 ∧ flt 2 = 4611686018427387904 := by decide +kernel

end Go.Proofs.Ytcecgbjpmegljaa
