/- What the laws on the flash share: bytes as a string; the document's example (alive). No condition. -/
import Derived.Test.YtimlgkfhfofpbaaFlH
import Derived.Laws.BytesArg
namespace Go.Proofs.Ytimlgkfhfofpbaa
open Go.RowKit

theorem Owns.str {w : World} {B : Nat} {v : Value} {xs : List Int} (h : Owns w B v xs) : (convert 49 9 v).run Try.prog w = .ok (.string (strOfNums xs)) w := by
  obtain ⟨g, cap, sp, rfl, _, hg, _, _⟩ := h
  refine run_convert_bytes_arg w 49 5 Try.underlying49 Try.underlying5 g 0 _ _ xs rfl (fun i hi => ?_) 9 Try.underlying9
  rw [Nat.zero_add, cell_blk hg, row8_get _ _ _ hi]

theorem Owns.kept {T : Nat → Prop} {w w' : World} {B : Nat} {v : Value} {xs : List Int} (h : Owns w B v xs) (k : Kept T w w') (hT : ∀ g, B ≤ g → g < w.heap.size → ¬ T g) : Owns w' B v xs := by
  obtain ⟨g, cap, sp, hv, hB, hg, h1, h2⟩ := h
  exact ⟨g, cap, sp, hv, hB, k.blk hg (hT g hB (blk_lt hg)), h1, h2⟩
theorem Owns.mono {w : World} {B B' : Nat} {v : Value} {xs : List Int} (h : Owns w B v xs) (hB : B' ≤ B) : Owns w B' v xs := by
  obtain ⟨g, cap, sp, hv, h0, hg, h1, h2⟩ := h
  exact ⟨g, cap, sp, hv, by omega, hg, h1, h2⟩
theorem Owns.drewN {w : World} {B : Nat} {v : Value} {xs : List Int} (h : Owns w B v xs) (n : Nat) : Owns (w.drewN n) B v xs := h

/-- A byte in a block of its own, as what is programmed. -/
theorem src_one (w : World) (x : Int) : Src (w.alloc (.cells #[.int .u8 x] 5)) (some ⟨w.heap.size, 0, none⟩) 1 [x] := by
  refine ⟨rfl, fun i hi => ⟨_, rfl, ?_⟩⟩
  obtain rfl : i = 0 := by omega
  rw [show (⟨w.heap.size, 0, none⟩ : Addr).add 0 = ⟨w.heap.size, 0, none⟩ from rfl, cell_blk (blk_new w _)]
  rfl
theorem else_new {w : World} {p g : Nat} {s : Fl} (h : IsFl w p g s) (n : Nat) : elseW (some ⟨w.heap.size, 0, none⟩) n p g := by
  intro a ha
  cases ha
  have := h.lt
  exact .inr ⟨by show w.heap.size ≠ p; omega, by show w.heap.size ≠ g; omega⟩

/-- The steps of the example on plain data. -/
def al1 : Fl := (Fl.new 1).prog 0 [240]
def al2 : Fl := al1.prog 0 [15]
theorem al_facts : (Fl.new 1).progOk 0 ((1 : Nat) : Int) = true ∧ al1.progOk 0 ((1 : Nat) : Int) = true ∧ al2.readOk 0 2 = true ∧ al2.read 0 2 = [0, 255] ∧ al2.er = 0 ∧ al2.pr = 2 := by decide +kernel
theorem al_str : strOfNums [0, 255] = ⟨#[0, 255]⟩ := by decide +kernel
theorem al_flt : flt 0 = 0 ∧ flt 2 = 4611686018427387904 := by decide +kernel

end Go.Proofs.Ytimlgkfhfofpbaa
