/- A slice of bools that came in, opened. No program here; no condition. -/
import Derived.Test.YtimlgkfhfofpbaaOpen
import Derived.Test.YtimlgkfhfofpbaaOtpAp
import Derived.Deep.Grids
namespace Go.Proofs.Ytimlgkfhfofpbaa
open Go.RowKit Go.ChangeShapes Go.WideShapes

theorem rowB_of {H : Type} {enc : TypeId × Value → H} {P : Program} {w : World} {base : Nat} {held : Bool} {t e : TypeId} {a : Option Addr} {len cap fuel : Nat} {x : DataW H × List MemPlace} (ht : P.underlying t = some (.slice e)) (he : P.underlying e = some .bool) (hc : P.cellsOf e = 1)
    (hf : DataW.trod enc P w base (fun _ => true) held fuel t (Value.slice a len cap).cells.toList = some x) : ∃ B, RowB w a len cap B := by
  rcases Go.Deep.open_bools ht he hc hf with ⟨hcs, _⟩ | ⟨x, l, c, B, hcs, _, hl, hm, _, hcell⟩
  · simp [Value.cells] at hcs
    obtain ⟨rfl, rfl, rfl⟩ := hcs
    exact ⟨fun _ => false, .inl ⟨rfl, rfl, rfl⟩⟩
  · simp [Value.cells] at hcs
    obtain ⟨rfl, rfl, rfl⟩ := hcs
    exact ⟨B, .inr ⟨_, rfl, hl, hm, hcell⟩⟩

end Go.Proofs.Ytimlgkfhfofpbaa
