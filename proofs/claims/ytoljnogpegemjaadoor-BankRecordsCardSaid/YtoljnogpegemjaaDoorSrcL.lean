/- Lists of bytes: a slice of slices of bytes as a source. No condition. -/
import Derived.Test.YtoljnogpegemjaaDoorByt
namespace Go.Proofs.YtoljnogpegemjaaDoor
open Go.RowKit

/-- n lists of bytes lie behind the address sa (whatever it is where there are none). -/
structure SrcL (w : World) (sa : Option Addr) (n : Nat) (L : List (List Int)) : Prop where
  len : L.length = n
  cell : ∀ i, i < n → ∃ a si ci, sa = some a ∧ w.cell? (a.add i) = some (.slice si (L.getD i []).length ci) ∧ (L.getD i []).length ≤ ci ∧ Src w si (L.getD i []).length (L.getD i [])
theorem SrcL.below {w w' : World} {sa : Option Addr} {n : Nat} {L : List (List Int)} (h : SrcL w sa n L) (k : Below w.heap.size w w') : SrcL w' sa n L := by
  refine ⟨h.len, fun i hi => ?_⟩
  obtain ⟨a, si, ci, h1, h2, h3, h4⟩ := h.cell i hi
  exact ⟨a, si, ci, h1, (k.cell (World.block_lt_of_cell? w _ h2)).trans h2, h3, h4.below k⟩
def bytes (xs : List Int) : Prop := ∀ x ∈ xs, 0 ≤ x ∧ x ≤ 255
theorem bytes_at {xs : List Int} (h : bytes xs) (i : Nat) : 0 ≤ xs.getD i 0 ∧ xs.getD i 0 ≤ 255 := by
  simp only [List.getD]
  cases e : xs[i]? with
  | none => simp
  | some y => simpa using h y (List.mem_of_getElem? e)
theorem take_snoc {α : Type} (xs : List α) (i : Nat) (d : α) (h : i < xs.length) : xs.take (i + 1) = xs.take i ++ [xs.getD i d] := by
  rw [List.take_succ_eq_append_getElem h]
  simp [List.getD, h]
theorem flat_snoc (L : List (List Int)) (i : Nat) (h : i < L.length) : (L.take (i + 1)).flatten = (L.take i).flatten ++ L.getD i [] := by
  rw [take_snoc L i [] h, List.flatten_append]
  simp
theorem flat_le (L : List (List Int)) (i : Nat) (h : i < L.length) : (L.take i).flatten.length + (L.getD i []).length ≤ L.flatten.length := by
  have e := congrArg List.length (flat_snoc L i h)
  rw [List.length_append] at e
  rw [← e]
  have e2 : L.flatten = (L.take (i + 1)).flatten ++ (L.drop (i + 1)).flatten := by rw [← List.flatten_append, List.take_append_drop]
  rw [e2, List.length_append]
  omega
end Go.Proofs.YtoljnogpegemjaaDoor
