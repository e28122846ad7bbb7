/- A slice of bytes that came in, as a source; as a string, wherever it lies. No condition. -/
import Derived.Test.YtoljnogpegemjaaDoorOpen
import Derived.Test.YtoljnogpegemjaaDoorSrcL
import Derived.Test.YtoljnogpegemjaaDoorByt
namespace Go.Proofs.YtoljnogpegemjaaDoor
open Go.RowKit

theorem RowI.src {w : World} {a : Option Addr} {len cap : Nat} {zs : List Int} (h : RowI .u8 w a len cap zs) : Src w a len (zs.take len) ∧ bytes (zs.take len) ∧ len ≤ cap := by
  rcases h with ⟨rfl, rfl, rfl, rfl⟩ | ⟨x, rfl, hl, hm, hz, hc, hw⟩
  · exact ⟨⟨rfl, fun i hi => absurd hi (by omega)⟩, fun x hx => by simp at hx, Nat.le_refl _⟩
  · refine ⟨⟨by simp; omega, fun i hi => ⟨x, rfl, ?_⟩⟩, fun y hy => wf_u8 (hw y (List.mem_of_mem_take hy)), hl⟩
    rw [hc i (by omega)]
    simp [List.getD, hi]

theorem src_string {w : World} {sa : Option Addr} {n c : Nat} {xs : List Int} (h : Src w sa n xs) : (convert 24 9 (.slice sa n c)).run Tryd.prog w = .ok (.string (strOfNums xs)) w := by
  cases sa with
  | none =>
    have h0 : n = 0 := by
      rcases Nat.eq_zero_or_pos n with h0 | h0
      · exact h0
      · obtain ⟨_, he, _⟩ := h.cell 0 h0
        cases he
    have hx : xs = [] := List.eq_nil_of_length_eq_zero (h.len.trans h0)
    subst hx
    exact run_convert_bytes_nil w 24 5 Tryd.underlying24 Tryd.underlying5 n c 9 Tryd.underlying9
  | some a =>
    have hl : (loadCells a n).run Tryd.prog w = .ok (xs.map (Value.int .u8)).toArray w := by
      have := run_loadCells_list (P := Tryd.prog) w a (xs.map (Value.int .u8)) (src_news h a rfl)
      simpa [h.len] using this
    rw [run_convert_bytes_string w 24 9 5 _ n c Tryd.underlying24 Tryd.underlying5 Tryd.underlying9, run_bytesToString w _ n c xs hl, foldl_push_bytes]
    simp [strOfNums, ByteArray.empty, ByteArray.emptyWithCapacity]
    rfl

theorem Src.take {w : World} {sa : Option Addr} {n : Nat} {xs : List Int} (h : Src w sa n xs) (m : Nat) (hm : m ≤ n) : Src w sa m (xs.take m) := by
  refine ⟨by simp; have := h.len; omega, fun i hi => ?_⟩
  obtain ⟨a, e, hc⟩ := h.cell i (by omega)
  refine ⟨a, e, ?_⟩
  rw [hc]
  simp [List.getD, hi]
/-- A part of a source. -/
theorem Src.part {w : World} {ad : Addr} {n : Nat} {xs : List Int} (h : Src w (some ad) n xs) (o m : Nat) (hm : o + m ≤ n) : Src w (some (ad.add o)) m ((xs.drop o).take m) := by
  refine ⟨by simp; have := h.len; omega, fun i hi => ⟨_, rfl, ?_⟩⟩
  obtain ⟨a, e, hc⟩ := h.cell (o + i) (by omega)
  cases e
  have : (ad.add o).add i = ad.add (o + i) := by
    obtain ⟨b, off, s⟩ := ad
    unfold Addr.add
    by_cases ho : o = 0
    · subst ho; simp
    · by_cases hj : i = 0
      · subst hj; simp
      · simp [ho, hj, Nat.add_assoc]
  rw [this, hc]
  simp [List.getD, hi, List.getElem?_drop]

end Go.Proofs.YtoljnogpegemjaaDoor
