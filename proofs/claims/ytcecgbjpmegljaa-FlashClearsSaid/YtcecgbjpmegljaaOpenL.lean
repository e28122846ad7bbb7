/- A list of lists of bytes that came in, opened. No condition. -/
import Derived.Test.YtcecgbjpmegljaaOpenS
import Derived.Test.YtcecgbjpmegljaaSrcA
namespace Go.Proofs.Ytcecgbjpmegljaa
open Go.RowKit Go.ChangeShapes Go.WideShapes

theorem list_of {Q : Nat → List Int → Prop} : ∀ n, (∀ i, i < n → ∃ l, Q i l) → ∃ L : List (List Int), L.length = n ∧ ∀ i, i < n → Q i (L.getD i [])
  | 0, _ => ⟨[], rfl, fun i h => absurd h (by omega)⟩
  | n + 1, h => by
    obtain ⟨L, hl, hq⟩ := list_of n (fun i hi => h i (by omega))
    obtain ⟨l, hn⟩ := h n (by omega)
    refine ⟨L ++ [l], by simp [hl], fun i hi => ?_⟩
    simp only [List.getD]
    rcases Nat.lt_or_ge i n with hlt | hge
    · rw [List.getElem?_append_left (by omega)]
      exact hq i hlt
    · obtain rfl : i = n := by omega
      rw [List.getElem?_append_right (by omega), hl, Nat.sub_self]
      exact hn

theorem rowL_of {H : Type} {enc : TypeId × Value → H} {w : World} {base : Nat} {held : Bool} {fuel : Nat} {a : Option Addr} {len cap : Nat} {x : DataW H × List MemPlace}
    (h : DataW.trod enc Try.prog w base (fun _ => true) held fuel 22 (Value.slice a len cap).cells.toList = some x) : ∃ L, SrcL w a len L ∧ ∀ l ∈ L, bytes l := by
  rcases slice_elems (n := 1) Try.underlying22 (by kernel_rfl) h with ⟨_, h0, _⟩ | ⟨ad, rfl, hl, hm, hi⟩
  · subst h0
    exact ⟨[], ⟨rfl, fun i h => absurd h (by omega)⟩, fun l h => by simp at h⟩
  · obtain ⟨L, hL, hq⟩ := list_of (Q := fun i l => bytes l ∧ ∃ si ci, w.cell? (ad.add i) = some (.slice si l.length ci) ∧ l.length ≤ ci ∧ Src w si l.length l) len (fun i hlt => by
      obtain ⟨cs, f, y, hlen, hcell, hr⟩ := hi i hlt
      obtain ⟨sa, len', cap', zs, rfl, hrow⟩ := fld_ints Try.underlying26 Try.underlying5 (by kernel_rfl) hr
      obtain ⟨q1, q2, q3⟩ := hrow.src
      have hc := hcell 0 _ rfl
      have e : (ad.add (i * 1)).add 0 = ad.add i := by
        rw [Nat.mul_one]
        show Addr.add _ 0 = _
        unfold Addr.add
        simp
      rw [e] at hc
      refine ⟨zs.take len', q2, sa, cap', ?_, by rw [q1.len]; exact q3, by rw [q1.len]; exact q1⟩
      rw [hc, q1.len])
    refine ⟨L, ⟨hL, fun i hlt => ?_⟩, fun l hm => ?_⟩
    · obtain ⟨_, si, ci, h1, h2, h3⟩ := hq i hlt
      exact ⟨ad, si, ci, rfl, h1, h2, h3⟩
    · obtain ⟨k, hk, rfl⟩ := List.getElem_of_mem hm
      have := (hq k (by omega)).1
      simpa [List.getD, hk] using this

end Go.Proofs.Ytcecgbjpmegljaa
