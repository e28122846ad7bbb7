/- Arguments of a law that hold structs, opened field by field. No program here; no condition. -/
import Derived.Test.YtcecgbjpmegljaaOpen
import Derived.Deep.Slices
namespace Go.Proofs.Ytcecgbjpmegljaa
open Go.RowKit Go.ChangeShapes Go.WideShapes

theorem plain_addr {w : World} {ad : Addr} {v : Value} (h : w.cell? ad = some v) : ∃ b o, ad = ⟨b, o, none⟩ := by
  obtain ⟨b, o, s⟩ := ad
  cases s with
  | none => exact ⟨b, o, rfl⟩
  | some s =>
    exfalso
    simp only [World.cell?, Option.isSome_some, if_true] at h
    split at h <;> cases h
theorem add_plain (b o i : Nat) : (⟨b, o, none⟩ : Addr).add i = ⟨b, o + i, none⟩ := by unfold Addr.add; split <;> simp_all

theorem RowI.below {k : IntKind} {w w' : World} {a : Option Addr} {len cap : Nat} {zs : List Int} (h : RowI k w a len cap zs) (hb : Below w.heap.size w w') : RowI k w' a len cap zs := by
  rcases h with h0 | ⟨x, h1, h2, h3, h4, h5, h6⟩
  · exact .inl h0
  · exact .inr ⟨x, h1, h2, h3, h4, fun i hi => below_cell hb (h5 i hi), h6⟩
theorem RowI.lt {k : IntKind} {w : World} {a : Option Addr} {len cap : Nat} {zs : List Int} (h : RowI k w a len cap zs) (x : Addr) (hx : a = some x) : len = 0 ∨ x.block < w.heap.size := by
  rcases h with ⟨rfl, _⟩ | ⟨y, rfl, h2, h3, h4, h5, h6⟩
  · cases hx
  · cases hx
    rcases Nat.eq_zero_or_pos len with h0 | h0
    · exact .inl h0
    · exact .inr (World.block_lt_of_cell? _ _ (h5 0 (by omega)))

section
variable {H : Type} {enc : TypeId × Value → H} {P : Program} {w : World} {base : Nat} {spare : Nat → Bool} {held : Bool} {fuel : Nat} {t e : TypeId} {cs l : List Value} {x y : DataW H × List MemPlace}

theorem flds {fs : Array Field} (ht : P.underlying t = some (.struct fs)) (h : DataW.trod enc P w base spare held fuel t cs = some x) :
    cs.length = P.cellsOf t ∧ ∃ n, ∀ (i ft off sz : Nat), (fs[i]?).map (fun f => (f.type, f.offset)) = some (ft, off) → P.cellsOf ft = sz → ∃ y, DataW.trod enc P w base spare held n ft ((cs.drop off).take sz) = some y := by
  obtain ⟨xs, n, _, _, hl, hx, hf⟩ := DataW.trod_struct ht h
  refine ⟨hl, n, fun i ft off sz hi hs => ?_⟩
  cases hfi : fs[i]? with
  | none => rw [hfi] at hi; cases hi
  | some f =>
    rw [hfi] at hi
    simp only [Option.map_some, Option.some.injEq, Prod.mk.injEq] at hi
    obtain ⟨rfl, rfl⟩ := hi
    subst hs
    have hlt : i < xs.length := by rw [hx]; exact (Array.getElem?_eq_some_iff.1 hfi).1
    exact ⟨_, (hf i f hfi).trans (List.getElem?_eq_getElem hlt)⟩

theorem fld_int {k : IntKind} (hu : P.underlying t = some (.int k)) (h : DataW.trod enc P w base spare held fuel t l = some y) : ∃ z, l = [.int k z] ∧ (Lit.int k z).wf = true := by
  obtain ⟨z, h1, _, h2⟩ := DataW.trod_int hu h
  exact ⟨z, h1, h2⟩

theorem fld_ints {k : IntKind} (hu : P.underlying t = some (.slice e)) (he : P.underlying e = some (.int k)) (hc : P.cellsOf e = 1) (h : DataW.trod enc P w base (fun _ => true) held fuel t l = some y) :
    ∃ a len cap zs, l = [.slice a len cap] ∧ RowI k w a len cap zs := by
  rcases open_ints hu he hc h with ⟨hcs, _⟩ | ⟨a, n, c, zs, hcs, _, hl, hm, hz, _, hcell, hwz⟩
  · exact ⟨none, 0, 0, [], hcs, .inl ⟨rfl, rfl, rfl, rfl⟩⟩
  · exact ⟨some a, n, c, zs, hcs, .inr ⟨a, rfl, hl, hm, by simpa using hz, hcell, hwz⟩⟩

theorem fld_arr {k : IntKind} {n : Nat} (hu : P.underlying t = some (.array n e)) (he : P.underlying e = some (.int k)) (hc : P.cellsOf e = 1) (hn : P.cellsOf t = n) (h : DataW.trod enc P w base spare held fuel t l = some y) :
    ∃ zs : List Int, l = zs.map (Value.int k) ∧ zs.length = n ∧ ∀ z ∈ zs, (Lit.int k z).wf = true := by
  obtain ⟨xs, m, _, _, hl, hx, hi⟩ := DataW.trod_array hu h
  rw [hc] at hi
  exact cells_ints (k := k) n l (by rw [← hn]; exact hl) (fun i h => by
    have := hi i h
    rw [List.getElem?_eq_getElem (show i < xs.length by omega)] at this
    obtain ⟨z, h1, _, h2⟩ := DataW.trod_int he this
    exact ⟨z, by simpa using h1, h2⟩)

/-- The elements of a slice that came in: the cells of each, and its reading. -/
theorem slice_elems {n : Nat} {a : Option Addr} {len cap : Nat} (ht : P.underlying t = some (.slice e)) (hn : P.cellsOf e = n) (h : DataW.trod enc P w base spare held fuel t (Value.slice a len cap).cells.toList = some x) :
    (a = none ∧ len = 0 ∧ cap = 0) ∨ ∃ ad, a = some ad ∧ len ≤ cap ∧ cap ≤ maxLen ∧ ∀ i, i < len → ∃ cs f y, cs.length = n ∧ (∀ j v, cs[j]? = some v → w.cell? ((ad.add (i * n)).add j) = some v) ∧ DataW.trod enc P w base spare held f e cs = some y := by
  subst hn
  rcases Go.Deep.open_slice ht h with ⟨h0, _⟩ | ⟨ad, l, c, m, f, D, Pl, hcs, _, hl, hm, hmm, _, hi⟩
  · simp [Value.cells] at h0
    exact .inl h0
  · simp [Value.cells] at hcs
    obtain ⟨rfl, rfl, rfl⟩ := hcs
    refine .inr ⟨ad, rfl, hl, hm, fun i hlt => ?_⟩
    obtain ⟨cs, hc, hr⟩ := hi i (by subst hmm; split <;> omega)
    obtain ⟨_, hlen, hget⟩ := World.cells?_some hc
    refine ⟨cs, f, _, hlen, fun j v hv => ?_, hr⟩
    rw [hget j (by rw [← hlen]; exact (List.getElem?_eq_some_iff.1 hv).1), hv]
end
end Go.Proofs.Ytcecgbjpmegljaa
