/- Arguments of a law, opened: slices of integers and of bools, arrays of integers and structs of integers by value. No program here; no condition. -/
import Derived.Test.YtoljnogpegemjaaDoorBase
import Derived.ProofKit
import Derived.OpenShut
namespace Go.Proofs.YtoljnogpegemjaaDoor
open Go.RowKit Go.ChangeShapes Go.WideShapes

/-- A slice of integers that came in. -/
def RowI (k : IntKind) (w : World) (a : Option Addr) (len cap : Nat) (zs : List Int) : Prop :=
  (a = none ∧ len = 0 ∧ cap = 0 ∧ zs = []) ∨
  ∃ x, a = some x ∧ len ≤ cap ∧ cap ≤ maxLen ∧ zs.length = cap ∧ (∀ i, i < zs.length → w.cell? (x.add i) = some (.int k (zs.getD i 0))) ∧ ∀ n ∈ zs, (Lit.int k n).wf = true

/-- An array of n integers by value. -/
def ArrOf (k : IntKind) (n : Nat) (v : Value) (zs : List Int) : Prop := v = .agg (zs.map (Value.int k)).toArray ∧ zs.length = n ∧ ∀ z ∈ zs, (Lit.int k z).wf = true

section
variable {H : Type} {enc : TypeId × Value → H} {P : Program} {w : World} {base : Nat} {spare : Nat → Bool} {held : Bool}

theorem okWide_arr {r : Reach} {b0 : Nat} {t e : TypeId} {n : Nat} {v : Value} (ht : P.underlying t = some (.array n e)) (h : Value.okWide P w r b0 t v) : ∃ cs, v = .agg cs ∧ cs.size = P.cellsOf t := by
  simp only [Value.okWide, ht] at h
  obtain ⟨cs, h1, h2, _⟩ := h
  exact ⟨cs, h1, h2⟩

theorem row_of {k : IntKind} {t e : TypeId} {a : Option Addr} {len cap fuel : Nat} {x : DataW H × List MemPlace} (ht : P.underlying t = some (.slice e)) (he : P.underlying e = some (.int k)) (hc : P.cellsOf e = 1)
    (hf : DataW.trod enc P w base (fun _ => true) held fuel t (Value.slice a len cap).cells.toList = some x) : ∃ zs, RowI k w a len cap zs := by
  rcases open_ints ht he hc hf with ⟨hcs, _⟩ | ⟨x, l, c, zs, hcs, _, hl, hm, hz, _, hcell, hwz⟩
  · simp [Value.cells] at hcs
    obtain ⟨rfl, rfl, rfl⟩ := hcs
    exact ⟨[], .inl ⟨rfl, rfl, rfl, rfl⟩⟩
  · simp [Value.cells] at hcs
    obtain ⟨rfl, rfl, rfl⟩ := hcs
    exact ⟨zs, .inr ⟨_, rfl, hl, hm, by simpa using hz, hcell, hwz⟩⟩

theorem cells_ints {k : IntKind} : ∀ (n : Nat) (cs : List Value), cs.length = n → (∀ i, i < n → ∃ z, (cs.drop i).take 1 = [.int k z] ∧ (Lit.int k z).wf = true) → ∃ zs : List Int, cs = zs.map (Value.int k) ∧ zs.length = n ∧ ∀ z ∈ zs, (Lit.int k z).wf = true
  | 0, cs, hl, _ => ⟨[], by simpa using List.eq_nil_of_length_eq_zero hl, rfl, by simp⟩
  | n + 1, cs, hl, h => by
    cases cs with
    | nil => simp at hl
    | cons c cs =>
      obtain ⟨z, h1, h2⟩ := h 0 (by omega)
      simp at h1
      obtain ⟨zs, e, l, m⟩ := cells_ints n cs (by simpa using hl) (fun i hi => by simpa using h (i + 1) (by omega))
      refine ⟨z :: zs, by simp [h1, e], by simp [l], ?_⟩
      intro y hy
      rcases List.mem_cons.1 hy with rfl | hy
      · exact h2
      · exact m y hy

theorem arr_of {k : IntKind} {r : Reach} {b0 : Nat} {t e : TypeId} {n : Nat} {v : Value} {d : DataW H} {p : List MemPlace} (ht : P.underlying t = some (.array n e)) (he : P.underlying e = some (.int k)) (hc : P.cellsOf e = 1) (hn : P.cellsOf t = n)
    (hv : Value.okWide P w r b0 t v) (h : DataW.Trod enc P w base spare held t v d p) : ∃ zs, ArrOf k n v zs := by
  obtain ⟨cs, rfl, hs⟩ := okWide_arr ht hv
  obtain ⟨fuel, hf⟩ := h
  obtain ⟨xs, m, _, _, hl, hx, hi⟩ := DataW.trod_array ht hf
  rw [hc] at hi
  have hl' : cs.toList.length = n := by rw [← hn]; exact hl
  obtain ⟨zs, e1, e2, e3⟩ := cells_ints (k := k) n cs.toList hl' (fun i h => by
    have := hi i h
    have hsome : ∃ y, xs[i]? = some y := ⟨xs[i], by rw [List.getElem?_eq_getElem]⟩
    obtain ⟨y, hy⟩ := hsome
    rw [hy] at this
    obtain ⟨z, h1, _, h2⟩ := DataW.trod_int he this
    refine ⟨z, ?_, h2⟩
    simpa [Value.cells] using h1)
  exact ⟨zs, by congr 1; apply Array.toList_inj.1; simpa using e1, e2, e3⟩

theorem wf_u8 {n : Int} (h : (Lit.int .u8 n).wf = true) : 0 ≤ n ∧ n ≤ 255 := bounds_u8 h
theorem wf_i64 {n : Int} (h : (Lit.int .i64 n).wf = true) : -9223372036854775808 ≤ n ∧ n ≤ 9223372036854775807 := bounds_i64 h
end
end Go.Proofs.YtoljnogpegemjaaDoor
