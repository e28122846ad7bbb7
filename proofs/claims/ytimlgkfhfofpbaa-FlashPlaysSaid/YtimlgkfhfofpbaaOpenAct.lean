/- A row of calls ([]portcullislaw19.Act) that came in, opened. No condition. -/
import Derived.Test.YtimlgkfhfofpbaaOpenS
import Derived.Test.YtimlgkfhfofpbaaChecked
namespace Go.Proofs.Ytimlgkfhfofpbaa
open Go.RowKit Go.ChangeShapes Go.WideShapes

/-- A call, as plain data. -/
structure ActD where
  way : Int
  n : Int
  m : Int
  sa : Option Addr
  len : Nat
  cap : Nat
  zs : List Int
  o : Int
  c : Int
def ActD.cells (d : ActD) : List Value := [.int .i64 d.way, .int .i64 d.n, .int .i64 d.m, .slice d.sa d.len d.cap, .int .i64 d.o, .int .i64 d.c]
structure ActD.Ok (w : World) (d : ActD) : Prop where
  row : RowI .u8 w d.sa d.len d.cap d.zs
  o : d.o ≤ 9223372036854775807

theorem ActD.Ok.below {w w' : World} {d : ActD} (h : d.Ok w) (k : Below w.heap.size w w') : d.Ok w' := ⟨h.row.below k, h.o⟩
theorem ActD.Ok.lt {w : World} {d : ActD} (h : d.Ok w) (a : Addr) (ha : d.sa = some a) : d.len = 0 ∨ a.block < w.heap.size := h.row.lt a ha

def RowAct (w : World) (a : Option Addr) (len cap : Nat) : Prop :=
  (a = none ∧ len = 0 ∧ cap = 0) ∨ ∃ ad, a = some ad ∧ len ≤ cap ∧ cap ≤ maxLen ∧ ∀ i, i < len → ∃ d : ActD, (∀ j v, d.cells[j]? = some v → w.cell? ((ad.add (i * 6)).add j) = some v) ∧ d.Ok w

theorem RowAct.at {w : World} {a : Option Addr} {len cap : Nat} (h : RowAct w a len cap) (k : Nat) (hk : k < len) :
    ∃ b o, a = some ⟨b, o, none⟩ ∧ len ≤ cap ∧ ∃ d : ActD, (∀ j v, d.cells[j]? = some v → w.cell? ⟨b, o + k * 6 + j, none⟩ = some v) ∧ d.Ok w := by
  rcases h with ⟨_, h0, _⟩ | ⟨ad, ha, hl, _, hi⟩
  · omega
  · obtain ⟨d0, h0, _⟩ := hi 0 (by omega)
    obtain ⟨b, o, rfl⟩ := plain_addr (h0 0 _ rfl)
    obtain ⟨d, h1, h2⟩ := hi k hk
    refine ⟨b, o, ha, hl, d, fun j v hv => ?_, h2⟩
    have := h1 j v hv
    rwa [add_plain, add_plain] at this

theorem rowAct_of {H : Type} {enc : TypeId × Value → H} {w : World} {base : Nat} {held : Bool} {fuel : Nat} {a : Option Addr} {len cap : Nat} {x : DataW H × List MemPlace}
    (h : DataW.trod enc Try.prog w base (fun _ => true) held fuel 70 (Value.slice a len cap).cells.toList = some x) : RowAct w a len cap := by
  rcases slice_elems (n := 6) Try.underlying70 (by kernel_rfl) h with h0 | ⟨ad, ha, hl, hm, hi⟩
  · exact .inl h0
  refine .inr ⟨ad, ha, hl, hm, fun i hlt => ?_⟩
  obtain ⟨cs, f, y, hlen, hcell, hr⟩ := hi i hlt
  obtain ⟨_, n, hf⟩ := flds Try.underlying72 hr
  obtain ⟨y0, h0⟩ := hf 0 3 0 1 rfl (by kernel_rfl)
  obtain ⟨y1, h1⟩ := hf 1 3 1 1 rfl (by kernel_rfl)
  obtain ⟨y2, h2⟩ := hf 2 3 2 1 rfl (by kernel_rfl)
  obtain ⟨y3, h3⟩ := hf 3 49 3 1 rfl (by kernel_rfl)
  obtain ⟨y4, h4⟩ := hf 4 24 4 2 rfl (by kernel_rfl)
  obtain ⟨z0, e0, _⟩ := fld_int Try.underlying3 h0
  obtain ⟨z1, e1, _⟩ := fld_int Try.underlying3 h1
  obtain ⟨z2, e2, _⟩ := fld_int Try.underlying3 h2
  obtain ⟨sa, len', cap', zs, e3, hrow⟩ := fld_ints Try.underlying49 Try.underlying5 (by kernel_rfl) h3
  obtain ⟨_, n', hf'⟩ := flds Try.underlying24 h4
  obtain ⟨y5, h5⟩ := hf' 0 3 0 1 rfl (by kernel_rfl)
  obtain ⟨y6, h6⟩ := hf' 1 3 1 1 rfl (by kernel_rfl)
  obtain ⟨z5, e5, w5⟩ := fld_int Try.underlying3 h5
  obtain ⟨z6, e6, _⟩ := fld_int Try.underlying3 h6
  refine ⟨⟨z0, z1, z2, sa, len', cap', zs, z5, z6⟩, ?_, hrow, (wf_i64 w5).2⟩
  match cs, hlen with
  | [c0, c1, c2, c3, c4, c5], _ =>
    simp at e0 e1 e2 e3 e5 e6
    subst e0 e1 e2 e3 e5 e6
    exact hcell

end Go.Proofs.Ytimlgkfhfofpbaa
