/- Arguments of a law, opened: slices of integers and of bools, arrays of integers and structs of integers by value. Condition: as each theorem says. -/
import Derived.Test.YtogebegdgfdijaaDoorMa
import Derived.ProofKit
import Derived.OpenShut
import Derived.Deep.Slices
import Derived.StillTailTactics
set_option maxRecDepth 100000
set_option maxHeartbeats 16000000
set_option linter.unusedSimpArgs false
set_option linter.unusedVariables false
namespace Go.Proofs.YtogebegdgfdijaaDoor
open Go.RowKit Go.ChangeShapes Go.WideShapes
/-- A slice of integers that came in. -/
def RowI (k : IntKind) (w : World) (a : Option Addr) (len cap : Nat) (zs : List Int) : Prop :=
  (a = none ∧ len = 0 ∧ cap = 0 ∧ zs = []) ∨
  ∃ x, a = some x ∧ len ≤ cap ∧ cap ≤ maxLen ∧ zs.length = cap ∧ (∀ i, i < zs.length → w.cell? (x.add i) = some (.int k (zs.getD i 0))) ∧ ∀ n ∈ zs, (Lit.int k n).wf = true
/-- An array of n integers by value. -/
def ArrOf (k : IntKind) (n : Nat) (v : Value) (zs : List Int) : Prop := v = .agg (zs.map (Value.int k)).toArray ∧ zs.length = n ∧ ∀ z ∈ zs, (Lit.int k z).wf = true
section
variable {H : Type} {enc : TypeId × Value → H} {P : Program} {w : World} {base : Nat} {spare : Nat → Bool} {held : Bool}
theorem okWide_arr {r : Reach} {b0 : Nat} {t e : TypeId} {n : Nat} {v : Value} (ht : P.underlying t = some (.array n e)) (h : Value.okWide P w r b0 t v) : ∃ cs, v = .agg cs ∧ cs.size = P.cellsOf t := by
  simp only [Value.okWide, ht] at h
  obtain ⟨cs, h1, h2, _⟩ := h
  exact ⟨cs, h1, h2⟩
theorem row_of {k : IntKind} {t e : TypeId} {a : Option Addr} {len cap fuel : Nat} {x : DataW H × List MemPlace} (ht : P.underlying t = some (.slice e)) (he : P.underlying e = some (.int k)) (hc : P.cellsOf e = 1)
    (hf : DataW.trod enc P w base (fun _ => true) held fuel t (Value.slice a len cap).cells.toList = some x) : ∃ zs, RowI k w a len cap zs := by
  rcases open_ints ht he hc hf with ⟨hcs, _⟩ | ⟨x, l, c, zs, hcs, _, hl, hm, hz, _, hcell, hwz⟩
  · simp [Value.cells] at hcs
    obtain ⟨rfl, rfl, rfl⟩ := hcs
    exact ⟨[], .inl ⟨rfl, rfl, rfl, rfl⟩⟩
  · simp [Value.cells] at hcs
    obtain ⟨rfl, rfl, rfl⟩ := hcs
    exact ⟨zs, .inr ⟨_, rfl, hl, hm, by simpa using hz, hcell, hwz⟩⟩
theorem cells_ints {k : IntKind} : ∀ (n : Nat) (cs : List Value), cs.length = n → (∀ i, i < n → ∃ z, (cs.drop i).take 1 = [.int k z] ∧ (Lit.int k z).wf = true) → ∃ zs : List Int, cs = zs.map (Value.int k) ∧ zs.length = n ∧ ∀ z ∈ zs, (Lit.int k z).wf = true
  | 0, cs, hl, _ => ⟨[], by simpa using List.eq_nil_of_length_eq_zero hl, rfl, by simp⟩
  | n + 1, cs, hl, h => by
    cases cs with
    | nil => simp at hl
    | cons c cs =>
      obtain ⟨z, h1, h2⟩ := h 0 (by omega)
      simp at h1
      obtain ⟨zs, e, l, m⟩ := cells_ints n cs (by simpa using hl) (fun i hi => by simpa using h (i + 1) (by omega))
      refine ⟨z :: zs, by simp [h1, e], by simp [l], ?_⟩
      intro y hy
      rcases List.mem_cons.1 hy with rfl | hy
      · exact h2
      · exact m y hy
theorem arr_of {k : IntKind} {r : Reach} {b0 : Nat} {t e : TypeId} {n : Nat} {v : Value} {d : DataW H} {p : List MemPlace} (ht : P.underlying t = some (.array n e)) (he : P.underlying e = some (.int k)) (hc : P.cellsOf e = 1) (hn : P.cellsOf t = n)
    (hv : Value.okWide P w r b0 t v) (h : DataW.Trod enc P w base spare held t v d p) : ∃ zs, ArrOf k n v zs := by
  obtain ⟨cs, rfl, hs⟩ := okWide_arr ht hv
  obtain ⟨fuel, hf⟩ := h
  obtain ⟨xs, m, _, _, hl, hx, hi⟩ := DataW.trod_array ht hf
  rw [hc] at hi
  have hl' : cs.toList.length = n := by rw [← hn]; exact hl
  obtain ⟨zs, e1, e2, e3⟩ := cells_ints (k := k) n cs.toList hl' (fun i h => by
    have := hi i h
    have hsome : ∃ y, xs[i]? = some y := ⟨xs[i], by rw [List.getElem?_eq_getElem]⟩
    obtain ⟨y, hy⟩ := hsome
    rw [hy] at this
    obtain ⟨z, h1, _, h2⟩ := DataW.trod_int he this
    refine ⟨z, ?_, h2⟩
    simpa [Value.cells] using h1)
  exact ⟨zs, by congr 1; apply Array.toList_inj.1; simpa using e1, e2, e3⟩
theorem wf_u8 {n : Int} (h : (Lit.int .u8 n).wf = true) : 0 ≤ n ∧ n ≤ 255 := bounds_u8 h
theorem wf_i64 {n : Int} (h : (Lit.int .i64 n).wf = true) : -9223372036854775808 ≤ n ∧ n ≤ 9223372036854775807 := bounds_i64 h
end
end Go.Proofs.YtogebegdgfdijaaDoor
namespace Go.Proofs.YtogebegdgfdijaaDoor
open Go.RowKit
theorem RowI.src {w : World} {a : Option Addr} {len cap : Nat} {zs : List Int} (h : RowI .u8 w a len cap zs) : Src w a len (zs.take len) ∧ bytes (zs.take len) ∧ len ≤ cap := by
  rcases h with ⟨rfl, rfl, rfl, rfl⟩ | ⟨x, rfl, hl, hm, hz, hc, hw⟩
  · exact ⟨⟨rfl, fun i hi => absurd hi (by omega)⟩, fun x hx => by simp at hx, Nat.le_refl _⟩
  · refine ⟨⟨by simp; omega, fun i hi => ⟨x, rfl, ?_⟩⟩, fun y hy => wf_u8 (hw y (List.mem_of_mem_take hy)), hl⟩
    rw [hc i (by omega)]
    simp [List.getD, hi]
theorem src_string {w : World} {sa : Option Addr} {n c : Nat} {xs : List Int} (h : Src w sa n xs) : (convert 25 9 (.slice sa n c)).run Tryd.prog w = .ok (.string (strOfNums xs)) w := by
  cases sa with
  | none =>
    have h0 : n = 0 := by
      rcases Nat.eq_zero_or_pos n with h0 | h0
      · exact h0
      · obtain ⟨_, he, _⟩ := h.cell 0 h0
        cases he
    have hx : xs = [] := List.eq_nil_of_length_eq_zero (h.len.trans h0)
    subst hx
    exact run_convert_bytes_nil w 25 5 Tryd.underlying25 Tryd.underlying5 n c 9 Tryd.underlying9
  | some a =>
    have hl : (loadCells a n).run Tryd.prog w = .ok (xs.map (Value.int .u8)).toArray w := by
      have := run_loadCells_list (P := Tryd.prog) w a (xs.map (Value.int .u8)) (src_news h a rfl)
      simpa [h.len] using this
    rw [run_convert_bytes_string w 25 9 5 _ n c Tryd.underlying25 Tryd.underlying5 Tryd.underlying9, run_bytesToString w _ n c xs hl, foldl_push_bytes]
    simp [strOfNums, ByteArray.empty, ByteArray.emptyWithCapacity]
    rfl
theorem Src.take {w : World} {sa : Option Addr} {n : Nat} {xs : List Int} (h : Src w sa n xs) (m : Nat) (hm : m ≤ n) : Src w sa m (xs.take m) := by
  refine ⟨by simp; have := h.len; omega, fun i hi => ?_⟩
  obtain ⟨a, e, hc⟩ := h.cell i (by omega)
  refine ⟨a, e, ?_⟩
  rw [hc]
  simp [List.getD, hi]
/-- A part of a source. -/
theorem Src.part {w : World} {ad : Addr} {n : Nat} {xs : List Int} (h : Src w (some ad) n xs) (o m : Nat) (hm : o + m ≤ n) : Src w (some (ad.add o)) m ((xs.drop o).take m) := by
  refine ⟨by simp; have := h.len; omega, fun i hi => ⟨_, rfl, ?_⟩⟩
  obtain ⟨a, e, hc⟩ := h.cell (o + i) (by omega)
  cases e
  have : (ad.add o).add i = ad.add (o + i) := by
    obtain ⟨b, off, s⟩ := ad
    unfold Addr.add
    by_cases ho : o = 0
    · subst ho; simp
    · by_cases hj : i = 0
      · subst hj; simp
      · simp [ho, hj, Nat.add_assoc]
  rw [this, hc]
  simp [List.getD, hi, List.getElem?_drop]
end Go.Proofs.YtogebegdgfdijaaDoor
namespace Go.Proofs.YtogebegdgfdijaaDoor
open Go.RowKit Go.ChangeShapes Go.WideShapes
theorem plain_addr {w : World} {ad : Addr} {v : Value} (h : w.cell? ad = some v) : ∃ b o, ad = ⟨b, o, none⟩ := by
  obtain ⟨b, o, s⟩ := ad
  cases s with
  | none => exact ⟨b, o, rfl⟩
  | some s =>
    exfalso
    simp only [World.cell?, Option.isSome_some, if_true] at h
    split at h <;> cases h
theorem add_plain (b o i : Nat) : (⟨b, o, none⟩ : Addr).add i = ⟨b, o + i, none⟩ := by unfold Addr.add; split <;> simp_all
theorem RowI.below {k : IntKind} {w w' : World} {a : Option Addr} {len cap : Nat} {zs : List Int} (h : RowI k w a len cap zs) (hb : Below w.heap.size w w') : RowI k w' a len cap zs := by
  rcases h with h0 | ⟨x, h1, h2, h3, h4, h5, h6⟩
  · exact .inl h0
  · exact .inr ⟨x, h1, h2, h3, h4, fun i hi => below_cell hb (h5 i hi), h6⟩
theorem RowI.lt {k : IntKind} {w : World} {a : Option Addr} {len cap : Nat} {zs : List Int} (h : RowI k w a len cap zs) (x : Addr) (hx : a = some x) : len = 0 ∨ x.block < w.heap.size := by
  rcases h with ⟨rfl, _⟩ | ⟨y, rfl, h2, h3, h4, h5, h6⟩
  · cases hx
  · cases hx
    rcases Nat.eq_zero_or_pos len with h0 | h0
    · exact .inl h0
    · exact .inr (World.block_lt_of_cell? _ _ (h5 0 (by omega)))
section
variable {H : Type} {enc : TypeId × Value → H} {P : Program} {w : World} {base : Nat} {spare : Nat → Bool} {held : Bool} {fuel : Nat} {t e : TypeId} {cs l : List Value} {x y : DataW H × List MemPlace}
theorem flds {fs : Array Field} (ht : P.underlying t = some (.struct fs)) (h : DataW.trod enc P w base spare held fuel t cs = some x) :
    cs.length = P.cellsOf t ∧ ∃ n, ∀ (i ft off sz : Nat), (fs[i]?).map (fun f => (f.type, f.offset)) = some (ft, off) → P.cellsOf ft = sz → ∃ y, DataW.trod enc P w base spare held n ft ((cs.drop off).take sz) = some y := by
  obtain ⟨xs, n, _, _, hl, hx, hf⟩ := DataW.trod_struct ht h
  refine ⟨hl, n, fun i ft off sz hi hs => ?_⟩
  cases hfi : fs[i]? with
  | none => rw [hfi] at hi; cases hi
  | some f =>
    rw [hfi] at hi
    simp only [Option.map_some, Option.some.injEq, Prod.mk.injEq] at hi
    obtain ⟨rfl, rfl⟩ := hi
    subst hs
    have hlt : i < xs.length := by rw [hx]; exact (Array.getElem?_eq_some_iff.1 hfi).1
    exact ⟨_, (hf i f hfi).trans (List.getElem?_eq_getElem hlt)⟩
theorem fld_int {k : IntKind} (hu : P.underlying t = some (.int k)) (h : DataW.trod enc P w base spare held fuel t l = some y) : ∃ z, l = [.int k z] ∧ (Lit.int k z).wf = true := by
  obtain ⟨z, h1, _, h2⟩ := DataW.trod_int hu h
  exact ⟨z, h1, h2⟩
theorem fld_ints {k : IntKind} (hu : P.underlying t = some (.slice e)) (he : P.underlying e = some (.int k)) (hc : P.cellsOf e = 1) (h : DataW.trod enc P w base (fun _ => true) held fuel t l = some y) :
    ∃ a len cap zs, l = [.slice a len cap] ∧ RowI k w a len cap zs := by
  rcases open_ints hu he hc h with ⟨hcs, _⟩ | ⟨a, n, c, zs, hcs, _, hl, hm, hz, _, hcell, hwz⟩
  · exact ⟨none, 0, 0, [], hcs, .inl ⟨rfl, rfl, rfl, rfl⟩⟩
  · exact ⟨some a, n, c, zs, hcs, .inr ⟨a, rfl, hl, hm, by simpa using hz, hcell, hwz⟩⟩
theorem fld_arr {k : IntKind} {n : Nat} (hu : P.underlying t = some (.array n e)) (he : P.underlying e = some (.int k)) (hc : P.cellsOf e = 1) (hn : P.cellsOf t = n) (h : DataW.trod enc P w base spare held fuel t l = some y) :
    ∃ zs : List Int, l = zs.map (Value.int k) ∧ zs.length = n ∧ ∀ z ∈ zs, (Lit.int k z).wf = true := by
  obtain ⟨xs, m, _, _, hl, hx, hi⟩ := DataW.trod_array hu h
  rw [hc] at hi
  exact cells_ints (k := k) n l (by rw [← hn]; exact hl) (fun i h => by
    have := hi i h
    rw [List.getElem?_eq_getElem (show i < xs.length by omega)] at this
    obtain ⟨z, h1, _, h2⟩ := DataW.trod_int he this
    exact ⟨z, by simpa using h1, h2⟩)
/-- The elements of a slice that came in: the cells of each, and its reading. -/
theorem slice_elems {n : Nat} {a : Option Addr} {len cap : Nat} (ht : P.underlying t = some (.slice e)) (hn : P.cellsOf e = n) (h : DataW.trod enc P w base spare held fuel t (Value.slice a len cap).cells.toList = some x) :
    (a = none ∧ len = 0 ∧ cap = 0) ∨ ∃ ad, a = some ad ∧ len ≤ cap ∧ cap ≤ maxLen ∧ ∀ i, i < len → ∃ cs f y, cs.length = n ∧ (∀ j v, cs[j]? = some v → w.cell? ((ad.add (i * n)).add j) = some v) ∧ DataW.trod enc P w base spare held f e cs = some y := by
  subst hn
  rcases Go.Deep.open_slice ht h with ⟨h0, _⟩ | ⟨ad, l, c, m, f, D, Pl, hcs, _, hl, hm, hmm, _, hi⟩
  · simp [Value.cells] at h0
    exact .inl h0
  · simp [Value.cells] at hcs
    obtain ⟨rfl, rfl, rfl⟩ := hcs
    refine .inr ⟨ad, rfl, hl, hm, fun i hlt => ?_⟩
    obtain ⟨cs, hc, hr⟩ := hi i (by subst hmm; split <;> omega)
    obtain ⟨_, hlen, hget⟩ := World.cells?_some hc
    refine ⟨cs, f, _, hlen, fun j v hv => ?_, hr⟩
    rw [hget j (by rw [← hlen]; exact (List.getElem?_eq_some_iff.1 hv).1), hv]
end
end Go.Proofs.YtogebegdgfdijaaDoor
namespace Go.Proofs.YtogebegdgfdijaaDoor.Ch
open Go.RowKit
def rotl (x m n : Int) : Int := bits .or .u32 (IntKind.u32.wrap (x * m)) (x / n)
def add (x y : Int) : Int := (x + y) % 4294967296
def qa (s : List Int) (a b : Nat) : List Int := s.set a (add (s.getD a 0) (s.getD b 0))
def qx (s : List Int) (d a : Nat) (m n : Int) : List Int := s.set d (rotl (bits .xor .u32 (s.getD d 0) (s.getD a 0)) m n)
def quarter (s : List Int) (a b c d : Nat) : List Int :=
  qx (qa (qx (qa (qx (qa (qx (qa s a b) d a 65536 65536) c d) b c 4096 1048576) a b) d a 256 16777216) c d) b c 128 33554432
theorem qa_len (s : List Int) (a b : Nat) : (qa s a b).length = s.length := by simp [qa]
theorem qx_len (s : List Int) (d a : Nat) (m n : Int) : (qx s d a m n).length = s.length := by simp [qx]
theorem quarter_len (s : List Int) (a b c d : Nat) : (quarter s a b c d).length = s.length := by simp [quarter, qa_len, qx_len]
def word (b : List Int) (o : Nat) : Int := bits .or .u32 (bits .or .u32 (bits .or .u32 (b.getD o 0) (b.getD (o + 1) 0 * 256)) (b.getD (o + 2) 0 * 65536)) (b.getD (o + 3) 0 * 16777216)
/-- The words in which a block begins. -/
def begin (key : List Int) (counter : Int) (nonce : List Int) : List Int :=
  [1634760805, 857760878, 2036477234, 1797285236] ++ ((List.range 8).map fun i => word key (4 * i)) ++ [counter] ++ ((List.range 3).map fun i => word nonce (4 * i))
theorem begin_len (key : List Int) (counter : Int) (nonce : List Int) : (begin key counter nonce).length = 16 := by simp [begin]
def cols (s : List Int) (k : Nat) : List Int := (List.range k).foldl (fun s i => quarter s i (4 + i) (8 + i) (12 + i)) s
def diags (s : List Int) (k : Nat) : List Int := (List.range k).foldl (fun s i => quarter s i (4 + (i + 1) % 4) (8 + (i + 2) % 4) (12 + (i + 3) % 4)) s
def doubles (s : List Int) (k : Nat) : List Int := (List.range k).foldl (fun s _ => diags (cols s 4) 4) s
theorem cols_succ (s : List Int) (k : Nat) : cols s (k + 1) = quarter (cols s k) k (4 + k) (8 + k) (12 + k) := by simp [cols, List.range_succ, List.foldl_append]
theorem diags_succ (s : List Int) (k : Nat) : diags s (k + 1) = quarter (diags s k) k (4 + (k + 1) % 4) (8 + (k + 2) % 4) (12 + (k + 3) % 4) := by simp [diags, List.range_succ, List.foldl_append]
theorem doubles_succ (s : List Int) (k : Nat) : doubles s (k + 1) = diags (cols (doubles s k) 4) 4 := by simp [doubles, List.range_succ, List.foldl_append]
theorem cols_len (s : List Int) (k : Nat) : (cols s k).length = s.length := by
  induction k with
  | zero => rfl
  | succ k ih => rw [cols_succ, quarter_len, ih]
theorem diags_len (s : List Int) (k : Nat) : (diags s k).length = s.length := by
  induction k with
  | zero => rfl
  | succ k ih => rw [diags_succ, quarter_len, ih]
theorem doubles_len (s : List Int) (k : Nat) : (doubles s k).length = s.length := by
  induction k with
  | zero => rfl
  | succ k ih => rw [doubles_succ, diags_len, cols_len, ih]
def blockOf (v s : List Int) : List Int := (List.range 64).map fun i => add (v.getD (i / 4) 0) (s.getD (i / 4) 0) / 2 ^ (8 * (i % 4)) % 256
def block (key : List Int) (counter : Int) (nonce : List Int) : List Int := blockOf (doubles (begin key counter nonce) 10) (begin key counter nonce)
theorem block_len (key : List Int) (counter : Int) (nonce : List Int) : (block key counter nonce).length = 64 := by simp [block, blockOf]
/-- The bytes turned by the stream. -/
def turn (key : List Int) (c : Int) (nonce b : List Int) : List Int := b.mapIdx fun i x => bits .xor .u8 x ((block key ((c + (i / 64 : Nat)) % 4294967296) nonce).getD (i % 64) 0)
theorem turn_len (key : List Int) (c : Int) (nonce b : List Int) : (turn key c nonce b).length = b.length := by simp [turn]
theorem blk_arr {w : World} {g : Nat} {k : IntKind} {xs : List Int} {t : TypeId} {fr : Nat × Nat} (h : w.heap[g]? = some (.cells (arr k xs) t fr)) (i : Nat) (hi : i < xs.length) : w.cell? ⟨g, i, none⟩ = some (.int k (xs.getD i 0)) := (cell_blk h i).trans (arr_get _ _ _ hi)
theorem blk_arr_set {w : World} {g : Nat} {k : IntKind} {xs : List Int} {t : TypeId} (h : w.heap[g]? = some (.cells (arr k xs) t (0, 0))) (i : Nat) (x : Int) : (w.setCell ⟨g, i, none⟩ (.int k x)).heap[g]? = some (.cells (arr k (xs.set i x)) t (0, 0)) := by
  rw [blk_setCell h]
  congr 2
  simp [arr, List.map_set]
end Go.Proofs.YtogebegdgfdijaaDoor.Ch
namespace Go.Proofs.YtogebegdgfdijaaDoor.Ch
open Go.RowKit
theorem rl_16 (x : Int) (w : World) : Calls Tryd.prog 86 #[.int .u32 x, .int .i64 16] w fun e w' => e = .returned (.int .u32 (rotl x 65536 65536)) ∧ w = w' := by
  have hb : bits .and .u64 (IntKind.u64.wrap 16) 31 = 16 := by decide +kernel
  have hb2 : bits .and .u64 16 31 = 16 := by decide +kernel
  go_enter Tryd.func86, Tryd.ntmps86
  go_wp2
  go_ret
  exact ⟨rfl, rfl⟩
theorem rol_16 (x : Int) (w : World) : Calls Tryd.prog 89 #[.int .u32 x, .int .u64 16] w fun e w' => e = .returned (.int .u32 (rotl x 65536 65536)) ∧ w = w' := by
  go_enter Tryd.func89, Tryd.ntmps89
  go_wp2
  go_ret
  exact ⟨rfl, rfl⟩
theorem rl_12 (x : Int) (w : World) : Calls Tryd.prog 86 #[.int .u32 x, .int .i64 12] w fun e w' => e = .returned (.int .u32 (rotl x 4096 1048576)) ∧ w = w' := by
  have hb : bits .and .u64 (IntKind.u64.wrap 12) 31 = 12 := by decide +kernel
  have hb2 : bits .and .u64 12 31 = 12 := by decide +kernel
  go_enter Tryd.func86, Tryd.ntmps86
  go_wp2
  go_ret
  exact ⟨rfl, rfl⟩
theorem rol_12 (x : Int) (w : World) : Calls Tryd.prog 89 #[.int .u32 x, .int .u64 12] w fun e w' => e = .returned (.int .u32 (rotl x 4096 1048576)) ∧ w = w' := by
  go_enter Tryd.func89, Tryd.ntmps89
  go_wp2
  go_ret
  exact ⟨rfl, rfl⟩
theorem rl_8 (x : Int) (w : World) : Calls Tryd.prog 86 #[.int .u32 x, .int .i64 8] w fun e w' => e = .returned (.int .u32 (rotl x 256 16777216)) ∧ w = w' := by
  have hb : bits .and .u64 (IntKind.u64.wrap 8) 31 = 8 := by decide +kernel
  have hb2 : bits .and .u64 8 31 = 8 := by decide +kernel
  go_enter Tryd.func86, Tryd.ntmps86
  go_wp2
  go_ret
  exact ⟨rfl, rfl⟩
theorem rol_8 (x : Int) (w : World) : Calls Tryd.prog 89 #[.int .u32 x, .int .u64 8] w fun e w' => e = .returned (.int .u32 (rotl x 256 16777216)) ∧ w = w' := by
  go_enter Tryd.func89, Tryd.ntmps89
  go_wp2
  go_ret
  exact ⟨rfl, rfl⟩
theorem rl_7 (x : Int) (w : World) : Calls Tryd.prog 86 #[.int .u32 x, .int .i64 7] w fun e w' => e = .returned (.int .u32 (rotl x 128 33554432)) ∧ w = w' := by
  have hb : bits .and .u64 (IntKind.u64.wrap 7) 31 = 7 := by decide +kernel
  have hb2 : bits .and .u64 7 31 = 7 := by decide +kernel
  go_enter Tryd.func86, Tryd.ntmps86
  go_wp2
  go_ret
  exact ⟨rfl, rfl⟩
theorem rol_7 (x : Int) (w : World) : Calls Tryd.prog 89 #[.int .u32 x, .int .u64 7] w fun e w' => e = .returned (.int .u32 (rotl x 128 33554432)) ∧ w = w' := by
  go_enter Tryd.func89, Tryd.ntmps89
  go_wp2
  go_ret
  exact ⟨rfl, rfl⟩
theorem sti {P : Program} {f : FuncId} {args : Array Value} {w : World} {v : Value} (h : Calls P f args w fun e w' => e = .returned v ∧ w = w') : Calls P f args w fun e w'' => e = .returned v ∧ w'' = w := h.mono fun _ _ h => ⟨h.1, h.2.symm⟩
theorem wr8 (a : Int) (h : 0 ≤ a) (h2 : a ≤ 255) : IntKind.u32.wrap (a * 256) = a * 256 := by rw [IntKind.wrap_u32]; omega
theorem word_any (p q m c : Nat) (b : List Int) (o : Nat) (w : World) (hb : bytes b) (hm : 4 ≤ m) (h0 : w.cell? ⟨p, q, none⟩ = some (.int .u8 (b.getD o 0))) (h1 : w.cell? ⟨p, q + 1, none⟩ = some (.int .u8 (b.getD (o + 1) 0))) (h2 : w.cell? ⟨p, q + 2, none⟩ = some (.int .u8 (b.getD (o + 2) 0))) (h3 : w.cell? ⟨p, q + 3, none⟩ = some (.int .u8 (b.getD (o + 3) 0))) :
    Calls Tryd.prog 85 #[.slice (some ⟨p, q, none⟩) m c] w fun e w' => e = .returned (.int .u32 (word b o)) ∧ ∃ k, w' = w.drewN k := by
  obtain ⟨b00, b01⟩ := bytes_at hb o
  obtain ⟨b10, b11⟩ := bytes_at hb (o + 1)
  obtain ⟨b20, b21⟩ := bytes_at hb (o + 2)
  obtain ⟨b30, b31⟩ := bytes_at hb (o + 3)
  have hw : word b o = bits .or .u32 (bits .or .u32 (bits .or .u32 (b.getD o 0) (b.getD (o + 1) 0 * 256)) (b.getD (o + 2) 0 * 65536)) (b.getD (o + 3) 0 * 16777216) := rfl
  have HW := Lib.hid hw
  have m0 : (0 : Int) < m := by omega
  have m1 : (1 : Int) < m := by omega
  have m2 : (2 : Int) < m := by omega
  have m3 : (3 : Int) < m := by omega
  clear hw hb
  generalize b.getD o 0 = x0 at h0 b00 b01 HW
  generalize b.getD (o + 1) 0 = x1 at h1 b10 b11 HW
  generalize b.getD (o + 2) 0 = x2 at h2 b20 b21 HW
  generalize b.getD (o + 3) 0 = x3 at h3 b30 b31 HW
  go_enter Tryd.func85, Tryd.ntmps85
  go_wp2_with fail
  go_quiet (fail)
  go_wp2_with fail
  go_ret
  exact ⟨by rw [HW.out]; rfl, _, rfl⟩
theorem little_any (p q m c : Nat) (b : List Int) (o : Nat) (w : World) (hb : bytes b) (hm : 4 ≤ m) (h0 : w.cell? ⟨p, q, none⟩ = some (.int .u8 (b.getD o 0))) (h1 : w.cell? ⟨p, q + 1, none⟩ = some (.int .u8 (b.getD (o + 1) 0))) (h2 : w.cell? ⟨p, q + 2, none⟩ = some (.int .u8 (b.getD (o + 2) 0))) (h3 : w.cell? ⟨p, q + 3, none⟩ = some (.int .u8 (b.getD (o + 3) 0))) :
    Calls Tryd.prog 80 #[.slice (some ⟨p, q, none⟩) m c] w fun e w' => e = .returned (.int .u32 (word b o)) ∧ ∃ k, w' = w.drewN k := by
  obtain ⟨b00, b01⟩ := bytes_at hb o
  obtain ⟨b10, b11⟩ := bytes_at hb (o + 1)
  obtain ⟨b20, b21⟩ := bytes_at hb (o + 2)
  obtain ⟨b30, b31⟩ := bytes_at hb (o + 3)
  have hw : word b o = bits .or .u32 (bits .or .u32 (bits .or .u32 (b.getD o 0) (b.getD (o + 1) 0 * 256)) (b.getD (o + 2) 0 * 65536)) (b.getD (o + 3) 0 * 16777216) := rfl
  have HW := Lib.hid hw
  have m0 : (0 : Int) < m := by omega
  have m1 : (1 : Int) < m := by omega
  have m2 : (2 : Int) < m := by omega
  have m3 : (3 : Int) < m := by omega
  clear hw hb
  generalize b.getD o 0 = x0 at h0 b00 b01 HW
  generalize b.getD (o + 1) 0 = x1 at h1 b10 b11 HW
  generalize b.getD (o + 2) 0 = x2 at h2 b20 b21 HW
  generalize b.getD (o + 3) 0 = x3 at h3 b30 b31 HW
  go_enter Tryd.func80, Tryd.ntmps80
  go_wp2_with fail
  go_quiet (fail)
  go_wp2_with fail
  go_ret
  exact ⟨by rw [HW.out]; rfl, _, rfl⟩
end Go.Proofs.YtogebegdgfdijaaDoor.Ch
