/- What a call keeps of memory: facts on worlds alone, no program in sight. No condition. Bytes: rows of them in memory, sources, slices of the call's own (nil let in), as strings; make, append. No condition. bytes.Clone: what it answers: new memory that holds the bytes. No condition. Arrays of integers by value: how they are compared, laid into a struct, read out of one. No condition. Long arrays: made, stored, loaded whole or out of the middle of a block, indexed. Over any program; no condition. Lists of bytes: a slice of slices of bytes as a source. No condition. Arguments of a law, opened: slices of integers and of bools, arrays of integers and structs of integers by value. No program here; no condition. A slice of bytes that came in, as a source; as a string, wherever it lies. No condition. -/
import Derived.WalkKit
import Derived.Lib.MinMax
import Derived.Lib.Hide
import Derived.Deep.Draws
import Derived.Deep.QuietTactic
import Derived.BigQuiet
import Derived.Test.YtoljnogpegemjaaChecked
import Derived.Maps.AppendAt
import Derived.Deep.AppendLies
import Derived.Deep.OwnRows
import Derived.RegionTactic
import Derived.OwnWalk
import Derived.Laws.OwnMore
import Derived.Laws.CopyOwn
import Derived.Laws.BytesArg
import Derived.WalkSpells
import Derived.Laws.StructEq
import Derived.Deep.MidRow
import Derived.ProofKit
import Derived.OpenShut
namespace Go.Proofs.Ytoljnogpegemjaa
open Go.RowKit

/-- Of the blocks of w those alone may have turned of which T speaks. -/
structure Kept (T : Nat → Prop) (w w' : World) : Prop where
  os : w'.os = w.os
  tape : w'.tape = w.tape
  output : w'.output = w.output
  size : w.heap.size ≤ w'.heap.size
  block : ∀ k, k < w.heap.size → ¬ T k → w'.heap[k]? = w.heap[k]?

theorem Kept.refl (T : Nat → Prop) (w : World) : Kept T w w := ⟨rfl, rfl, rfl, Nat.le_refl _, fun _ _ _ => rfl⟩

theorem Kept.trans {T : Nat → Prop} {a b c : World} (h : Kept T a b) (k : Kept T b c) : Kept T a c :=
  ⟨k.os.trans h.os, k.tape.trans h.tape, k.output.trans h.output, Nat.le_trans h.size k.size,
    fun i hi ht => (k.block i (Nat.lt_of_lt_of_le hi h.size) ht).trans (h.block i hi ht)⟩

/-- The second step may also turn what is new since a. -/
theorem Kept.trans_new {T T' : Nat → Prop} {a b c : World} (h : Kept T a b) (k : Kept T' b c) (ht : ∀ i, i < a.heap.size → T' i → T i) : Kept T a c :=
  ⟨k.os.trans h.os, k.tape.trans h.tape, k.output.trans h.output, Nat.le_trans h.size k.size,
    fun i hi hn => (k.block i (Nat.lt_of_lt_of_le hi h.size) (fun e => hn (ht i hi e))).trans (h.block i hi hn)⟩

theorem Kept.mono {T T' : Nat → Prop} {a b : World} (h : Kept T a b) (ht : ∀ i, i < a.heap.size → T i → T' i) : Kept T' a b :=
  ⟨h.os, h.tape, h.output, h.size, fun i hi hn => h.block i hi (fun e => hn (ht i hi e))⟩

theorem Kept.drewN {T : Nat → Prop} {a w : World} (h : Kept T a w) (n : Nat) : Kept T a (w.drewN n) := ⟨h.os, h.tape, h.output, h.size, h.block⟩
theorem Kept.drew {T : Nat → Prop} {a w : World} (h : Kept T a w) : Kept T a w.drew := ⟨h.os, h.tape, h.output, h.size, h.block⟩

theorem Kept.alloc {T : Nat → Prop} {a w : World} (h : Kept T a w) (o : Obj) : Kept T a (w.alloc o) :=
  h.trans ⟨rfl, rfl, rfl, by simp, fun k hk _ => Below.heap_alloc _ _ _ hk⟩

theorem Kept.setCell {T : Nat → Prop} {a w : World} (h : Kept T a w) {p : Addr} (hp : T p.block ∨ a.heap.size ≤ p.block) (u : Value) : Kept T a (w.setCell p u) :=
  ⟨h.os, h.tape, h.output, by simpa [World.setCell] using h.size, fun k hk ht => (Below.heap_setCell w p u k (by
    rintro rfl
    rcases hp with hp | hp
    · exact ht hp
    · omega)).trans (h.block k hk ht)⟩

theorem Kept.of_below {T : Nat → Prop} {a b : World} (h : Below a.heap.size a b) : Kept T a b := ⟨h.os, h.tape, h.output, h.size, fun k hk _ => h.block k hk⟩

theorem Kept.toBelow {T : Nat → Prop} {B : Nat} {a b : World} (h : Kept T a b) (hB : B ≤ a.heap.size) (ht : ∀ i, T i → B ≤ i) : Below B a b :=
  ⟨h.os, h.tape, h.output, h.size, fun k hk => h.block k (Nat.lt_of_lt_of_le hk hB) (fun e => absurd (ht k e) (by omega))⟩

theorem Kept.blk {T : Nat → Prop} {a b : World} (h : Kept T a b) {k : Nat} {o : Obj} (hk : a.heap[k]? = some o) (ht : ¬ T k) : b.heap[k]? = some o :=
  (h.block k (Array.getElem?_eq_some_iff.1 hk).1 ht).trans hk

theorem Below.blk {B : Nat} {a b : World} (h : Below B a b) {k : Nat} {o : Obj} (hk : a.heap[k]? = some o) (ht : k < B) : b.heap[k]? = some o :=
  (h.block k ht).trans hk

theorem blk_lt {w : World} {k : Nat} {o : Obj} (h : w.heap[k]? = some o) : k < w.heap.size := (Array.getElem?_eq_some_iff.1 h).1

theorem blk_setCell {w : World} {b o : Nat} {c : Array Value} {t : TypeId} {fr : Nat × Nat} (h : w.heap[b]? = some (.cells c t fr)) (u : Value) :
    (w.setCell ⟨b, o, none⟩ u).heap[b]? = some (.cells (c.setIfInBounds o u) t fr) := by
  simp [World.setCell, Array.getElem?_modify, h]

theorem blk_setCell_ne {w : World} {b k o : Nat} {x : Obj} (h : w.heap[k]? = some x) (u : Value) (hne : k ≠ b) :
    (w.setCell ⟨b, o, none⟩ u).heap[k]? = some x := (Below.heap_setCell w ⟨b, o, none⟩ u k hne).trans h

theorem blk_alloc {w : World} {k : Nat} {x : Obj} (h : w.heap[k]? = some x) (o : Obj) : (w.alloc o).heap[k]? = some x :=
  (Below.heap_alloc w o k (blk_lt h)).trans h

theorem blk_new (w : World) (o : Obj) : (w.alloc o).heap[w.heap.size]? = some o := heap_alloc_new w o

theorem cell_blk {w : World} {b : Nat} {c : Array Value} {t : TypeId} {fr : Nat × Nat} (h : w.heap[b]? = some (.cells c t fr)) (o : Nat) : w.cell? ⟨b, o, none⟩ = c[o]? := by
  simp [World.cell?, h]

theorem free_blk {w : World} {b : Nat} {c : Array Value} {t : TypeId} (h : w.heap[b]? = some (.cells c t (0, 0))) (o : Nat) : w.frozen? ⟨b, o, none⟩ = false := by
  simp [World.frozen?, h]

theorem Below.drewN {B : Nat} {a w : World} (h : RowKit.Below B a w) (n : Nat) : RowKit.Below B a (w.drewN n) := ⟨h.os, h.tape, h.output, h.size, h.block⟩

theorem below_cell {a b : World} (h : RowKit.Below a.heap.size a b) {x : Addr} {v : Value} (hx : a.cell? x = some v) : b.cell? x = some v :=
  (h.cell (World.block_lt_of_cell? a _ hx)).trans hx

theorem Kept.at {p : Nat} {a w : World} (h : Kept (fun x => x = p) a w) (o : Nat) (u : Value) : Kept (fun x => x = p) a (w.setCell ⟨p, o, none⟩ u) := h.setCell (p := ⟨p, o, none⟩) (.inl rfl) u
theorem ret_bool {a b : Bool} (h : a = b) : Ending.returned (.bool a) = .returned (.bool b) := by rw [h]
theorem ret_int {k : IntKind} {a b : Int} (h : a = b) : Ending.returned (.int k a) = .returned (.int k b) := by rw [h]

end Go.Proofs.Ytoljnogpegemjaa
namespace Go.Proofs.Ytoljnogpegemjaa
open Go.RowKit

def row8 (b : List Int) (sp : List Value) : Array Value := (b.map (Value.int .u8) ++ sp).toArray
/-- n bytes lie behind the address sa (whatever it is where there are none). -/
structure Src (w : World) (sa : Option Addr) (n : Nat) (xs : List Int) : Prop where
  len : xs.length = n
  cell : ∀ i, i < n → ∃ a, sa = some a ∧ w.cell? (a.add i) = some (.int .u8 (xs.getD i 0))

theorem row8_get (b : List Int) (sp : List Value) (i : Nat) (h : i < b.length) : (row8 b sp)[i]? = some (.int .u8 (b.getD i 0)) := by
  unfold row8
  rw [List.getElem?_toArray, List.getElem?_append_left (by simpa using h)]
  simp [List.getD, h]
theorem row8_set (b : List Int) (sp : List Value) (i : Nat) (h : i < b.length) (x : Int) : (row8 b sp).setIfInBounds i (.int .u8 x) = row8 (b.set i x) sp := by
  unfold row8
  rw [List.setIfInBounds_toArray, List.set_append_left _ _ (by simpa using h), List.map_set]

theorem Kept.cellX {T : Nat → Prop} {a b : World} (h : Kept T a b) {x : Addr} {v : Value} (hx : a.cell? x = some v) (ht : ¬ T x.block) : b.cell? x = some v :=
  (World.cell?_of_block (h.block x.block (World.block_lt_of_cell? a x hx) ht)).trans hx
theorem block_add (a : Addr) (n : Nat) : (a.add n).block = a.block := by unfold Addr.add; split <;> rfl

theorem size_u8 : (Try.prog.info? 5).map (·.size) = some 1 := by kernel_rfl

/-- v is a slice of the call's own (from block B on) that holds just these bytes. -/
def Owns (w : World) (B : Nat) (v : Value) (xs : List Int) : Prop :=
  ∃ g cap sp, v = .slice (some ⟨g, 0, none⟩) xs.length cap ∧ B ≤ g ∧ w.heap[g]? = some (.cells (row8 xs sp) 5 (0, 0)) ∧ cap = xs.length + sp.length ∧ cap ≤ maxLen

theorem Owns.of_row {w : World} {B : Nat} {v : Value} {xs : List Int} (h : w.ownsRow B 5 1 v xs.length (xs.map (Value.int .u8))) (hv : v ≠ .slice none 0 0) : Owns w B v xs := by
  obtain ⟨h1, h2⟩ := h
  rcases h2 with ⟨rfl, _⟩ | ⟨g, cap, cur, rfl, hB, hg, hn, hm, hs, ht⟩
  · exact absurd rfl hv
  · refine ⟨g, cap, cur.toList.drop xs.length, rfl, hB, ?_, ?_, hm⟩
    · rw [hg]
      congr 2
      unfold row8
      rw [← ht]
      simp
    · simp [hs]; omega

theorem info_u8 : (Try.prog.info? 5).map (fun i => (i.zero, i.size, i.bytes)) = some (some (.int .u8 0), 1, 1) := by kernel_rfl

theorem Owns.str {w : World} {B : Nat} {v : Value} {xs : List Int} (h : Owns w B v xs) : (convert 24 9 v).run Try.prog w = .ok (.string (strOfNums xs)) w := by
  obtain ⟨g, cap, sp, rfl, _, hg, _, _⟩ := h
  refine run_convert_bytes_arg w 24 5 Try.underlying24 Try.underlying5 g 0 _ _ xs rfl (fun i hi => ?_) 9 Try.underlying9
  rw [Nat.zero_add, cell_blk hg, row8_get _ _ _ hi]

theorem Owns.kept {T : Nat → Prop} {w w' : World} {B : Nat} {v : Value} {xs : List Int} (h : Owns w B v xs) (k : Kept T w w') (hT : ∀ g, B ≤ g → g < w.heap.size → ¬ T g) : Owns w' B v xs := by
  obtain ⟨g, cap, sp, hv, hB, hg, h1, h2⟩ := h
  exact ⟨g, cap, sp, hv, hB, k.blk hg (hT g hB (blk_lt hg)), h1, h2⟩
theorem Owns.mono {w : World} {B B' : Nat} {v : Value} {xs : List Int} (h : Owns w B v xs) (hB : B' ≤ B) : Owns w B' v xs := by
  obtain ⟨g, cap, sp, hv, h0, hg, h1, h2⟩ := h
  exact ⟨g, cap, sp, hv, by omega, hg, h1, h2⟩
theorem Owns.drewN {w : World} {B : Nat} {v : Value} {xs : List Int} (h : Owns w B v xs) (n : Nat) : Owns (w.drewN n) B v xs := h

def zeros (n : Nat) : List Int := List.replicate n 0
theorem zeros_len (n : Nat) : (zeros n).length = n := by simp [zeros]
theorem zeros_get (n i : Nat) : (zeros n).getD i 0 = 0 := by
  simp only [zeros, List.getD, List.getElem?_replicate]
  split <;> rfl
theorem zeros_mem (n : Nat) : ∀ x ∈ zeros n, 0 ≤ x ∧ x ≤ 255 := by
  intro x hx
  have := List.eq_of_mem_replicate hx
  omega
theorem made8 (n : Nat) : madeCells #[Value.int .u8 0] n = row8 (zeros n) [] := by
  unfold row8 zeros
  apply Array.ext
  · simp [size_madeCells]
  · intro i h1 h2
    simp [madeCells, Nat.mod_one]

theorem mk8 (n : Nat) (hn : n ≤ 1099511627776) (w : World) :
    (Instr.makeSlice 24 (.int .i64 (n : Int)) (.int .i64 (n : Int))).run Try.prog w = .ok (.slice (some ⟨w.heap.size, 0, none⟩) n n) (w.alloc (.cells (row8 (zeros n) []) 5)) := by
  rw [← made8]
  exact run_make_row' 24 5 (.int .u8 0) 1 Try.underlying24 info_u8 rfl .i64 .i64 n (by omega) (by omega) w

theorem src_blk {w : World} {b : Nat} {xs : List Int} {sp : List Value} (h : w.heap[b]? = some (.cells (row8 xs sp) 5 (0, 0))) : Src w (some ⟨b, 0, none⟩) xs.length xs := by
  refine ⟨rfl, fun i hi => ⟨_, rfl, ?_⟩⟩
  have e : (⟨b, 0, none⟩ : Addr).add i = ⟨b, i, none⟩ := by unfold Addr.add; split <;> simp_all
  rw [e, cell_blk h, row8_get _ _ _ hi]


/-- v is a slice of the call's own (from block B on), or nil, that holds just these bytes. -/
def Own8 (w : World) (B : Nat) (v : Value) (xs : List Int) : Prop := w.ownsRow B 5 1 v xs.length (xs.map (Value.int .u8))

theorem Own8.nil (w : World) (B : Nat) : Own8 w B (.slice none 0 0) [] := ⟨by simp, .inl ⟨rfl, rfl⟩⟩
theorem Own8.of_owns {w : World} {B : Nat} {v : Value} {xs : List Int} (h : Owns w B v xs) : Own8 w B v xs := by
  obtain ⟨g, cap, sp, rfl, hB, hg, hc, hm⟩ := h
  refine ⟨by simp, .inr ⟨g, cap, _, rfl, hB, hg, by omega, hm, by simp [row8]; omega, ?_⟩⟩
  simp [row8]

theorem src_row {w : World} {g : Nat} {cur : Array Value} {fr : Nat × Nat} {t : TypeId} {xs : List Int} {m : Nat} (hg : w.heap[g]? = some (.cells cur t fr)) (ht : cur.toList.take (xs.length * 1) = xs.map (Value.int .u8)) (hm : xs.length = m) :
    Src w (some ⟨g, 0, none⟩) m xs := by
  subst hm
  refine ⟨rfl, fun i hi => ⟨_, rfl, ?_⟩⟩
  have e : (⟨g, 0, none⟩ : Addr).add i = ⟨g, i, none⟩ := by unfold Addr.add; split <;> simp_all
  have hl := congrArg (fun l => l[i]?) ht
  simp only [Nat.mul_one, List.getElem?_take, hi, if_true, List.getElem?_map] at hl
  have hx : xs[i]? = some (xs.getD i 0) := by simp [List.getD, hi]
  rw [e, World.cell?]
  simp only [hg]
  rw [hx] at hl
  simpa using hl

/-- What such a slice is as a value, and as a source. -/
theorem Own8.form {w : World} {B : Nat} {v : Value} {xs : List Int} (h : Own8 w B v xs) :
    ∃ sa c, v = .slice sa xs.length c ∧ xs.length ≤ c ∧ c ≤ maxLen ∧ Src w sa xs.length xs ∧ ((sa = none ∧ xs = [] ∧ c = 0) ∨ ∃ g, sa = some ⟨g, 0, none⟩ ∧ B ≤ g ∧ g < w.heap.size) := by
  obtain ⟨h1, h2⟩ := h
  rcases h2 with ⟨rfl, h0⟩ | ⟨g, cap, cur, rfl, hB, hg, hn, hm, hs, ht⟩
  · have : xs = [] := List.eq_nil_of_length_eq_zero h0
    subst this
    exact ⟨none, 0, rfl, by simp, by simp [maxLen], ⟨rfl, fun i hi => absurd hi (by simp)⟩, .inl ⟨rfl, rfl, rfl⟩⟩
  · exact ⟨_, cap, rfl, hn, hm, src_row hg ht rfl, .inr ⟨g, rfl, hB, blk_lt hg⟩⟩

theorem Own8.kept {T : Nat → Prop} {w w' : World} {B : Nat} {v : Value} {xs : List Int} (h : Own8 w B v xs) (k : Kept T w w') (hT : ∀ g, v.ownBlock = some g → ¬ T g) : Own8 w' B v xs := by
  obtain ⟨h1, h2⟩ := h
  refine ⟨h1, ?_⟩
  rcases h2 with h0 | ⟨g, cap, cur, rfl, hB, hg, hr⟩
  · exact .inl h0
  · exact .inr ⟨g, cap, cur, rfl, hB, k.blk hg (hT g rfl), hr⟩
theorem Own8.below {w w' : World} {B : Nat} {v : Value} {xs : List Int} (h : Own8 w B v xs) (k : Below w.heap.size w w') : Own8 w' B v xs :=
  h.kept (T := fun _ => False) (Kept.of_below k) (fun _ _ => id)
theorem Own8.drewN {w : World} {B : Nat} {v : Value} {xs : List Int} (h : Own8 w B v xs) (n : Nat) : Own8 (w.drewN n) B v xs := h
theorem Own8.drew {w : World} {B : Nat} {v : Value} {xs : List Int} (h : Own8 w B v xs) : Own8 w.drew B v xs := h
theorem Own8.alloc {w : World} {B : Nat} {v : Value} {xs : List Int} (h : Own8 w B v xs) (o : Obj) : Own8 (w.alloc o) B v xs := h.below ((Below.refl _ w).alloc (Nat.le_refl _) o)
theorem Own8.mono {w : World} {B B' : Nat} {v : Value} {xs : List Int} (h : Own8 w B v xs) (hB : B' ≤ B) : Own8 w B' v xs := by
  obtain ⟨h1, h2⟩ := h
  refine ⟨h1, ?_⟩
  rcases h2 with h0 | ⟨g, cap, cur, rfl, hb, hr⟩
  · exact .inl h0
  · exact .inr ⟨g, cap, cur, rfl, by omega, hr⟩
theorem Own8.lt {w : World} {B : Nat} {v : Value} {xs : List Int} (h : Own8 w B v xs) : ∀ k, v.ownBlock = some k → B ≤ k ∧ k < w.heap.size := World.ownsRow.lt h
theorem Own8.len {w : World} {B : Nat} {v : Value} {xs : List Int} (h : Own8 w B v xs) : xs.length ≤ maxLen := by
  obtain ⟨_, c, _, h1, h2, _⟩ := h.form
  omega

/-- The bytes behind an address, as a string; the address may be none. -/
theorem src_str {w : World} {sa : Option Addr} {n c : Nat} {xs : List Int} (h : Src w sa n xs) (hp : ∀ a, sa = some a → a.spot = none) : (convert 24 9 (.slice sa n c)).run Try.prog w = .ok (.string (strOfNums xs)) w := by
  cases sa with
  | none =>
    have h0 : n = 0 := by
      rcases Nat.eq_zero_or_pos n with h0 | h0
      · exact h0
      · obtain ⟨_, he, _⟩ := h.cell 0 h0
        cases he
    have hx : xs = [] := List.eq_nil_of_length_eq_zero (h.len.trans h0)
    subst hx
    exact run_convert_bytes_nil w 24 5 Try.underlying24 Try.underlying5 n c 9 Try.underlying9
  | some a =>
    obtain ⟨b, off, el⟩ := a
    have : el = none := hp _ rfl
    subst this
    refine run_convert_bytes_arg w 24 5 Try.underlying24 Try.underlying5 b off n c xs h.len (fun i hi => ?_) 9 Try.underlying9
    obtain ⟨a', he, hc⟩ := h.cell i hi
    cases he
    have e : (⟨b, off, none⟩ : Addr).add i = ⟨b, off + i, none⟩ := by unfold Addr.add; split <;> simp_all
    rwa [e] at hc
theorem Own8.str {w : World} {B : Nat} {v : Value} {xs : List Int} (h : Own8 w B v xs) : (convert 24 9 v).run Try.prog w = .ok (.string (strOfNums xs)) w := by
  obtain ⟨sa, c, rfl, _, _, hs, hf⟩ := h.form
  refine src_str hs (fun a ha => ?_)
  rcases hf with ⟨rfl, _⟩ | ⟨g, rfl, _⟩
  · cases ha
  · cases ha; rfl

theorem Src.kept {T : Nat → Prop} {w w' : World} {sa : Option Addr} {n : Nat} {xs : List Int} (h : Src w sa n xs) (k : Kept T w w') (hT : ∀ a, sa = some a → n = 0 ∨ ¬ T a.block) : Src w' sa n xs := by
  refine ⟨h.len, fun i hi => ?_⟩
  obtain ⟨a, he, hc⟩ := h.cell i hi
  refine ⟨a, he, k.cellX hc ?_⟩
  rw [block_add]
  rcases hT a he with h0 | h0
  · omega
  · exact h0
theorem Src.below {w w' : World} {sa : Option Addr} {n : Nat} {xs : List Int} (h : Src w sa n xs) (k : Below w.heap.size w w') : Src w' sa n xs :=
  h.kept (T := fun _ => False) (Kept.of_below k) (fun _ _ => .inr id)

theorem src_news {w : World} {sa : Option Addr} {n : Nat} {xs : List Int} (h : Src w sa n xs) (a : Addr) (ha : sa = some a) : ∀ j u, (xs.map (Value.int .u8))[j]? = some u → w.cell? (a.add j) = some u := by
  intro j u hj
  rw [List.getElem?_map] at hj
  have hjl : j < xs.length := by
    rcases Nat.lt_or_ge j xs.length with q | q
    · exact q
    · rw [List.getElem?_eq_none q] at hj; cases hj
  obtain ⟨a', he, hc⟩ := h.cell j (by rw [← h.len]; exact hjl)
  rw [ha] at he
  cases he
  rw [hc]
  simp [hjl] at hj
  simp [List.getD, hjl, hj]
theorem one_ints (k : IntKind) (xs : List Int) : ∀ u ∈ xs.map (Value.int k), u.oneCell' = true := by
  intro u hu
  obtain ⟨x, _, rfl⟩ := List.mem_map.1 hu
  rfl

theorem run_app8 {w : World} {B : Nat} {v : Value} {xs ys : List Int} {sa : Option Addr} {m c : Nat} {ty : TypeId} (hown : Own8 w B v xs) (hsrc : Src w sa m ys) (hlen : xs.length + m ≤ 140737488355328) (hbase : B ≤ w.heap.size) :
    ∃ v' w', (Builtin.append_ #[24, 24] ty #[v, .slice sa m c]).run Try.prog w = .ok v' w' ∧ Own8 w' B v' (xs ++ ys) ∧ w.grownBy w' v.ownBlock ∧
      (v' = .slice none 0 0 ↔ v = .slice none 0 0 ∧ m = 0) ∧ (v'.ownBlock = v.ownBlock ∨ v'.ownBlock = some w.heap.size) := by
  obtain ⟨i0, hi, hz0, hz1, hz2⟩ := info_parts info_u8
  cases sa with
  | none =>
    have h0 : m = 0 := by
      rcases Nat.eq_zero_or_pos m with h0 | h0
      · exact h0
      · obtain ⟨_, he, _⟩ := hsrc.cell 0 h0
        cases he
    have hy : ys = [] := List.eq_nil_of_length_eq_zero (hsrc.len.trans h0)
    subst hy
    subst h0
    refine ⟨v, w, ?_, by rw [List.append_nil]; exact hown, ⟨rfl, rfl, rfl, Nat.le_refl _, fun _ _ _ => rfl⟩, by simp, .inl rfl⟩
    rcases hown.2 with ⟨rfl, h0⟩ | ⟨g, cap, cur, rfl, _, _, hnc, _⟩
    · simp [Builtin.append_, run_underlying Try.underlying24, sizeOf, typeInfo, hi, Builtin.lenOf, Builtin.firstCells]
    · simp [Builtin.append_, run_underlying Try.underlying24, sizeOf, typeInfo, hi, Builtin.lenOf, Builtin.firstCells, hnc, storeCells]
  | some a =>
    obtain ⟨v', w', h1, h2, h3, h4, h5⟩ := run_append_own_at (P := Try.prog) w B 24 ty 5 i0 (.int .u8 0) 1 1 Try.underlying24 hi hz0 hz1 hz2 rfl (by decide) v xs.length (xs.map (Value.int .u8)) hown a m c (ys.map (Value.int .u8))
      (by simp [hsrc.len]) (src_news hsrc a rfl) (one_ints _ _) (by unfold maxLen; omega) (by omega) hbase
    refine ⟨v', w', h1, ?_, h3, h4, h5⟩
    unfold Own8
    rw [List.length_append, hsrc.len, List.map_append]
    exact h2

/-- append onto bytes of the call's own, whatever the source. -/
theorem wp_app8 {w : World} {o : Oper} {a : Act} {K : Act → World → Prop} {Q : Exit → Act → World → Prop} (s x : Operand)
    (ho : o.op = .call { callee := .builtin .append, args := #[s, x], argTypes := #[24, 24] })
    (B : Nat) (v : Value) (xs : List Int) (hs : a.eval s = v) (hown : Own8 w B v xs) (sa : Option Addr) (m c : Nat) (ys : List Int) (hx : a.eval x = .slice sa m c) (hsrc : Src w sa m ys)
    (hlen : xs.length + m ≤ 140737488355328) (hbase : B ≤ w.heap.size)
    (h : ∀ v' w', Own8 w' B v' (xs ++ ys) → w.grownBy w' v.ownBlock → (v' = .slice none 0 0 ↔ v = .slice none 0 0 ∧ m = 0) → (v'.ownBlock = v.ownBlock ∨ v'.ownBlock = some w.heap.size) → K (a.put o.dst v') w') : o.wp Try.prog a w K Q := by
  obtain ⟨v', w', hr, h2, h3, h4, h5⟩ := run_app8 (ty := o.type) (c := c) hown hsrc hlen hbase
  unfold Oper.wp execOp
  simp only [ho, resolve, invoke, builtin, Sem.run_bind, Sem.run_pure, Result.andThen_ok, List.map_toArray, List.map_cons, List.map_nil, hs, hx, hr]
  exact h v' w' h2 h3 h4 h5
theorem wpList_app8 {w : World} {ops : Array Oper} {rest : List Oper} {o : Oper} {a : Act} {Q : Exit → Act → World → Prop} (hgd : o.guard = none) (s x : Operand)
    (ho : o.op = .call { callee := .builtin .append, args := #[s, x], argTypes := #[24, 24] })
    (B : Nat) (v : Value) (xs : List Int) (hs : a.eval s = v) (hown : Own8 w B v xs) (sa : Option Addr) (m c : Nat) (ys : List Int) (hx : a.eval x = .slice sa m c) (hsrc : Src w sa m ys)
    (hlen : xs.length + m ≤ 140737488355328) (hbase : B ≤ w.heap.size)
    (h : ∀ v' w', Own8 w' B v' (xs ++ ys) → w.grownBy w' v.ownBlock → (v' = .slice none 0 0 ↔ v = .slice none 0 0 ∧ m = 0) → (v'.ownBlock = v.ownBlock ∨ v'.ownBlock = some w.heap.size) → wpList Try.prog ops Q rest (a.put o.dst v') w') :
    wpList Try.prog ops Q (o :: rest) a w :=
  wpList_plain hgd fun _ hK => wp_app8 s x ho B v xs hs hown sa m c ys hx hsrc hlen hbase fun v' w' h2 h3 h4 h5 => hK _ _ (h v' w' h2 h3 h4 h5)
theorem step_app8 {w : World} {ops : Array Oper} {o : Oper} {a : Act} {K : Act → World → Prop} {Q : Exit → Act → World → Prop} {E : Prop} (hgd : o.guard = none) (s x : Operand)
    (ho : o.op = .call { callee := .builtin .append, args := #[s, x], argTypes := #[24, 24] })
    (B : Nat) (v : Value) (xs : List Int) (hs : a.eval s = v) (hown : Own8 w B v xs) (sa : Option Addr) (m c : Nat) (ys : List Int) (hx : a.eval x = .slice sa m c) (hsrc : Src w sa m ys)
    (hlen : xs.length + m ≤ 140737488355328) (hbase : B ≤ w.heap.size)
    (h : ∀ v' w', Own8 w' B v' (xs ++ ys) → w.grownBy w' v.ownBlock → (v' = .slice none 0 0 ↔ v = .slice none 0 0 ∧ m = 0) → (v'.ownBlock = v.ownBlock ∨ v'.ownBlock = some w.heap.size) → K (a.put o.dst v') w') :
    if Region.wanted o (yielded ops a.tmps) = true then Oper.wp Try.prog o a w K Q else E := by
  have hw : Region.wanted o (yielded ops a.tmps) = true := by simp [Region.wanted, hgd]
  rw [if_pos hw]
  exact wp_app8 s x ho B v xs hs hown sa m c ys hx hsrc hlen hbase h

/-- Behind such an append: nothing below B has turned. -/
theorem app8_below {w w' w0 : World} {B : Nat} {v : Value} {xs : List Int} (hown : Own8 w B v xs) (hg : w.grownBy w' v.ownBlock) (hb : Below B w0 w) (hB : B ≤ w.heap.size) : Below B w0 w' :=
  hb.grown hg hB (fun k hk => (hown.lt k hk).1)

/-- A byte in a block of its own. -/
theorem src_one (w : World) (x : Int) : Src (w.alloc (.cells #[.int .u8 x] 5)) (some ⟨w.heap.size, 0, none⟩) 1 [x] := by
  refine ⟨rfl, fun i hi => ⟨_, rfl, ?_⟩⟩
  obtain rfl : i = 0 := by omega
  rw [show (⟨w.heap.size, 0, none⟩ : Addr).add 0 = ⟨w.heap.size, 0, none⟩ from rfl, cell_blk (blk_new w _)]
  rfl

end Go.Proofs.Ytoljnogpegemjaa
namespace Go.Proofs.Ytoljnogpegemjaa
open Go.RowKit

theorem clone_nil (c : Nat) (w : World) :
    Calls Try.prog 33 #[.slice none 0 c] w fun e w' => e = .returned (.slice none 0 0) ∧ w = w' := by
  have q := fun (w : World) (a : Option Addr) (n c n' c' : Nat) => Lib.run_eql_slice_nil (P := Try.prog) w 24 5 a n c n' c' Try.underlying24
  go_enter Try.func33, Try.ntmps33
  go_wp2
  go_ret
  exact ⟨rfl, rfl⟩

set_option maxHeartbeats 400000 in
theorem clone_any (ad : Addr) (n c : Nat) (xs : List Int) (w : World) (hsrc : Src w (some ad) n xs) (hn : n ≤ 1099511627776) :
    Calls Try.prog 33 #[.slice (some ad) n c] w fun e w' => ∃ v, e = .returned v ∧ Owns w' w.heap.size v xs ∧ Below w.heap.size w w' := by
  have q := fun (w : World) (a : Option Addr) (n c n' c' : Nat) => Lib.run_eql_slice_nil (P := Try.prog) w 24 5 a n c n' c' Try.underlying24
  obtain ⟨i0, hi, hz0, hz1, hz2⟩ := info_parts info_u8
  have hxl := hsrc.len
  have hcs : (xs.map (Value.int .u8)).length = n * 1 := by simp [hxl]
  have hsr : ∀ o, ∀ j v, (xs.map (Value.int .u8))[j]? = some v → (w.alloc o).cell? (ad.add j) = some v := by
    intro o j v hj
    rw [List.getElem?_map] at hj
    have hjl : j < xs.length := by
      rcases Nat.lt_or_ge j xs.length with q | q
      · exact q
      · rw [List.getElem?_eq_none q] at hj; cases hj
    obtain ⟨a', he, hc⟩ := hsrc.cell j (by omega)
    cases he
    refine ((Kept.refl (fun _ => False) w).alloc o).cellX (v := v) ?_ id
    rw [hc]
    simp [hjl] at hj
    simp [List.getD, hjl, hj]
  have hone : ∀ v ∈ xs.map (Value.int .u8), v.oneCell' = true := by
    intro v hv
    obtain ⟨x, _, rfl⟩ := List.mem_map.1 hv
    rfl
  have hown0 : (w.alloc (.cells #[] 5)).ownsRow w.heap.size 5 1 (.slice (some ⟨w.heap.size, 0, none⟩) 0 0) 0 [] := World.ownsRow_made w #[] 0 (Nat.le_refl _) (by decide) rfl
  have HCS := Lib.hid hcs
  have HSR := Lib.hid hsr
  have HONE := Lib.hid hone
  have HOWN := Lib.hid hown0
  have HXL := Lib.hid hxl
  clear hcs hsr hone hown0 hxl
  go_enter Try.func33, Try.ntmps33
  go_wp2_with (at_builtin; refine wpList_append_own _ rfl _ _ 24 rfl w.heap.size 5 i0 (.int .u8 0) 1 1 Try.underlying24 hi hz0 hz1 hz2 rfl (by decide) _ _ _ rfl HOWN.out ad n _ (xs.map (Value.int .u8)) rfl HCS.out (HSR.out _) HONE.out ?_ ?_ ?_ ?_; rotate_right; intro v' w1 hown' hgrow hnil)
  · go_ret
    refine ⟨v', rfl, Owns.of_row ?_ ?_, ?_⟩
    · rw [HXL.out]; simpa using hown'
    · intro e
      have := (hnil.1 e).1
      cases this
    · exact ((Below.refl _ w).alloc (Nat.le_refl _) _).grown hgrow (by simp) (fun k e => by cases e; exact Nat.le_refl _)
  · unfold maxLen; omega
  · omega
  · simp

end Go.Proofs.Ytoljnogpegemjaa
namespace Go.Proofs.Ytoljnogpegemjaa
open Go.RowKit

/-- The cells of an array of integers. -/
def arr (k : IntKind) (xs : List Int) : Array Value := (xs.map (Value.int k)).toArray
theorem arr_size (k : IntKind) (xs : List Int) : (arr k xs).size = xs.length := by simp [arr]
theorem arr_get (k : IntKind) (xs : List Int) (i : Nat) (h : i < xs.length) : (arr k xs)[i]? = some (.int k (xs.getD i 0)) := by simp [arr, List.getD, h]

theorem all_range_int : ∀ (xs ys : List Int), xs.length = ys.length → ((List.range xs.length).all fun i => xs.getD i 0 == ys.getD i 0) = (xs == ys)
  | [], [], _ => rfl
  | x :: xs, y :: ys, h => by
    have ih := all_range_int xs ys (by simpa using h)
    rw [List.length_cons, List.range_succ_eq_map, List.all_cons, List.all_map]
    simp only [List.getD_cons_zero, Function.comp_def, List.getD_cons_succ, ih]
    simp [List.cons_beq_cons]
  | [], _ :: _, h => by simp at h
  | _ :: _, [], h => by simp at h

section
variable {P : Program} (w : World)
theorem run_equalIn_arr (d : Nat) (t e : TypeId) (n : Nat) (k k' : IntKind) (ht : P.underlying t = some (.array n e)) (he : P.underlying e = some (.int k')) (hsz : ∀ w, (sizeOf e).run P w = .ok 1 w)
    (xs ys : List Int) (hx : xs.length = n) (hy : ys.length = n) :
    (Op.equalIn (d + 2) t (.agg (arr k xs)) (.agg (arr k ys))).run P w = .ok (xs == ys) w := by
  rw [← all_range_int xs ys (hx.trans hy.symm), hx, List.range_eq_range', Op.equalIn]
  simp only [Sem.run_bind, run_underlying ht, Result.andThen_ok, hsz, Std.Legacy.Range.forIn_eq_forIn_range', Std.Legacy.Range.size, Nat.sub_zero, Nat.add_sub_cancel, Nat.div_one]
  have hl : ∀ i ∈ List.range' 0 n 1, i < n := fun i hi => by simpa using (List.mem_range'_1.1 hi).2
  generalize List.range' 0 n 1 = l at hl ⊢
  induction l with
  | nil => simp
  | cons i l ih =>
    have hi : i < n := hl i (by simp)
    have px : (part e (arr k xs) (i * 1)).run P w = .ok (.int k (xs.getD i 0)) w := by
      simp [part, isAgg, run_underlying he, arr, List.getD, List.getElem?_eq_getElem (show i < xs.length by omega)]
    have py : (part e (arr k ys) (i * 1)).run P w = .ok (.int k (ys.getD i 0)) w := by
      simp [part, isAgg, run_underlying he, arr, List.getD, List.getElem?_eq_getElem (show i < ys.length by omega)]
    have pe : (Op.equalIn (d + 1) e (.int k (xs.getD i 0)) (.int k (ys.getD i 0))).run P w = .ok (xs.getD i 0 == ys.getD i 0) w :=
      run_equalIn_int w d e k k' _ _ he
    simp only [List.forIn_cons, Sem.run_bind, px, py, pe, Result.andThen_ok, List.all_cons]
    cases hb : (xs.getD i 0 == ys.getD i 0)
    · simp
    · simp only [Bool.not_true, Bool.false_eq_true, if_false, Sem.run_pure, Result.andThen_ok, Bool.true_and]
      exact ih fun j hj => hl j (by simp [hj])

theorem run_eql_arr (t e : TypeId) (n : Nat) (k k' : IntKind) (ht : P.underlying t = some (.array n e)) (he : P.underlying e = some (.int k')) (hsz : ∀ w, (sizeOf e).run P w = .ok 1 w)
    (xs ys : List Int) (hx : xs.length = n) (hy : ys.length = n) :
    (binOp .eql t (.agg (arr k xs)) (.agg (arr k ys))).run P w = .ok (.bool (xs == ys)) w := by
  rw [run_eql_struct, run_equalIn_arr w 9998 t e n k k' ht he hsz xs ys hx hy]
  rfl
theorem run_neq_arr (t e : TypeId) (n : Nat) (k k' : IntKind) (ht : P.underlying t = some (.array n e)) (he : P.underlying e = some (.int k')) (hsz : ∀ w, (sizeOf e).run P w = .ok 1 w)
    (xs ys : List Int) (hx : xs.length = n) (hy : ys.length = n) :
    (binOp .neq t (.agg (arr k xs)) (.agg (arr k ys))).run P w = .ok (.bool (!(xs == ys))) w := by
  rw [run_neq_struct, run_equalIn_arr w 9998 t e n k k' ht he hsz xs ys hx hy]
  rfl
end

/-- '==' of two arrays of integers, for the walk, which would lay the comparison open. -/
theorem wpList_eql_arr {P : Program} {ops : Array Oper} {rest : List Oper} {o : Oper} {a : Act} {w : World} {Q : Exit → Act → World → Prop} (hgd : Region.wanted o (yielded ops a.tmps) = true) (t ty e : TypeId) (x y : Operand) (ho : o.op = .binOp .eql t x y ty) (n : Nat) (k k' : IntKind)
    (ht : P.underlying t = some (.array n e)) (he : P.underlying e = some (.int k')) (hsz : ∀ w, (sizeOf e).run P w = .ok 1 w) (hm : P.eqGuardType P.depth t = false)
    (xs ys : List Int) (hx : a.eval x = .agg (arr k xs)) (hy : a.eval y = .agg (arr k ys)) (lx : xs.length = n) (ly : ys.length = n) (b : Bool) (hb : (xs == ys) = b)
    (h : wpList P ops Q rest (a.put o.dst (.bool b)) w) : wpList P ops Q (o :: rest) a w := by
  unfold wpList
  rw [if_pos hgd]
  left
  unfold Oper.wp
  simp only [execOp, ho, hx, hy, Sem.run_bind, run_eqGuard_agg w .eql t x y _ _ hm, Result.andThen_ok, run_eql_arr w t e n k k' ht he hsz xs ys lx ly, hb]
  exact h

/-- A build whose run is known by an equation: for the walk, which would lay the build open. -/
theorem wpList_build {P : Program} {ops : Array Oper} {rest : List Oper} {o : Oper} {a : Act} {w : World} {Q : Exit → Act → World → Prop} (hgd : Region.wanted o (yielded ops a.tmps) = true) (t : TypeId) (ps : Array (Nat × Operand)) (ho : o.op = .build t ps)
    (vs : Array (Nat × Value)) (hvs : ps.toList.map (fun p => (p.1, a.eval p.2)) = vs.toList) (v : Value) (hrun : (Instr.build t vs).run P w = .ok v w) (h : wpList P ops Q rest (a.put o.dst v) w) : wpList P ops Q (o :: rest) a w := by
  unfold wpList
  rw [if_pos hgd]
  left
  unfold Oper.wp
  have hv : ps.map (fun p => (p.1, a.eval p.2)) = vs := by apply Array.toList_inj.1; rw [Array.toList_map]; exact hvs
  simp only [execOp, ho, hv, Sem.run_bind, hrun, Result.andThen_ok]
  exact h

theorem kept_setCells {T : Nat → Prop} {a : World} (b : Nat) : ∀ (vs : List Value) (o : Nat) (w : World), Kept T a w → (T b ∨ a.heap.size ≤ b) → Kept T a (w.setCells b o vs)
  | [], _, _, h, _ => h
  | v :: vs, o, _, h, hb => kept_setCells b vs (o + 1) _ (h.setCell (p := ⟨b, o, none⟩) hb v) hb
theorem blk_setCells (b : Nat) (t : TypeId) (fr : Nat × Nat) : ∀ (vs : List Value) (o : Nat) (w : World) (c : Array Value), w.heap[b]? = some (.cells c t fr) → o + vs.length ≤ c.size →
    (w.setCells b o vs).heap[b]? = some (.cells (c.toList.take o ++ vs ++ c.toList.drop (o + vs.length)).toArray t fr)
  | [], o, _, c, h, _ => by
    rw [World.setCells, h]
    simp
  | v :: vs, o, _, c, h, hl => by
    rw [World.setCells, blk_setCells b t fr vs (o + 1) _ (c.setIfInBounds o v) (blk_setCell h v) (by simp at hl ⊢; omega)]
    simp only [List.length_cons] at hl
    have hlen : o < c.toList.length := by simp; omega
    simp only [Array.toList_setIfInBounds, List.length_cons]
    rw [List.take_succ_eq_append_getElem (by simpa using hlen), List.take_set_of_le (by omega), List.drop_set_of_lt (by omega)]
    simp [Nat.add_assoc, Nat.add_comm 1]

/-- Cells laid over a row, one by one. -/
theorem fold_set : ∀ (l : List Value) (cs : Array Value) (off m : Nat), off + m + l.length ≤ cs.size →
    ((l.zipIdx m).foldl (fun (cs : Array Value) (x : Value × Nat) => cs.setIfInBounds (off + x.2) x.1) cs).toList = cs.toList.take (off + m) ++ l ++ cs.toList.drop (off + m + l.length)
  | [], cs, off, m, _ => by simp
  | v :: l, cs, off, m, h => by
    rw [List.zipIdx_cons, List.foldl_cons, fold_set l _ off (m + 1) (by simp at h ⊢; omega)]
    simp only [Array.toList_setIfInBounds, List.length_cons]
    simp only [List.length_cons] at h
    have hlen : off + m < cs.toList.length := by simp; omega
    rw [show off + (m + 1) = (off + m) + 1 by omega, List.take_succ_eq_append_getElem (by simpa using hlen), List.take_set_of_le (by omega), List.drop_set_of_lt (by omega)]
    simp [Nat.add_assoc, Nat.add_comm 1]

/-- One part of a build: its cells over the row at its place. -/
theorem fill_cons (place : Nat → Option (Nat × Nat)) (cells : Array Value) (i : Nat) (v : Value) (rest : List (Nat × Value)) (off : Nat) (hp : place i = some (off, v.cells.size)) (hsz : off + v.cells.size ≤ cells.size) :
    Instr.fill place cells ((i, v) :: rest) = Instr.fill place (cells.toList.take off ++ v.cells.toList ++ cells.toList.drop (off + v.cells.size)).toArray rest := by
  rw [Instr.fill, hp]
  simp only [ne_eq, not_true_eq_false, decide_false, Bool.false_or, decide_eq_true_eq, gt_iff_lt]
  rw [if_neg (by omega)]
  congr 1
  apply Array.toList_inj.1
  have := fold_set v.cells.toList cells off 0 (by simpa using hsz)
  simp only [Nat.add_zero, Array.length_toList] at this
  rw [← this, ← Array.foldl_toList, Array.toList_zipIdx]

end Go.Proofs.Ytoljnogpegemjaa
namespace Go.Proofs.Ytoljnogpegemjaa
open Go.RowKit

theorem arr_toList (k : IntKind) (xs : List Int) : (arr k xs).toList = xs.map (Value.int k) := rfl
theorem all_arr (k : IntKind) (xs : List Int) : (arr k xs).all (·.oneCell') = true :=
  all_oneCell_toArray (by intro v hv; obtain ⟨y, _, rfl⟩ := List.mem_map.1 hv; rfl)

section
variable {P : Program}

theorem wpList_alloc_row {ops : Array Oper} {rest : List Oper} {o : Oper} {a : Act} {w : World} {Q : Exit → Act → World → Prop} (hgd : o.guard = none) (t : TypeId) (ho : o.op = .alloc t)
    (z : Array Value) (hz : (zeroValue t).run P w = .ok (.agg z) w) (h : wpList P ops Q rest (a.put o.dst (.pointer (some ⟨w.heap.size, 0, none⟩))) (w.alloc (.cells z t))) : wpList P ops Q (o :: rest) a w := by
  refine wpList_plain hgd fun K hK => ?_
  unfold Oper.wp execOp
  simp only [ho, Instr.alloc, Sem.run_bind, hz, Result.andThen_ok]
  exact hK _ _ h

/-- A store of a long array over a part of a block that is known whole. -/
theorem wpList_store_part {ops : Array Oper} {rest : List Oper} {o : Oper} {a : Act} {w : World} {Q : Exit → Act → World → Prop} (hgd : o.guard = none) (ty : TypeId) (x y : Operand) (ho : o.op = .store ty x y)
    (g off : Nat) (cs ds : Array Value) (t : TypeId) (hb : w.heap[g]? = some (.cells cs t (0, 0))) (hx : a.eval x = .pointer (some ⟨g, off, none⟩)) (hy : a.eval y = .agg ds)
    (hs : off + ds.size ≤ cs.size) (hi : (P.info? ty).map (·.size) = some ds.size) (h1 : ds.all (·.oneCell') = true)
    (h : ∀ w', w'.heap[g]? = some (.cells (cs.toList.take off ++ ds.toList ++ cs.toList.drop (off + ds.size)).toArray t (0, 0)) → Kept (fun i => i = g) w w' → w'.heap.size = w.heap.size → wpList P ops Q rest (a.put o.dst undef) w') :
    wpList P ops Q (o :: rest) a w := by
  refine wpList_store_mid hgd ty x y ho g off ds hx hy (fun j hj => ?_) hi h1 (h _ ?_ ?_ ?_)
  · rw [cell_blk hb]
    exact ⟨by rw [Array.getElem?_eq_getElem (by omega)]; rfl, free_blk hb _⟩
  · rw [blk_setCells _ _ _ _ _ _ _ hb (by simpa using hs)]
    simp
  · exact kept_setCells g _ _ _ (Kept.refl _ _) (.inl rfl)
  · have : ∀ (vs : List Value) (o : Nat) (w : World), (w.setCells g o vs).heap.size = w.heap.size := by
      intro vs
      induction vs with
      | nil => intro o w; rfl
      | cons v vs ih => intro o w; rw [World.setCells, ih]; simp [World.setCell]
    exact this _ _ _
/-- A store of a long array over a whole block. -/
theorem wpList_store_whole {ops : Array Oper} {rest : List Oper} {o : Oper} {a : Act} {w : World} {Q : Exit → Act → World → Prop} (hgd : o.guard = none) (ty : TypeId) (x y : Operand) (ho : o.op = .store ty x y)
    (g : Nat) (cs ds : Array Value) (t : TypeId) (hb : w.heap[g]? = some (.cells cs t (0, 0))) (hx : a.eval x = .pointer (some ⟨g, 0, none⟩)) (hy : a.eval y = .agg ds)
    (hs : ds.size = cs.size) (hi : (P.info? ty).map (·.size) = some ds.size) (h1 : ds.all (·.oneCell') = true)
    (h : ∀ w', w'.heap[g]? = some (.cells ds t (0, 0)) → Kept (fun i => i = g) w w' → w'.heap.size = w.heap.size → wpList P ops Q rest (a.put o.dst undef) w') :
    wpList P ops Q (o :: rest) a w := by
  refine wpList_store_part hgd ty x y ho g 0 cs ds t hb hx hy (by omega) hi h1 fun w' h2 h3 h4 => h w' ?_ h3 h4
  rw [h2]
  congr 2
  have : cs.toList.drop ds.size = [] := List.drop_eq_nil_of_le (by simp [hs])
  simp [this]

/-- A part of a block that is known whole. -/
theorem range_part {w : World} {g : Nat} {cs : Array Value} {t : TypeId} {fr : Nat × Nat} (hb : w.heap[g]? = some (.cells cs t fr)) (off : Nat) (xs : List Value) (hx : (cs.toList.drop off).take xs.length = xs) : w.rangeAt g off xs := by
  intro j v hj
  rw [cell_blk hb]
  have hl : j < xs.length := (List.getElem?_eq_some_iff.1 hj).1
  have := congrArg (fun l => l[j]?) hx
  simp only [List.getElem?_take, hl, if_true, List.getElem?_drop, hj] at this
  simpa using this
theorem wpList_load_part {ops : Array Oper} {rest : List Oper} {o : Oper} {a : Act} {w : World} {Q : Exit → Act → World → Prop} (hgd : o.guard = none) (ty : TypeId) (x : Operand) (ho : o.op = .load ty x)
    (g off : Nat) (cs : Array Value) (t : TypeId) (fr : Nat × Nat) (d : TypeDesc) (hb : w.heap[g]? = some (.cells cs t fr)) (hx : a.eval x = .pointer (some ⟨g, off, none⟩)) (k : IntKind) (xs : List Int)
    (hp : (cs.toList.drop off).take xs.length = xs.map (Value.int k)) (hu : P.underlying ty = some d) (hd : d.isRow = true) (hi : (P.info? ty).map (·.size) = some xs.length)
    (h : wpList P ops Q rest (a.put o.dst (.agg (arr k xs))) w) : wpList P ops Q (o :: rest) a w :=
  wpList_load_mid hgd ty x ho g off hx (xs.map (Value.int k)) d (range_part hb off _ (by rw [List.length_map]; exact hp)) hu hd (by rw [List.length_map]; exact hi) h

theorem run_index_arr (w : World) (t e : TypeId) (n : Nat) (k k' ik : IntKind) (ht : P.underlying t = some (.array n e)) (he : P.underlying e = some (.int k')) (hsz : ∀ w, (sizeOf e).run P w = .ok 1 w)
    (xs : List Int) (hx : xs.length = n) (j : Nat) (hj : j < n) : (Instr.index t (.agg (arr k xs)) (.int ik j)).run P w = .ok (.int k (xs.getD j 0)) w := by
  simp only [Instr.index, asIntOf, Sem.run_bind, Sem.run_pure, Result.andThen_ok, run_underlying ht]
  rw [if_pos (by omega)]
  simp only [Sem.run_bind, hsz, Result.andThen_ok, Int.toNat_natCast, Nat.mul_one]
  simp [part, isAgg, run_underlying he, arr, List.getD, List.getElem?_eq_getElem (show j < xs.length by omega)]
end
end Go.Proofs.Ytoljnogpegemjaa
namespace Go.Proofs.Ytoljnogpegemjaa
open Go.RowKit

/-- n lists of bytes lie behind the address sa (whatever it is where there are none). -/
structure SrcL (w : World) (sa : Option Addr) (n : Nat) (L : List (List Int)) : Prop where
  len : L.length = n
  cell : ∀ i, i < n → ∃ a si ci, sa = some a ∧ w.cell? (a.add i) = some (.slice si (L.getD i []).length ci) ∧ (L.getD i []).length ≤ ci ∧ Src w si (L.getD i []).length (L.getD i [])
theorem SrcL.below {w w' : World} {sa : Option Addr} {n : Nat} {L : List (List Int)} (h : SrcL w sa n L) (k : Below w.heap.size w w') : SrcL w' sa n L := by
  refine ⟨h.len, fun i hi => ?_⟩
  obtain ⟨a, si, ci, h1, h2, h3, h4⟩ := h.cell i hi
  exact ⟨a, si, ci, h1, (k.cell (World.block_lt_of_cell? w _ h2)).trans h2, h3, h4.below k⟩
def bytes (xs : List Int) : Prop := ∀ x ∈ xs, 0 ≤ x ∧ x ≤ 255
theorem bytes_at {xs : List Int} (h : bytes xs) (i : Nat) : 0 ≤ xs.getD i 0 ∧ xs.getD i 0 ≤ 255 := by
  simp only [List.getD]
  cases e : xs[i]? with
  | none => simp
  | some y => simpa using h y (List.mem_of_getElem? e)
theorem take_snoc {α : Type} (xs : List α) (i : Nat) (d : α) (h : i < xs.length) : xs.take (i + 1) = xs.take i ++ [xs.getD i d] := by
  rw [List.take_succ_eq_append_getElem h]
  simp [List.getD, h]
theorem flat_snoc (L : List (List Int)) (i : Nat) (h : i < L.length) : (L.take (i + 1)).flatten = (L.take i).flatten ++ L.getD i [] := by
  rw [take_snoc L i [] h, List.flatten_append]
  simp
theorem flat_le (L : List (List Int)) (i : Nat) (h : i < L.length) : (L.take i).flatten.length + (L.getD i []).length ≤ L.flatten.length := by
  have e := congrArg List.length (flat_snoc L i h)
  rw [List.length_append] at e
  rw [← e]
  have e2 : L.flatten = (L.take (i + 1)).flatten ++ (L.drop (i + 1)).flatten := by rw [← List.flatten_append, List.take_append_drop]
  rw [e2, List.length_append]
  omega
end Go.Proofs.Ytoljnogpegemjaa
namespace Go.Proofs.Ytoljnogpegemjaa
open Go.RowKit Go.ChangeShapes Go.WideShapes

/-- A slice of integers that came in. -/
def RowI (k : IntKind) (w : World) (a : Option Addr) (len cap : Nat) (zs : List Int) : Prop :=
  (a = none ∧ len = 0 ∧ cap = 0 ∧ zs = []) ∨
  ∃ x, a = some x ∧ len ≤ cap ∧ cap ≤ maxLen ∧ zs.length = cap ∧ (∀ i, i < zs.length → w.cell? (x.add i) = some (.int k (zs.getD i 0))) ∧ ∀ n ∈ zs, (Lit.int k n).wf = true

/-- An array of n integers by value. -/
def ArrOf (k : IntKind) (n : Nat) (v : Value) (zs : List Int) : Prop := v = .agg (zs.map (Value.int k)).toArray ∧ zs.length = n ∧ ∀ z ∈ zs, (Lit.int k z).wf = true

section
variable {H : Type} {enc : TypeId × Value → H} {P : Program} {w : World} {base : Nat} {spare : Nat → Bool} {held : Bool}

theorem okWide_arr {r : Reach} {b0 : Nat} {t e : TypeId} {n : Nat} {v : Value} (ht : P.underlying t = some (.array n e)) (h : Value.okWide P w r b0 t v) : ∃ cs, v = .agg cs ∧ cs.size = P.cellsOf t := by
  simp only [Value.okWide, ht] at h
  obtain ⟨cs, h1, h2, _⟩ := h
  exact ⟨cs, h1, h2⟩

theorem row_of {k : IntKind} {t e : TypeId} {a : Option Addr} {len cap fuel : Nat} {x : DataW H × List MemPlace} (ht : P.underlying t = some (.slice e)) (he : P.underlying e = some (.int k)) (hc : P.cellsOf e = 1)
    (hf : DataW.trod enc P w base (fun _ => true) held fuel t (Value.slice a len cap).cells.toList = some x) : ∃ zs, RowI k w a len cap zs := by
  rcases open_ints ht he hc hf with ⟨hcs, _⟩ | ⟨x, l, c, zs, hcs, _, hl, hm, hz, _, hcell, hwz⟩
  · simp [Value.cells] at hcs
    obtain ⟨rfl, rfl, rfl⟩ := hcs
    exact ⟨[], .inl ⟨rfl, rfl, rfl, rfl⟩⟩
  · simp [Value.cells] at hcs
    obtain ⟨rfl, rfl, rfl⟩ := hcs
    exact ⟨zs, .inr ⟨_, rfl, hl, hm, by simpa using hz, hcell, hwz⟩⟩

theorem cells_ints {k : IntKind} : ∀ (n : Nat) (cs : List Value), cs.length = n → (∀ i, i < n → ∃ z, (cs.drop i).take 1 = [.int k z] ∧ (Lit.int k z).wf = true) → ∃ zs : List Int, cs = zs.map (Value.int k) ∧ zs.length = n ∧ ∀ z ∈ zs, (Lit.int k z).wf = true
  | 0, cs, hl, _ => ⟨[], by simpa using List.eq_nil_of_length_eq_zero hl, rfl, by simp⟩
  | n + 1, cs, hl, h => by
    cases cs with
    | nil => simp at hl
    | cons c cs =>
      obtain ⟨z, h1, h2⟩ := h 0 (by omega)
      simp at h1
      obtain ⟨zs, e, l, m⟩ := cells_ints n cs (by simpa using hl) (fun i hi => by simpa using h (i + 1) (by omega))
      refine ⟨z :: zs, by simp [h1, e], by simp [l], ?_⟩
      intro y hy
      rcases List.mem_cons.1 hy with rfl | hy
      · exact h2
      · exact m y hy

theorem arr_of {k : IntKind} {r : Reach} {b0 : Nat} {t e : TypeId} {n : Nat} {v : Value} {d : DataW H} {p : List MemPlace} (ht : P.underlying t = some (.array n e)) (he : P.underlying e = some (.int k)) (hc : P.cellsOf e = 1) (hn : P.cellsOf t = n)
    (hv : Value.okWide P w r b0 t v) (h : DataW.Trod enc P w base spare held t v d p) : ∃ zs, ArrOf k n v zs := by
  obtain ⟨cs, rfl, hs⟩ := okWide_arr ht hv
  obtain ⟨fuel, hf⟩ := h
  obtain ⟨xs, m, _, _, hl, hx, hi⟩ := DataW.trod_array ht hf
  rw [hc] at hi
  have hl' : cs.toList.length = n := by rw [← hn]; exact hl
  obtain ⟨zs, e1, e2, e3⟩ := cells_ints (k := k) n cs.toList hl' (fun i h => by
    have := hi i h
    have hsome : ∃ y, xs[i]? = some y := ⟨xs[i], by rw [List.getElem?_eq_getElem]⟩
    obtain ⟨y, hy⟩ := hsome
    rw [hy] at this
    obtain ⟨z, h1, _, h2⟩ := DataW.trod_int he this
    refine ⟨z, ?_, h2⟩
    simpa [Value.cells] using h1)
  exact ⟨zs, by congr 1; apply Array.toList_inj.1; simpa using e1, e2, e3⟩

theorem wf_u8 {n : Int} (h : (Lit.int .u8 n).wf = true) : 0 ≤ n ∧ n ≤ 255 := bounds_u8 h
theorem wf_i64 {n : Int} (h : (Lit.int .i64 n).wf = true) : -9223372036854775808 ≤ n ∧ n ≤ 9223372036854775807 := bounds_i64 h
end
end Go.Proofs.Ytoljnogpegemjaa
namespace Go.Proofs.Ytoljnogpegemjaa
open Go.RowKit

theorem RowI.src {w : World} {a : Option Addr} {len cap : Nat} {zs : List Int} (h : RowI .u8 w a len cap zs) : Src w a len (zs.take len) ∧ bytes (zs.take len) ∧ len ≤ cap := by
  rcases h with ⟨rfl, rfl, rfl, rfl⟩ | ⟨x, rfl, hl, hm, hz, hc, hw⟩
  · exact ⟨⟨rfl, fun i hi => absurd hi (by omega)⟩, fun x hx => by simp at hx, Nat.le_refl _⟩
  · refine ⟨⟨by simp; omega, fun i hi => ⟨x, rfl, ?_⟩⟩, fun y hy => wf_u8 (hw y (List.mem_of_mem_take hy)), hl⟩
    rw [hc i (by omega)]
    simp [List.getD, hi]

theorem src_string {w : World} {sa : Option Addr} {n c : Nat} {xs : List Int} (h : Src w sa n xs) : (convert 24 9 (.slice sa n c)).run Try.prog w = .ok (.string (strOfNums xs)) w := by
  cases sa with
  | none =>
    have h0 : n = 0 := by
      rcases Nat.eq_zero_or_pos n with h0 | h0
      · exact h0
      · obtain ⟨_, he, _⟩ := h.cell 0 h0
        cases he
    have hx : xs = [] := List.eq_nil_of_length_eq_zero (h.len.trans h0)
    subst hx
    exact run_convert_bytes_nil w 24 5 Try.underlying24 Try.underlying5 n c 9 Try.underlying9
  | some a =>
    have hl : (loadCells a n).run Try.prog w = .ok (xs.map (Value.int .u8)).toArray w := by
      have := run_loadCells_list (P := Try.prog) w a (xs.map (Value.int .u8)) (src_news h a rfl)
      simpa [h.len] using this
    rw [run_convert_bytes_string w 24 9 5 _ n c Try.underlying24 Try.underlying5 Try.underlying9, run_bytesToString w _ n c xs hl, foldl_push_bytes]
    simp [strOfNums, ByteArray.empty, ByteArray.emptyWithCapacity]
    rfl

theorem Src.take {w : World} {sa : Option Addr} {n : Nat} {xs : List Int} (h : Src w sa n xs) (m : Nat) (hm : m ≤ n) : Src w sa m (xs.take m) := by
  refine ⟨by simp; have := h.len; omega, fun i hi => ?_⟩
  obtain ⟨a, e, hc⟩ := h.cell i (by omega)
  refine ⟨a, e, ?_⟩
  rw [hc]
  simp [List.getD, hi]
/-- A part of a source. -/
theorem Src.part {w : World} {ad : Addr} {n : Nat} {xs : List Int} (h : Src w (some ad) n xs) (o m : Nat) (hm : o + m ≤ n) : Src w (some (ad.add o)) m ((xs.drop o).take m) := by
  refine ⟨by simp; have := h.len; omega, fun i hi => ⟨_, rfl, ?_⟩⟩
  obtain ⟨a, e, hc⟩ := h.cell (o + i) (by omega)
  cases e
  have : (ad.add o).add i = ad.add (o + i) := by
    obtain ⟨b, off, s⟩ := ad
    unfold Addr.add
    by_cases ho : o = 0
    · subst ho; simp
    · by_cases hj : i = 0
      · subst hj; simp
      · simp [ho, hj, Nat.add_assoc]
  rw [this, hc]
  simp [List.getD, hi, List.getElem?_drop]

end Go.Proofs.Ytoljnogpegemjaa
