/- What a call keeps of memory: facts on worlds alone, no program in sight. No condition. -/
import Derived.WalkKit
import Derived.Lib.MinMax
import Derived.Lib.Hide
import Derived.Deep.Draws
import Derived.Deep.QuietTactic
import Derived.BigQuiet
namespace Go.Proofs.YtoljnogpegemjaaDoor
open Go.RowKit

/-- Of the blocks of w those alone may have turned of which T speaks. -/
structure Kept (T : Nat → Prop) (w w' : World) : Prop where
  os : w'.os = w.os
  tape : w'.tape = w.tape
  output : w'.output = w.output
  size : w.heap.size ≤ w'.heap.size
  block : ∀ k, k < w.heap.size → ¬ T k → w'.heap[k]? = w.heap[k]?

theorem Kept.refl (T : Nat → Prop) (w : World) : Kept T w w := ⟨rfl, rfl, rfl, Nat.le_refl _, fun _ _ _ => rfl⟩

theorem Kept.trans {T : Nat → Prop} {a b c : World} (h : Kept T a b) (k : Kept T b c) : Kept T a c :=
  ⟨k.os.trans h.os, k.tape.trans h.tape, k.output.trans h.output, Nat.le_trans h.size k.size,
    fun i hi ht => (k.block i (Nat.lt_of_lt_of_le hi h.size) ht).trans (h.block i hi ht)⟩

/-- The second step may also turn what is new since a. -/
theorem Kept.trans_new {T T' : Nat → Prop} {a b c : World} (h : Kept T a b) (k : Kept T' b c) (ht : ∀ i, i < a.heap.size → T' i → T i) : Kept T a c :=
  ⟨k.os.trans h.os, k.tape.trans h.tape, k.output.trans h.output, Nat.le_trans h.size k.size,
    fun i hi hn => (k.block i (Nat.lt_of_lt_of_le hi h.size) (fun e => hn (ht i hi e))).trans (h.block i hi hn)⟩

theorem Kept.mono {T T' : Nat → Prop} {a b : World} (h : Kept T a b) (ht : ∀ i, i < a.heap.size → T i → T' i) : Kept T' a b :=
  ⟨h.os, h.tape, h.output, h.size, fun i hi hn => h.block i hi (fun e => hn (ht i hi e))⟩

theorem Kept.drewN {T : Nat → Prop} {a w : World} (h : Kept T a w) (n : Nat) : Kept T a (w.drewN n) := ⟨h.os, h.tape, h.output, h.size, h.block⟩
theorem Kept.drew {T : Nat → Prop} {a w : World} (h : Kept T a w) : Kept T a w.drew := ⟨h.os, h.tape, h.output, h.size, h.block⟩

theorem Kept.alloc {T : Nat → Prop} {a w : World} (h : Kept T a w) (o : Obj) : Kept T a (w.alloc o) :=
  h.trans ⟨rfl, rfl, rfl, by simp, fun k hk _ => Below.heap_alloc _ _ _ hk⟩

theorem Kept.setCell {T : Nat → Prop} {a w : World} (h : Kept T a w) {p : Addr} (hp : T p.block ∨ a.heap.size ≤ p.block) (u : Value) : Kept T a (w.setCell p u) :=
  ⟨h.os, h.tape, h.output, by simpa [World.setCell] using h.size, fun k hk ht => (Below.heap_setCell w p u k (by
    rintro rfl
    rcases hp with hp | hp
    · exact ht hp
    · omega)).trans (h.block k hk ht)⟩

theorem Kept.of_below {T : Nat → Prop} {a b : World} (h : Below a.heap.size a b) : Kept T a b := ⟨h.os, h.tape, h.output, h.size, fun k hk _ => h.block k hk⟩

theorem Kept.toBelow {T : Nat → Prop} {B : Nat} {a b : World} (h : Kept T a b) (hB : B ≤ a.heap.size) (ht : ∀ i, T i → B ≤ i) : Below B a b :=
  ⟨h.os, h.tape, h.output, h.size, fun k hk => h.block k (Nat.lt_of_lt_of_le hk hB) (fun e => absurd (ht k e) (by omega))⟩

theorem Kept.blk {T : Nat → Prop} {a b : World} (h : Kept T a b) {k : Nat} {o : Obj} (hk : a.heap[k]? = some o) (ht : ¬ T k) : b.heap[k]? = some o :=
  (h.block k (Array.getElem?_eq_some_iff.1 hk).1 ht).trans hk

theorem Below.blk {B : Nat} {a b : World} (h : Below B a b) {k : Nat} {o : Obj} (hk : a.heap[k]? = some o) (ht : k < B) : b.heap[k]? = some o :=
  (h.block k ht).trans hk

theorem blk_lt {w : World} {k : Nat} {o : Obj} (h : w.heap[k]? = some o) : k < w.heap.size := (Array.getElem?_eq_some_iff.1 h).1

theorem blk_setCell {w : World} {b o : Nat} {c : Array Value} {t : TypeId} {fr : Nat × Nat} (h : w.heap[b]? = some (.cells c t fr)) (u : Value) :
    (w.setCell ⟨b, o, none⟩ u).heap[b]? = some (.cells (c.setIfInBounds o u) t fr) := by
  simp [World.setCell, Array.getElem?_modify, h]

theorem blk_setCell_ne {w : World} {b k o : Nat} {x : Obj} (h : w.heap[k]? = some x) (u : Value) (hne : k ≠ b) :
    (w.setCell ⟨b, o, none⟩ u).heap[k]? = some x := (Below.heap_setCell w ⟨b, o, none⟩ u k hne).trans h

theorem blk_alloc {w : World} {k : Nat} {x : Obj} (h : w.heap[k]? = some x) (o : Obj) : (w.alloc o).heap[k]? = some x :=
  (Below.heap_alloc w o k (blk_lt h)).trans h

theorem blk_new (w : World) (o : Obj) : (w.alloc o).heap[w.heap.size]? = some o := heap_alloc_new w o

theorem cell_blk {w : World} {b : Nat} {c : Array Value} {t : TypeId} {fr : Nat × Nat} (h : w.heap[b]? = some (.cells c t fr)) (o : Nat) : w.cell? ⟨b, o, none⟩ = c[o]? := by
  simp [World.cell?, h]

theorem free_blk {w : World} {b : Nat} {c : Array Value} {t : TypeId} (h : w.heap[b]? = some (.cells c t (0, 0))) (o : Nat) : w.frozen? ⟨b, o, none⟩ = false := by
  simp [World.frozen?, h]

theorem Below.drewN {B : Nat} {a w : World} (h : RowKit.Below B a w) (n : Nat) : RowKit.Below B a (w.drewN n) := ⟨h.os, h.tape, h.output, h.size, h.block⟩

theorem below_cell {a b : World} (h : RowKit.Below a.heap.size a b) {x : Addr} {v : Value} (hx : a.cell? x = some v) : b.cell? x = some v :=
  (h.cell (World.block_lt_of_cell? a _ hx)).trans hx

theorem Kept.at {p : Nat} {a w : World} (h : Kept (fun x => x = p) a w) (o : Nat) (u : Value) : Kept (fun x => x = p) a (w.setCell ⟨p, o, none⟩ u) := h.setCell (p := ⟨p, o, none⟩) (.inl rfl) u
theorem ret_bool {a b : Bool} (h : a = b) : Ending.returned (.bool a) = .returned (.bool b) := by rw [h]
theorem ret_int {k : IntKind} {a b : Int} (h : a = b) : Ending.returned (.int k a) = .returned (.int k b) := by rw [h]

end Go.Proofs.YtoljnogpegemjaaDoor
